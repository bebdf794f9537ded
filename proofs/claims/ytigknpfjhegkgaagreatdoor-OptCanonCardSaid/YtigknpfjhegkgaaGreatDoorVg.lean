/- Signals, read: the whole. -/
import Derived.Test.YtigknpfjhegkgaaGreatDoorVf
import Derived.KernelRfl
namespace Go.Proofs.YtigknpfjhegkgaaGreatDoor
open Go Go.AS
set_option maxRecDepth 100000
set_option linter.unusedSimpArgs false
set_option linter.unusedVariables false
attribute [local irreducible] Trie.set Trie.get Env.rd
attribute [local simp ↓] wV_b2s
attribute [local simp] Nat.add_assoc wD_cons'' wD_nil' wC_seq wC_ops wC_opsD_nil wC_cond wC_skip wC_ret wC_exit wC_block wO_cons' wO_nil wantedA wV_eq lop qop ev wL_some wL_none wPut envOf rd_set rd_leaf eqA thenC blockC wB_true wB_false endF unwindA resultsA resA tupleA rdCell rdCells wrCells cl fillP lay rep bi_eql bi_neq bi_lss bi_leq bi_gtr bi_geq bi_add bi_sub bs_eql bs_neq bi_shr4 unA get_set' AHeap.get_alloc oneCell beqd bned idxA

theorem dt_ok (A0 A : AHeap) (q2 q4 q6 p : Nat) (b : UInt8) (c : Cur) (S : DS A0 A q2 q4 q6 p false (⟨false, decide (b.toNat % 2 = 1), false, 0, decide (b.toNat / 4 % 2 = 1), false, 0, 0, 0, false, 0⟩ : Ds).cells c) (env : Env) (Q : Value → AHeap → Prop) (r2 : env.rd 2 = .pointer (some ⟨q2, 0, none⟩)) (r4 : env.rd 4 = .pointer (some ⟨q4, 0, none⟩)) (r5 : env.rd 5 = .int .u8 (b.toNat : Nat)) (r6 : env.rd 6 = .pointer (some ⟨q6, 0, none⟩))
    (hq : ∀ A', Ext NoB A0 A' → Q (resD Ds.cells dz (Ds.res (Ds.fill b c))) A') :
    wC T 83 none c83t { env := env, n := 128, dfs := [], A := A } (endF [.inr (2, 11, true), .inl 3] Q) := by
  dsimp only [c83t]
  have m2 := bm2 b
  unfold Ds.fill at hq
  generalize decide (b.toNat / 2 % 2 = 1) = la at hq m2
  generalize hha : decide (b.toNat % 2 = 1) = ha at hq S
  generalize hhm : decide (b.toNat / 4 % 2 = 1) = hm at hq S
  cases ha with
  | false =>
    have g6 := S.g6
    simp only [Ds.cells] at g6
    simp [r4, r6, g6]
    refine du_ok A0 A q2 q4 q6 p false false false 0 b c (by rw [hhm]; exact S) _ Q (by simp [r2]) (by simp [r4]) (by simp [r5]) (by simp [r6]) (by simp) ?_
    rw [hhm]
    exact hq
  | true =>
    have g6 := S.g6
    have l6 := AHeap.get_lt g6
    have l4 := AHeap.get_lt S.g4
    simp only [Ds.cells] at g6
    simp [r4, r5, r6, g6, l6, l4, S.g4, S.n46, S.n46.symm, m2, bitI_z]
    generalize hC : AHeap.set _ _ _ = C
    have SC : DS A0 C q2 q4 q6 p la (⟨false, true, la, 0, hm, false, 0, 0, 0, false, 0⟩ : Ds).cells c := by subst hC; exact (S.put6 (⟨false, true, la, 0, hm, false, 0, 0, 0, false, 0⟩ : Ds).cells).put4 la
    refine rnum_ok C q4 p c la SC.g4 SC.hc _ fun D dc eD => ?_
    have SD := SC.cur dc eD
    have d6 := SD.g6
    have w6 := AHeap.get_lt d6
    simp only [Ds.cells] at d6
    simp [r4, r6, d6, w6]
    generalize hE : AHeap.set _ _ _ = E
    have SE : DS A0 E q2 q4 q6 p la (⟨false, true, la, val (c.got (wide la)), hm, false, 0, 0, 0, false, 0⟩ : Ds).cells (c.go (wide la)) := by subst hE; exact SD.put6 (⟨false, true, la, val (c.got (wide la)), hm, false, 0, 0, 0, false, 0⟩ : Ds).cells
    refine du_ok A0 E q2 q4 q6 p la true la (val (c.got (wide la))) b _ (by rw [hhm]; exact SE) _ Q (by simp [r2]) (by simp [r4]) (by simp [r5]) (by simp [r6]) (by simp) ?_
    rw [hhm]
    exact hq
/-! ### What the cursors give -/
theorem Cur.go_in (s : List UInt8) (a b : UInt8) (r : List UInt8) (h : s = a :: b :: r) (i n : Nat) : i ≤ r.length → (if i + n ≤ r.length then (⟨s, 2 + i, false⟩ : Cur).go n = ⟨s, 2 + (i + n), false⟩ ∧ (⟨s, 2 + i, false⟩ : Cur).got n = seg r i n else (⟨s, 2 + i, false⟩ : Cur).go n = ⟨s, 2 + i, true⟩) := by
  subst h
  intro hi
  split
  · rename_i hn; exact go2 a b r i n hn
  · rename_i hn
    exact (Cur.go_no (c := ⟨a :: b :: r, 2 + i, false⟩) (.inr (by simp; omega))).1
theorem Cur.go_br (s : List UInt8) (i n : Nat) : (⟨s, i, true⟩ : Cur).go n = ⟨s, i, true⟩ := (Cur.go_no (c := ⟨s, i, true⟩) (.inl rfl)).1
theorem fill_dec (a b : UInt8) (r : List UInt8) (ha : a.toNat / 16 = 2) (h0 : (!decide (b.toNat % 2 = 1) && !decide (b.toNat / 4 % 2 = 1)) = false) : Ds.dec (a :: b :: r) = Ds.res (Ds.fill b ⟨a :: b :: r, 2, false⟩) := by
  have hn : ¬ a.toNat / 16 ≠ 2 := fun q => q ha
  simp only [Ds.dec, if_neg hn, Ds.fill, h0]
  rw [if_neg (by decide)]
  generalize decide (b.toNat % 2 = 1) = hA at h0 ⊢
  generalize decide (b.toNat / 2 % 2 = 1) = la
  generalize decide (b.toNat / 4 % 2 = 1) = hM at h0 ⊢
  generalize decide (b.toNat / 8 % 2 = 1) = ld
  generalize decide (b.toNat / 16 % 2 = 1) = fin
  generalize hs : a :: b :: r = s
  have go := fun i n hi => Cur.go_in s a b r hs.symm i n hi
  have ls : s.length = r.length + 2 := by subst hs; rfl
  have z0 : ∀ i n, r.length ≤ i → val (seg r i n) = 0 := fun i n q => by rw [seg_nil _ _ _ q]; rfl
  have hk1 : ∃ k, k = (if hA = true then wide (hA && la) else 0) ∧ (if k ≤ r.length then (⟨s, 2, false⟩ : Cur).on hA (wide (hA && la)) = ⟨s, 2 + k, false⟩ ∧ (⟨s, 2, false⟩ : Cur).num hA (wide (hA && la)) = val (seg r 0 k) else (⟨s, 2, false⟩ : Cur).on hA (wide (hA && la)) = ⟨s, 2, true⟩) := by
    refine ⟨_, rfl, ?_⟩
    cases hA with
    | false => simp [Cur.on, Cur.num, seg_zero, val_nil]
    | true =>
      have := go 0 (wide la) (Nat.zero_le _)
      simp only [Nat.add_zero, Nat.zero_add] at this
      simp only [if_true, Bool.true_and, Cur.on_t, Cur.num_t]
      split
      · rename_i h; rw [if_pos h] at this; exact ⟨this.1, by rw [this.2]⟩
      · rename_i h; rw [if_neg h] at this; exact this
  obtain ⟨k, hk, hk2⟩ := hk1
  rw [← hk]
  by_cases c1 : k ≤ r.length
  case neg =>
    rw [if_neg c1] at hk2
    rw [hk2, if_pos (by omega)]
    cases hM <;> simp [Ds.res, Cur.on, Cur.num, Cur.go_br, Cur.end_, Cur.left]
  rw [if_pos c1] at hk2
  rw [hk2.1, hk2.2]
  cases hM with
  | false =>
    have z1 := z0 k 0
    have hA' : hA = true := by cases hA <;> simp at h0 ⊢
    simp only [Bool.false_eq_true, if_false, Bool.false_and, Cur.on_f, Cur.num_f, Nat.add_zero, false_and, or_false]
    rw [if_neg (by omega)]
    by_cases c2 : r.length = k
    · rw [if_pos c2]
      have z1 := z0 k 0 (by omega)
      have z2 := z0 k 4 (by omega)
      have z3 := z0 (k + 4) 2 (by omega)
      have z4 := z0 (k + 6) 2 (by omega)
      simp [Ds.res, Cur.end_, ls, c2, z1, z2, z3, z4, show ¬ (2 + k < k + 2) by omega]
    · rw [if_neg c2]
      simp [Ds.res, Cur.end_, ls, show (2 + k < r.length + 2) by omega]
  | true =>
    simp only [if_true, Bool.true_and, Cur.on_t, Cur.num_t, true_and]
    have g1 := go k (wide ld) c1
    by_cases c2 : k + wide ld ≤ r.length
    case neg =>
      rw [if_neg c2] at g1
      rw [g1, if_pos (by omega)]
      simp [Ds.res, Cur.go_br, Cur.end_, Cur.left, Cur.on]
    rw [if_pos c2] at g1
    rw [g1.1, g1.2]
    have g2 := go (k + wide ld) 4 c2
    by_cases c3 : k + wide ld + 4 ≤ r.length
    case neg =>
      rw [if_neg c3] at g2
      rw [g2, if_pos (by omega)]
      simp [Ds.res, Cur.go_br, Cur.end_, Cur.left, Cur.on]
    rw [if_pos c3] at g2
    rw [g2.1, g2.2]
    have g3 := go (k + wide ld + 4) 2 c3
    by_cases c4 : k + wide ld + 4 + 2 ≤ r.length
    case neg =>
      rw [if_neg c4] at g3
      rw [g3, if_pos (by omega)]
      simp [Ds.res, Cur.end_, Cur.left, Cur.on]
    rw [if_pos c4] at g3
    rw [g3.1, g3.2, if_neg (by omega)]
    have g4 := go (k + wide ld + 4 + 2) 2 c4
    have e1 : (⟨s, 2 + (k + wide ld + 4 + 2), false⟩ : Cur).left = r.length - (k + wide ld + 6) := by simp [Cur.left, ls]; omega
    rw [e1]
    by_cases c5 : r.length = k + wide ld + 6
    · rw [if_pos (.inl c5)]
      have z4 := z0 (k + wide ld + 6) 2 (by omega)
      have d1 : decide (r.length - (k + wide ld + 6) = 2) = false := decide_eq_false (by omega)
      rw [d1]
      rw [Nat.add_assoc] at z4
      simp [Ds.res, Cur.end_, Cur.on, Cur.num, ls, c5, z4, show k + (wide ld + 8) ≤ 2 + (k + (wide ld + 6)) by omega]
    by_cases c6 : r.length = k + wide ld + 6 + 2
    · rw [if_pos (.inr c6)]
      have d1 : decide (r.length - (k + wide ld + 6) = 2) = true := decide_eq_true (by omega)
      rw [if_pos (by omega)] at g4
      rw [d1, Cur.on_t, Cur.num_t, g4.1, g4.2]
      simp [Ds.res, Cur.end_, ls, c6]
      omega
    · rw [if_neg (by omega)]
      have d1 : decide (r.length - (k + wide ld + 6) = 2) = false := decide_eq_false (by omega)
      rw [d1]
      simp [Ds.res, Cur.end_, Cur.on, Cur.num, ls, show ¬ r.length + 2 ≤ 2 + (k + (wide ld + 6)) by omega, show 2 + (k + (wide ld + 6)) < r.length + 2 by omega]
theorem ddec_ok (A : AHeap) (s : List UInt8) (hs : s.length < 1000000) (Q : Value → AHeap → Prop) (hq : ∀ A', Ext NoB A A' → Q (resD Ds.cells dz (Ds.dec s)) A') : wF T (.func (.func 83) #[] #[]) [.string ⟨⟨s⟩⟩] A Q := by
  refine wF_func (first := []) (captured := []) t83 ⟨rfl, by decide⟩ ?_
  dsimp only [c83]
  match s, hs, hq with
  | [], hs, hq =>
    simp
    generalize hB : AHeap.alloc _ _ = B
    have b0 : B.get A.size = some (.cells dz false 0) := by subst hB; simp [dz]
    have eB : Ext NoB A B := by subst hB; (repeat first | exact Ext.refl | assumption | refine Ext.allocN ?_ | refine Ext.setN ?_ (by first | omega | (simp; done) | (simp; omega)))
    refine none_ok B _ fun C eC => ?_
    have c0 := eC.get b0 id
    have lC := AHeap.get_lt c0
    simp [c0, lC, dz]
    exact hq _ (by have := eB.trans eC; (repeat first | exact Ext.refl | assumption | refine Ext.allocN ?_ | refine Ext.setN ?_ (by first | omega | (simp; done) | (simp; omega))))
  | a :: t, hs, hq =>
    by_cases h0 : a.toNat / 16 ≠ 2
    · have hd : Ds.dec (a :: t) = .error 7 := by simp only [Ds.dec, if_pos h0]
      rw [hd] at hq
      have y0 : ¬ (a.toNat : Int) / 16 = 2 := by omega
      simp [y0]
      generalize hB : AHeap.alloc _ _ = B
      have b0 : B.get A.size = some (.cells dz false 0) := by subst hB; simp [dz]
      have eB : Ext NoB A B := by subst hB; (repeat first | exact Ext.refl | assumption | refine Ext.allocN ?_ | refine Ext.setN ?_ (by first | omega | (simp; done) | (simp; omega)))
      refine none_ok B _ fun C eC => ?_
      have c0 := eC.get b0 id
      have lC := AHeap.get_lt c0
      simp [c0, lC, dz]
      exact hq _ (by have := eB.trans eC; (repeat first | exact Ext.refl | assumption | refine Ext.allocN ?_ | refine Ext.setN ?_ (by first | omega | (simp; done) | (simp; omega))))
    have y0 : (a.toNat : Int) / 16 = 2 := by omega
    simp [y0]
    generalize hB : AHeap.alloc _ _ = B
    have b0 : B.get A.size = some (.cells dz false 0) := by subst hB; simp [dz]
    have zB : B.size = A.size + 1 := by subst hB; simp
    have eB : Ext NoB A B := by subst hB; (repeat first | exact Ext.refl | assumption | refine Ext.allocN ?_ | refine Ext.setN ?_ (by first | omega | (simp; done) | (simp; omega)))
    refine Read_ok B (a :: t) hs _ fun D p hp eD lp => ?_
    have d0 := eD.get b0 id
    have zD := eD.size
    have lpD := AHeap.get_lt hp.g
    simp
    generalize hE : AHeap.alloc _ _ = E
    have e0 : E.get A.size = some (.cells dz false 0) := by subst hE; simp [d0, show A.size ≠ D.size by omega]
    have e4 : E.get D.size = some (.cells [.pointer (some ⟨p, 0, none⟩), .bool false] false 0) := by subst hE; simp
    have eDE : Ext NoB D E := by subst hE; (repeat first | exact Ext.refl | assumption | refine Ext.allocN ?_ | refine Ext.setN ?_ (by first | omega | (simp; done) | (simp; omega)))
    have ec := hp.ext eDE id
    have eE := (eB.trans eD).trans eDE
    simp [e4]
    refine U8_ok E p _ ec _ fun F fc eF => ?_
    have f0 := eF.get e0 (by omega)
    have f4 := eF.get e4 (by omega)
    have eeF := eE.past eF (by omega)
    simp [f4]
    refine U8_ok F p _ fc _ fun G gc eG => ?_
    have g0 := eG.get f0 (by omega)
    have g4 := eG.get f4 (by omega)
    have eeG := eeF.past eG (by omega)
    have l0 := AHeap.get_lt g0
    have zG := AHeap.get_lt g4
    simp [g4]
    refine End_ok G p _ gc _ ?_
    match t, hs, hq, gc with
    | [], hs, hq, gc =>
      have hd : Ds.dec [a] = .error 4 := by simp only [Ds.dec, if_neg h0]
      rw [hd] at hq
      have k1 : ((⟨[a], 0, false⟩ : Cur).go 1).go 1 = ⟨[a], 1, true⟩ := by
        rw [(Cur.go_ok (c := ⟨[a], 0, false⟩) (n := 1) rfl (by simp)).1]
        exact (Cur.go_no (c := ⟨[a], 1, false⟩) (.inr (by simp))).1
      rw [k1]
      simp [Cur.end_]
      refine none_ok G _ fun C eC => ?_
      have c0 := eC.get g0 id
      have lC := AHeap.get_lt c0
      simp [c0, lC, dz]
      exact hq _ (by have := eeG.trans eC; (repeat first | exact Ext.refl | assumption | refine Ext.allocN ?_ | refine Ext.setN ?_ (by first | omega | (simp; done) | (simp; omega))))
    | b :: r, hs, hq, gc =>
      obtain ⟨k1, k2, k3, k4⟩ := first2 _ a b r rfl
      rw [k1, k3] at gc
      rw [k1, k3, k4]
      simp only [val_one]
      have he : (⟨a :: b :: r, 2, false⟩ : Cur).end_ = 0 ∨ (⟨a :: b :: r, 2, false⟩ : Cur).end_ = 5 := by
        unfold Cur.end_
        rw [if_neg (show ¬ (⟨a :: b :: r, 2, false⟩ : Cur).br = true from Bool.false_ne_true)]
        split
        · exact .inr rfl
        · exact .inl rfl
      have hne : ¬ (⟨a :: b :: r, 2, false⟩ : Cur).end_ = 4 := by omega
      have m1 := bm1 b
      have m4 := bm4 b
      simp only [Nat.div_one] at m1
      obtain ⟨ha, hha⟩ : ∃ x, x = decide (b.toNat % 2 = 1) := ⟨_, rfl⟩
      obtain ⟨hm, hhm⟩ : ∃ x, x = decide (b.toNat / 4 % 2 = 1) := ⟨_, rfl⟩
      rw [← hha] at m1
      rw [← hhm] at m4
      cases hor : (!ha && !hm) with
      | true =>
        have hd : Ds.dec (a :: b :: r) = .error 5 := by
          simp only [Ds.dec, if_neg h0]
          rw [← hha, ← hhm, if_pos hor]
        rw [hd] at hq
        have q1 : ha = false := by cases ha <;> simp at hor ⊢
        have q2 : hm = false := by cases hm <;> simp [q1] at hor ⊢
        rw [q1] at m1
        rw [q2] at m4
        simp [hne, m1, m4, bitI]
        generalize hH : AHeap.set _ _ _ = H
        have eGH : Ext NoB G H := by subst hH; (repeat first | exact Ext.refl | assumption | refine Ext.allocN ?_ | refine Ext.setN ?_ (by first | omega | (simp; done) | (simp; omega)))
        refine none_ok H _ fun C eC => ?_
        have c0 := eC.get (eGH.get g0 id) id
        have lC := AHeap.get_lt c0
        simp [c0, lC, dz]
        exact hq _ (by have := (eeG.trans eGH).trans eC; (repeat first | exact Ext.refl | assumption | refine Ext.allocN ?_ | refine Ext.setN ?_ (by first | omega | (simp; done) | (simp; omega))))
      | false =>
        rw [fill_dec a b r (by omega) (by rw [← hha, ← hhm]; exact hor)] at hq
        have hcond : ha = true ∨ hm = true := by cases ha <;> cases hm <;> simp at hor ⊢
        have fin : ∀ (H : AHeap) (env : Env), H = (G.alloc (.cells [.bool false, .bool false, .bool false, .int .u64 0, .bool false, .bool false, .int .u64 0, .int .u32 0, .int .i64 0, .bool false, .int .u16 0] false 0)).set G.size (.cells [.bool false, .bool ha, .bool false, .int .u64 0, .bool hm, .bool false, .int .u64 0, .int .u32 0, .int .i64 0, .bool false, .int .u16 0] false 0) → env.rd 2 = .pointer (some ⟨A.size, 0, none⟩) → env.rd 4 = .pointer (some ⟨D.size, 0, none⟩) → env.rd 5 = .int .u8 (b.toNat : Nat) → env.rd 6 = .pointer (some ⟨G.size, 0, none⟩) → wC T 83 none c83t { env := env, n := 128, dfs := [], A := H } (endF [.inr (2, 11, true), .inl 3] Q) := by
          intro H env hH r2 r4 r5 r6
          have eGH : Ext NoB G H := by subst hH; (repeat first | exact Ext.refl | assumption | refine Ext.allocN ?_ | refine Ext.setN ?_ (by first | omega | (simp; done) | (simp; omega)))
          refine dt_ok A H A.size D.size G.size p b ⟨a :: b :: r, 2, false⟩ ⟨eGH.get g0 id, eGH.get g4 id, by subst hH; simp [Ds.cells, hha, hhm], gc.ext eGH id, by omega, by omega, by omega, by omega, by omega, by have := AHeap.get_lt gc.g; omega, eeG.trans eGH, by omega, by omega, by omega, by omega⟩ env Q r2 r4 r5 r6 hq
        rcases hcond with q | q
        · rw [q] at m1
          cases hm <;> simp [hne, m1, m4, bitI] <;> refine fin _ _ (by rw [q]) ?_ ?_ ?_ ?_ <;> simp
        · rw [q] at m4
          cases ha <;> simp [hne, m1, m4, bitI] <;> refine fin _ _ (by rw [q]) ?_ ?_ ?_ ?_ <;> simp
end Go.Proofs.YtigknpfjhegkgaaGreatDoor
