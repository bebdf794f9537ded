/- Texts of this claim, one behind the other. -/
import Derived.Test.YtigknpfjhegkgaaGreatDoorNd
import Derived.Test.YtigknpfjhegkgaaGreatDoorKe
import Derived.KernelRfl
section
/- Signals, read: the walk. -/
namespace Go.Proofs.YtigknpfjhegkgaaGreatDoor
open Go Go.AS
set_option maxRecDepth 100000
set_option linter.unusedSimpArgs false
set_option linter.unusedVariables false
attribute [local irreducible] Trie.set Trie.get Env.rd
attribute [local simp ↓] wV_b2s
attribute [local simp] Nat.add_assoc wD_cons'' wD_nil' wC_seq wC_ops wC_opsD_nil wC_cond wC_skip wC_ret wC_exit wC_block wO_cons' wO_nil wantedA wV_eq lop qop ev wL_some wL_none wPut envOf rd_set rd_leaf eqA thenC blockC wB_true wB_false endF unwindA resultsA resA tupleA rdCell rdCells wrCells cl fillP lay rep bi_eql bi_neq bi_lss bi_leq bi_gtr bi_geq bi_add bi_sub bs_eql bs_neq bi_shr4 unA get_set' AHeap.get_alloc oneCell beqd bned idxA

structure DS (A0 A : AHeap) (q2 q4 q6 p : Nat) (l : Bool) (x : List Value) (c : Cur) : Prop where
  g2 : A.get q2 = some (.cells dz false 0)
  g4 : A.get q4 = some (.cells [.pointer (some ⟨p, 0, none⟩), .bool l] false 0)
  g6 : A.get q6 = some (.cells x false 0)
  hc : CurAt A p c
  n24 : q2 ≠ q4
  n26 : q2 ≠ q6
  n46 : q4 ≠ q6
  n2p : q2 ≠ p
  n4p : q4 ≠ p
  n6p : q6 ≠ p
  ex : Ext NoB A0 A
  l2 : A0.size ≤ q2
  l4 : A0.size ≤ q4
  l6 : A0.size ≤ q6
  lp : A0.size ≤ p
theorem DS.cur {A0 A A' : AHeap} {q2 q4 q6 p : Nat} {l : Bool} {x : List Value} {c c' : Cur} (h : DS A0 A q2 q4 q6 p l x c) (hc : CurAt A' p c') (e : Ext (fun j => j = p) A A') : DS A0 A' q2 q4 q6 p l x c' :=
  ⟨e.get h.g2 h.n2p, e.get h.g4 h.n4p, e.get h.g6 h.n6p, hc, h.n24, h.n26, h.n46, h.n2p, h.n4p, h.n6p, h.ex.past e h.lp, h.l2, h.l4, h.l6, h.lp⟩
theorem DS.put6 {A0 A : AHeap} {q2 q4 q6 p : Nat} {l : Bool} {x : List Value} {c : Cur} (h : DS A0 A q2 q4 q6 p l x c) (y : List Value) : DS A0 (A.set q6 (.cells y false 0)) q2 q4 q6 p l y c :=
  have e : Ext (fun j => j = q6) A (A.set q6 (.cells y false 0)) := Ext.set rfl
  ⟨e.get h.g2 h.n26, e.get h.g4 h.n46, by simp [AHeap.get_lt h.g6], h.hc.ext e (Ne.symm h.n6p), h.n24, h.n26, h.n46, h.n2p, h.n4p, h.n6p, h.ex.past e h.l6, h.l2, h.l4, h.l6, h.lp⟩
theorem DS.put4 {A0 A : AHeap} {q2 q4 q6 p : Nat} {l : Bool} {x : List Value} {c : Cur} (h : DS A0 A q2 q4 q6 p l x c) (k : Bool) : DS A0 (A.set q4 (.cells [.pointer (some ⟨p, 0, none⟩), .bool k] false 0)) q2 q4 q6 p k x c :=
  have e : Ext (fun j => j = q4) A (A.set q4 (.cells [.pointer (some ⟨p, 0, none⟩), .bool k] false 0)) := Ext.set rfl
  ⟨e.get h.g2 h.n24, by simp [AHeap.get_lt h.g4], e.get h.g6 (Ne.symm h.n46), h.hc.ext e (Ne.symm h.n4p), h.n24, h.n26, h.n46, h.n2p, h.n4p, h.n6p, h.ex.past e h.l4, h.l2, h.l4, h.l6, h.lp⟩
theorem got_lt (c : Cur) (n : Nat) : val (c.got n) < 256 ^ n := by
  have := val_p (c.got n) 0 n
  have h2 : seg (c.got n) 0 n = c.got n := List.take_of_length_le (by unfold Cur.got; split <;> simp; omega)
  rwa [h2] at this
theorem Cur.on_t (c : Cur) (n : Nat) : c.on true n = c.go n := rfl
theorem Cur.on_f (c : Cur) (n : Nat) : c.on false n = c := rfl
theorem Cur.num_t (c : Cur) (n : Nat) : c.num true n = val (c.got n) := rfl
theorem Cur.num_f (c : Cur) (n : Nat) : c.num false n = 0 := rfl
theorem end_cases (c : Cur) : c.end_ = 0 ∨ c.end_ = 4 ∨ c.end_ = 5 := by
  unfold Cur.end_; split
  · exact .inr (.inl rfl)
  split
  · exact .inr (.inr rfl)
  · exact .inl rfl
theorem dv_ok (A0 A : AHeap) (q2 q4 q6 p : Nat) (l : Bool) (x : Ds) (c : Cur) (S : DS A0 A q2 q4 q6 p l x.cells c) (env : Env) (Q : Value → AHeap → Prop) (r2 : env.rd 2 = .pointer (some ⟨q2, 0, none⟩)) (r4 : env.rd 4 = .pointer (some ⟨q4, 0, none⟩)) (r6 : env.rd 6 = .pointer (some ⟨q6, 0, none⟩))
    (hq : ∀ A', Ext NoB A0 A' → Q (resD Ds.cells dz (Ds.res (x, c))) A') : wC T 83 none c83v { env := env, n := 128, dfs := [], A := A } (endF [.inr (2, 11, true), .inl 3] Q) := by
  dsimp only [c83v]
  simp [r4, S.g4]
  refine End_ok A p c S.hc _ ?_
  have lA := AHeap.get_lt S.g2
  rcases end_cases c with h | h | h
  · have hr : Ds.res (x, c) = .ok x := if_pos h
    rw [hr] at hq
    have hl : x.cells.length = 11 := rfl
    have ht : x.cells.take 11 = x.cells := rfl
    have h1 : x.cells.all oneCell = true := rfl
    have ly : AS.lay dz 0 x.cells = x.cells := rfl
    have dl : dz.length = 11 := rfl
    simp [h, r2, r6, S.g6, S.g2, lA, hl, ht, h1, ly, dl]
    refine hq _ ?_
    have := S.l2
    have := S.ex
    (repeat first | exact Ext.refl | assumption | refine Ext.allocN ?_ | refine Ext.setN ?_ (by first | omega | (simp; done) | (simp; omega)))
  all_goals
    have hr : Ds.res (x, c) = .error c.end_ := if_neg (by show ¬ c.end_ = 0; omega)
    rw [hr] at hq
    rw [h] at hq ⊢
    simp [r2]
    refine none_ok A _ fun B eB => ?_
    have b2 := eB.get S.g2 id
    have lB := AHeap.get_lt b2
    simp [b2, lB, dz, r2]
    refine hq _ ?_
    have := S.l2
    have := S.ex.trans eB
    (repeat first | exact Ext.refl | assumption | refine Ext.allocN ?_ | refine Ext.setN ?_ (by first | omega | (simp; done) | (simp; omega)))
theorem du_ok (A0 A : AHeap) (q2 q4 q6 p : Nat) (l ha la : Bool) (ak : Nat) (b : UInt8) (c : Cur) (S : DS A0 A q2 q4 q6 p l (⟨false, ha, la, ak, decide (b.toNat / 4 % 2 = 1), false, 0, 0, 0, false, 0⟩ : Ds).cells c) (env : Env) (Q : Value → AHeap → Prop) (r2 : env.rd 2 = .pointer (some ⟨q2, 0, none⟩)) (r4 : env.rd 4 = .pointer (some ⟨q4, 0, none⟩)) (r5 : env.rd 5 = .int .u8 (b.toNat : Nat)) (r6 : env.rd 6 = .pointer (some ⟨q6, 0, none⟩))
    (r7 : env.rd 7 = .func (.func 142) ⟨[.pointer (some ⟨q4, 0, none⟩)]⟩ ⟨[]⟩)
    (hq : ∀ A', Ext NoB A0 A' → Q (resD Ds.cells dz (Ds.res (let hm := decide (b.toNat / 4 % 2 = 1); let ld := hm && decide (b.toNat / 8 % 2 = 1); let c2 := c.on hm (wide ld); let c3 := c2.on hm 4; let c4 := c3.on hm 2; let hs := hm && decide (c4.left = 2); (⟨hm && decide (b.toNat / 16 % 2 = 1), ha, la, ak, hm, ld, c.num hm (wide ld), c2.num hm 4, (c3.num hm 2 : Nat), hs, c4.num hs 2⟩, c4.on hs 2)))) A') :
    wC T 83 none c83u { env := env, n := 128, dfs := [], A := A } (endF [.inr (2, 11, true), .inl 3] Q) := by
  dsimp only [c83u]
  have m8 := bm8 b
  have m16 := bm16 b
  generalize decide (b.toNat / 8 % 2 = 1) = ld at hq m8
  generalize decide (b.toNat / 16 % 2 = 1) = fin at hq m16
  generalize decide (b.toNat / 4 % 2 = 1) = hm at hq S
  cases hm with
  | false =>
    simp only [Bool.false_and, Cur.on_f, Cur.num_f] at hq
    have g6 := S.g6
    simp only [Ds.cells] at g6
    simp [r6, g6]
    exact dv_ok A0 A q2 q4 q6 p l _ c S _ Q (by simp [r2]) (by simp [r4]) (by simp [r6]) hq
  | true =>
    simp only [Bool.true_and, Cur.on_t, Cur.num_t] at hq
    have g6 := S.g6
    have l6 := AHeap.get_lt g6
    simp only [Ds.cells] at g6
    have l4 := AHeap.get_lt S.g4
    simp [r4, r5, r6, r7, g6, l6, l4, S.g4, S.n46, S.n46.symm, m8, m16, bitI_z]
    generalize hC : AHeap.set _ _ _ = C
    have SC : DS A0 C q2 q4 q6 p ld (⟨fin, ha, la, ak, true, ld, 0, 0, 0, false, 0⟩ : Ds).cells c := by subst hC; exact ((S.put6 (⟨false, ha, la, ak, true, ld, 0, 0, 0, false, 0⟩ : Ds).cells).put6 (⟨fin, ha, la, ak, true, ld, 0, 0, 0, false, 0⟩ : Ds).cells).put4 ld
    refine rnum_ok C q4 p c ld SC.g4 SC.hc _ fun D dc eD => ?_
    have SD := SC.cur dc eD
    have d6 := SD.g6
    have w6 := AHeap.get_lt d6
    simp only [Ds.cells] at d6
    generalize val (c.got (wide ld)) = dsn at hq ⊢
    generalize c.go (wide ld) = c2 at hq SD dc
    simp [r4, r6, d6, w6, SD.g4, SD.n46]
    generalize hE : AHeap.set _ _ _ = E
    have SE : DS A0 E q2 q4 q6 p ld (⟨fin, ha, la, ak, true, ld, dsn, 0, 0, false, 0⟩ : Ds).cells c2 := by subst hE; exact SD.put6 (⟨fin, ha, la, ak, true, ld, dsn, 0, 0, false, 0⟩ : Ds).cells
    refine U32_ok E p c2 SE.hc _ fun F fc eF => ?_
    have SF := SE.cur fc eF
    have f6 := SF.g6
    have v6 := AHeap.get_lt f6
    simp only [Ds.cells] at f6
    generalize val (c2.got 4) = ssn at hq ⊢
    generalize c2.go 4 = c3 at hq SF fc
    simp [r4, r6, f6, v6, SF.g4, SF.n46]
    generalize hG : AHeap.set _ _ _ = G
    have SG : DS A0 G q2 q4 q6 p ld (⟨fin, ha, la, ak, true, ld, dsn, ssn, 0, false, 0⟩ : Ds).cells c3 := by subst hG; exact SF.put6 (⟨fin, ha, la, ak, true, ld, dsn, ssn, 0, false, 0⟩ : Ds).cells
    refine U16_ok G p c3 SG.hc _ fun H hc eH => ?_
    have SH := SG.cur hc eH
    have h6 := SH.g6
    have u6 := AHeap.get_lt h6
    simp only [Ds.cells] at h6
    have hw := got_lt c3 2
    generalize val (c3.got 2) = len at hq hw ⊢
    generalize c3.go 2 = c4 at hq SH hc
    have wl : IntKind.i64.wrap (len : Int) = len := IntWalk.i64_in _ (by omega)
    simp [r4, r6, h6, u6, wl, SH.g4, SH.n46]
    generalize hI : AHeap.set _ _ _ = I
    have SI : DS A0 I q2 q4 q6 p ld (⟨fin, ha, la, ak, true, ld, dsn, ssn, len, false, 0⟩ : Ds).cells c4 := by subst hI; exact SH.put6 (⟨fin, ha, la, ak, true, ld, dsn, ssn, len, false, 0⟩ : Ds).cells
    refine Left_ok I p c4 SI.hc _ ?_
    have i6 := SI.g6
    have t6 := AHeap.get_lt i6
    simp only [Ds.cells] at i6
    by_cases h2 : c4.left = 2
    · have h2i : ((c4.left : Nat) : Int) = 2 := by omega
      simp only [decide_eq_true h2, Cur.on_t, Cur.num_t] at hq
      simp [r4, r6, i6, t6, h2i, SI.g4, SI.n46]
      generalize hJ : AHeap.set _ _ _ = J
      have SJ : DS A0 J q2 q4 q6 p ld (⟨fin, ha, la, ak, true, ld, dsn, ssn, len, true, 0⟩ : Ds).cells c4 := by subst hJ; exact SI.put6 (⟨fin, ha, la, ak, true, ld, dsn, ssn, len, true, 0⟩ : Ds).cells
      refine U16_ok J p c4 SJ.hc _ fun K kc eK => ?_
      have SK := SJ.cur kc eK
      have kk := SK.g6
      have s6 := AHeap.get_lt kk
      simp only [Ds.cells] at kk
      simp [r6, kk, s6]
      generalize hL : AHeap.set _ _ _ = L
      have SL : DS A0 L q2 q4 q6 p ld (⟨fin, ha, la, ak, true, ld, dsn, ssn, len, true, val (c4.got 2)⟩ : Ds).cells (c4.go 2) := by subst hL; exact SK.put6 (⟨fin, ha, la, ak, true, ld, dsn, ssn, len, true, val (c4.got 2)⟩ : Ds).cells
      exact dv_ok A0 L q2 q4 q6 p ld _ _ SL _ Q (by simp [r2]) (by simp [r4]) (by simp [r6]) hq
    · have h2i : ¬ ((c4.left : Nat) : Int) = 2 := by omega
      simp only [decide_eq_false h2, Cur.on_f, Cur.num_f] at hq
      simp [r6, i6, t6, h2i]
      generalize hJ : AHeap.set _ _ _ = J
      have SJ : DS A0 J q2 q4 q6 p ld (⟨fin, ha, la, ak, true, ld, dsn, ssn, len, false, 0⟩ : Ds).cells c4 := by subst hJ; exact SI.put6 (⟨fin, ha, la, ak, true, ld, dsn, ssn, len, false, 0⟩ : Ds).cells
      exact dv_ok A0 J q2 q4 q6 p ld _ _ SJ _ Q (by simp [r2]) (by simp [r4]) (by simp [r6]) hq
end Go.Proofs.YtigknpfjhegkgaaGreatDoor
end

section
/- Signals, read: the whole. -/
namespace Go.Proofs.YtigknpfjhegkgaaGreatDoor
open Go Go.AS
set_option maxRecDepth 100000
set_option linter.unusedSimpArgs false
set_option linter.unusedVariables false
attribute [local irreducible] Trie.set Trie.get Env.rd
attribute [local simp ↓] wV_b2s
attribute [local simp] Nat.add_assoc wD_cons'' wD_nil' wC_seq wC_ops wC_opsD_nil wC_cond wC_skip wC_ret wC_exit wC_block wO_cons' wO_nil wantedA wV_eq lop qop ev wL_some wL_none wPut envOf rd_set rd_leaf eqA thenC blockC wB_true wB_false endF unwindA resultsA resA tupleA rdCell rdCells wrCells cl fillP lay rep bi_eql bi_neq bi_lss bi_leq bi_gtr bi_geq bi_add bi_sub bs_eql bs_neq bi_shr4 unA get_set' AHeap.get_alloc oneCell beqd bned idxA

theorem dt_ok (A0 A : AHeap) (q2 q4 q6 p : Nat) (b : UInt8) (c : Cur) (S : DS A0 A q2 q4 q6 p false (⟨false, decide (b.toNat % 2 = 1), false, 0, decide (b.toNat / 4 % 2 = 1), false, 0, 0, 0, false, 0⟩ : Ds).cells c) (env : Env) (Q : Value → AHeap → Prop) (r2 : env.rd 2 = .pointer (some ⟨q2, 0, none⟩)) (r4 : env.rd 4 = .pointer (some ⟨q4, 0, none⟩)) (r5 : env.rd 5 = .int .u8 (b.toNat : Nat)) (r6 : env.rd 6 = .pointer (some ⟨q6, 0, none⟩))
    (hq : ∀ A', Ext NoB A0 A' → Q (resD Ds.cells dz (Ds.res (Ds.fill b c))) A') :
    wC T 83 none c83t { env := env, n := 128, dfs := [], A := A } (endF [.inr (2, 11, true), .inl 3] Q) := by
  dsimp only [c83t]
  have m2 := bm2 b
  unfold Ds.fill at hq
  generalize decide (b.toNat / 2 % 2 = 1) = la at hq m2
  generalize hha : decide (b.toNat % 2 = 1) = ha at hq S
  generalize hhm : decide (b.toNat / 4 % 2 = 1) = hm at hq S
  cases ha with
  | false =>
    have g6 := S.g6
    simp only [Ds.cells] at g6
    simp [r4, r6, g6]
    refine du_ok A0 A q2 q4 q6 p false false false 0 b c (by rw [hhm]; exact S) _ Q (by simp [r2]) (by simp [r4]) (by simp [r5]) (by simp [r6]) (by simp) ?_
    rw [hhm]
    exact hq
  | true =>
    have g6 := S.g6
    have l6 := AHeap.get_lt g6
    have l4 := AHeap.get_lt S.g4
    simp only [Ds.cells] at g6
    simp [r4, r5, r6, g6, l6, l4, S.g4, S.n46, S.n46.symm, m2, bitI_z]
    generalize hC : AHeap.set _ _ _ = C
    have SC : DS A0 C q2 q4 q6 p la (⟨false, true, la, 0, hm, false, 0, 0, 0, false, 0⟩ : Ds).cells c := by subst hC; exact (S.put6 (⟨false, true, la, 0, hm, false, 0, 0, 0, false, 0⟩ : Ds).cells).put4 la
    refine rnum_ok C q4 p c la SC.g4 SC.hc _ fun D dc eD => ?_
    have SD := SC.cur dc eD
    have d6 := SD.g6
    have w6 := AHeap.get_lt d6
    simp only [Ds.cells] at d6
    simp [r4, r6, d6, w6]
    generalize hE : AHeap.set _ _ _ = E
    have SE : DS A0 E q2 q4 q6 p la (⟨false, true, la, val (c.got (wide la)), hm, false, 0, 0, 0, false, 0⟩ : Ds).cells (c.go (wide la)) := by subst hE; exact SD.put6 (⟨false, true, la, val (c.got (wide la)), hm, false, 0, 0, 0, false, 0⟩ : Ds).cells
    refine du_ok A0 E q2 q4 q6 p la true la (val (c.got (wide la))) b _ (by rw [hhm]; exact SE) _ Q (by simp [r2]) (by simp [r4]) (by simp [r5]) (by simp [r6]) (by simp) ?_
    rw [hhm]
    exact hq
/-! ### What the cursors give -/
theorem Cur.go_in (s : List UInt8) (a b : UInt8) (r : List UInt8) (h : s = a :: b :: r) (i n : Nat) : i ≤ r.length → (if i + n ≤ r.length then (⟨s, 2 + i, false⟩ : Cur).go n = ⟨s, 2 + (i + n), false⟩ ∧ (⟨s, 2 + i, false⟩ : Cur).got n = seg r i n else (⟨s, 2 + i, false⟩ : Cur).go n = ⟨s, 2 + i, true⟩) := by
  subst h
  intro hi
  split
  · rename_i hn; exact go2 a b r i n hn
  · rename_i hn
    exact (Cur.go_no (c := ⟨a :: b :: r, 2 + i, false⟩) (.inr (by simp; omega))).1
theorem Cur.go_br (s : List UInt8) (i n : Nat) : (⟨s, i, true⟩ : Cur).go n = ⟨s, i, true⟩ := (Cur.go_no (c := ⟨s, i, true⟩) (.inl rfl)).1
theorem fill_dec (a b : UInt8) (r : List UInt8) (ha : a.toNat / 16 = 2) (h0 : (!decide (b.toNat % 2 = 1) && !decide (b.toNat / 4 % 2 = 1)) = false) : Ds.dec (a :: b :: r) = Ds.res (Ds.fill b ⟨a :: b :: r, 2, false⟩) := by
  have hn : ¬ a.toNat / 16 ≠ 2 := fun q => q ha
  simp only [Ds.dec, if_neg hn, Ds.fill, h0]
  rw [if_neg (by decide)]
  generalize decide (b.toNat % 2 = 1) = hA at h0 ⊢
  generalize decide (b.toNat / 2 % 2 = 1) = la
  generalize decide (b.toNat / 4 % 2 = 1) = hM at h0 ⊢
  generalize decide (b.toNat / 8 % 2 = 1) = ld
  generalize decide (b.toNat / 16 % 2 = 1) = fin
  generalize hs : a :: b :: r = s
  have go := fun i n hi => Cur.go_in s a b r hs.symm i n hi
  have ls : s.length = r.length + 2 := by subst hs; rfl
  have z0 : ∀ i n, r.length ≤ i → val (seg r i n) = 0 := fun i n q => by rw [seg_nil _ _ _ q]; rfl
  have hk1 : ∃ k, k = (if hA = true then wide (hA && la) else 0) ∧ (if k ≤ r.length then (⟨s, 2, false⟩ : Cur).on hA (wide (hA && la)) = ⟨s, 2 + k, false⟩ ∧ (⟨s, 2, false⟩ : Cur).num hA (wide (hA && la)) = val (seg r 0 k) else (⟨s, 2, false⟩ : Cur).on hA (wide (hA && la)) = ⟨s, 2, true⟩) := by
    refine ⟨_, rfl, ?_⟩
    cases hA with
    | false => simp [Cur.on, Cur.num, seg_zero, val_nil]
    | true =>
      have := go 0 (wide la) (Nat.zero_le _)
      simp only [Nat.add_zero, Nat.zero_add] at this
      simp only [if_true, Bool.true_and, Cur.on_t, Cur.num_t]
      split
      · rename_i h; rw [if_pos h] at this; exact ⟨this.1, by rw [this.2]⟩
      · rename_i h; rw [if_neg h] at this; exact this
  obtain ⟨k, hk, hk2⟩ := hk1
  rw [← hk]
  by_cases c1 : k ≤ r.length
  case neg =>
    rw [if_neg c1] at hk2
    rw [hk2, if_pos (by omega)]
    cases hM <;> simp [Ds.res, Cur.on, Cur.num, Cur.go_br, Cur.end_, Cur.left]
  rw [if_pos c1] at hk2
  rw [hk2.1, hk2.2]
  cases hM with
  | false =>
    have z1 := z0 k 0
    have hA' : hA = true := by cases hA <;> simp at h0 ⊢
    simp only [Bool.false_eq_true, if_false, Bool.false_and, Cur.on_f, Cur.num_f, Nat.add_zero, false_and, or_false]
    rw [if_neg (by omega)]
    by_cases c2 : r.length = k
    · rw [if_pos c2]
      have z1 := z0 k 0 (by omega)
      have z2 := z0 k 4 (by omega)
      have z3 := z0 (k + 4) 2 (by omega)
      have z4 := z0 (k + 6) 2 (by omega)
      simp [Ds.res, Cur.end_, ls, c2, z1, z2, z3, z4, show ¬ (2 + k < k + 2) by omega]
    · rw [if_neg c2]
      simp [Ds.res, Cur.end_, ls, show (2 + k < r.length + 2) by omega]
  | true =>
    simp only [if_true, Bool.true_and, Cur.on_t, Cur.num_t, true_and]
    have g1 := go k (wide ld) c1
    by_cases c2 : k + wide ld ≤ r.length
    case neg =>
      rw [if_neg c2] at g1
      rw [g1, if_pos (by omega)]
      simp [Ds.res, Cur.go_br, Cur.end_, Cur.left, Cur.on]
    rw [if_pos c2] at g1
    rw [g1.1, g1.2]
    have g2 := go (k + wide ld) 4 c2
    by_cases c3 : k + wide ld + 4 ≤ r.length
    case neg =>
      rw [if_neg c3] at g2
      rw [g2, if_pos (by omega)]
      simp [Ds.res, Cur.go_br, Cur.end_, Cur.left, Cur.on]
    rw [if_pos c3] at g2
    rw [g2.1, g2.2]
    have g3 := go (k + wide ld + 4) 2 c3
    by_cases c4 : k + wide ld + 4 + 2 ≤ r.length
    case neg =>
      rw [if_neg c4] at g3
      rw [g3, if_pos (by omega)]
      simp [Ds.res, Cur.end_, Cur.left, Cur.on]
    rw [if_pos c4] at g3
    rw [g3.1, g3.2, if_neg (by omega)]
    have g4 := go (k + wide ld + 4 + 2) 2 c4
    have e1 : (⟨s, 2 + (k + wide ld + 4 + 2), false⟩ : Cur).left = r.length - (k + wide ld + 6) := by simp [Cur.left, ls]; omega
    rw [e1]
    by_cases c5 : r.length = k + wide ld + 6
    · rw [if_pos (.inl c5)]
      have z4 := z0 (k + wide ld + 6) 2 (by omega)
      have d1 : decide (r.length - (k + wide ld + 6) = 2) = false := decide_eq_false (by omega)
      rw [d1]
      rw [Nat.add_assoc] at z4
      simp [Ds.res, Cur.end_, Cur.on, Cur.num, ls, c5, z4, show k + (wide ld + 8) ≤ 2 + (k + (wide ld + 6)) by omega]
    by_cases c6 : r.length = k + wide ld + 6 + 2
    · rw [if_pos (.inr c6)]
      have d1 : decide (r.length - (k + wide ld + 6) = 2) = true := decide_eq_true (by omega)
      rw [if_pos (by omega)] at g4
      rw [d1, Cur.on_t, Cur.num_t, g4.1, g4.2]
      simp [Ds.res, Cur.end_, ls, c6]
      omega
    · rw [if_neg (by omega)]
      have d1 : decide (r.length - (k + wide ld + 6) = 2) = false := decide_eq_false (by omega)
      rw [d1]
      simp [Ds.res, Cur.end_, Cur.on, Cur.num, ls, show ¬ r.length + 2 ≤ 2 + (k + (wide ld + 6)) by omega, show 2 + (k + (wide ld + 6)) < r.length + 2 by omega]
theorem ddec_ok (A : AHeap) (s : List UInt8) (hs : s.length < 1000000) (Q : Value → AHeap → Prop) (hq : ∀ A', Ext NoB A A' → Q (resD Ds.cells dz (Ds.dec s)) A') : wF T (.func (.func 83) #[] #[]) [.string ⟨⟨s⟩⟩] A Q := by
  refine wF_func (first := []) (captured := []) t83 ⟨rfl, by decide⟩ ?_
  dsimp only [c83]
  match s, hs, hq with
  | [], hs, hq =>
    simp
    generalize hB : AHeap.alloc _ _ = B
    have b0 : B.get A.size = some (.cells dz false 0) := by subst hB; simp [dz]
    have eB : Ext NoB A B := by subst hB; (repeat first | exact Ext.refl | assumption | refine Ext.allocN ?_ | refine Ext.setN ?_ (by first | omega | (simp; done) | (simp; omega)))
    refine none_ok B _ fun C eC => ?_
    have c0 := eC.get b0 id
    have lC := AHeap.get_lt c0
    simp [c0, lC, dz]
    exact hq _ (by have := eB.trans eC; (repeat first | exact Ext.refl | assumption | refine Ext.allocN ?_ | refine Ext.setN ?_ (by first | omega | (simp; done) | (simp; omega))))
  | a :: t, hs, hq =>
    by_cases h0 : a.toNat / 16 ≠ 2
    · have hd : Ds.dec (a :: t) = .error 7 := by simp only [Ds.dec, if_pos h0]
      rw [hd] at hq
      have y0 : ¬ (a.toNat : Int) / 16 = 2 := by omega
      simp [y0]
      generalize hB : AHeap.alloc _ _ = B
      have b0 : B.get A.size = some (.cells dz false 0) := by subst hB; simp [dz]
      have eB : Ext NoB A B := by subst hB; (repeat first | exact Ext.refl | assumption | refine Ext.allocN ?_ | refine Ext.setN ?_ (by first | omega | (simp; done) | (simp; omega)))
      refine none_ok B _ fun C eC => ?_
      have c0 := eC.get b0 id
      have lC := AHeap.get_lt c0
      simp [c0, lC, dz]
      exact hq _ (by have := eB.trans eC; (repeat first | exact Ext.refl | assumption | refine Ext.allocN ?_ | refine Ext.setN ?_ (by first | omega | (simp; done) | (simp; omega))))
    have y0 : (a.toNat : Int) / 16 = 2 := by omega
    simp [y0]
    generalize hB : AHeap.alloc _ _ = B
    have b0 : B.get A.size = some (.cells dz false 0) := by subst hB; simp [dz]
    have zB : B.size = A.size + 1 := by subst hB; simp
    have eB : Ext NoB A B := by subst hB; (repeat first | exact Ext.refl | assumption | refine Ext.allocN ?_ | refine Ext.setN ?_ (by first | omega | (simp; done) | (simp; omega)))
    refine Read_ok B (a :: t) hs _ fun D p hp eD lp => ?_
    have d0 := eD.get b0 id
    have zD := eD.size
    have lpD := AHeap.get_lt hp.g
    simp
    generalize hE : AHeap.alloc _ _ = E
    have e0 : E.get A.size = some (.cells dz false 0) := by subst hE; simp [d0, show A.size ≠ D.size by omega]
    have e4 : E.get D.size = some (.cells [.pointer (some ⟨p, 0, none⟩), .bool false] false 0) := by subst hE; simp
    have eDE : Ext NoB D E := by subst hE; (repeat first | exact Ext.refl | assumption | refine Ext.allocN ?_ | refine Ext.setN ?_ (by first | omega | (simp; done) | (simp; omega)))
    have ec := hp.ext eDE id
    have eE := (eB.trans eD).trans eDE
    simp [e4]
    refine U8_ok E p _ ec _ fun F fc eF => ?_
    have f0 := eF.get e0 (by omega)
    have f4 := eF.get e4 (by omega)
    have eeF := eE.past eF (by omega)
    simp [f4]
    refine U8_ok F p _ fc _ fun G gc eG => ?_
    have g0 := eG.get f0 (by omega)
    have g4 := eG.get f4 (by omega)
    have eeG := eeF.past eG (by omega)
    have l0 := AHeap.get_lt g0
    have zG := AHeap.get_lt g4
    simp [g4]
    refine End_ok G p _ gc _ ?_
    match t, hs, hq, gc with
    | [], hs, hq, gc =>
      have hd : Ds.dec [a] = .error 4 := by simp only [Ds.dec, if_neg h0]
      rw [hd] at hq
      have k1 : ((⟨[a], 0, false⟩ : Cur).go 1).go 1 = ⟨[a], 1, true⟩ := by
        rw [(Cur.go_ok (c := ⟨[a], 0, false⟩) (n := 1) rfl (by simp)).1]
        exact (Cur.go_no (c := ⟨[a], 1, false⟩) (.inr (by simp))).1
      rw [k1]
      simp [Cur.end_]
      refine none_ok G _ fun C eC => ?_
      have c0 := eC.get g0 id
      have lC := AHeap.get_lt c0
      simp [c0, lC, dz]
      exact hq _ (by have := eeG.trans eC; (repeat first | exact Ext.refl | assumption | refine Ext.allocN ?_ | refine Ext.setN ?_ (by first | omega | (simp; done) | (simp; omega))))
    | b :: r, hs, hq, gc =>
      obtain ⟨k1, k2, k3, k4⟩ := first2 _ a b r rfl
      rw [k1, k3] at gc
      rw [k1, k3, k4]
      simp only [val_one]
      have he : (⟨a :: b :: r, 2, false⟩ : Cur).end_ = 0 ∨ (⟨a :: b :: r, 2, false⟩ : Cur).end_ = 5 := by
        unfold Cur.end_
        rw [if_neg (show ¬ (⟨a :: b :: r, 2, false⟩ : Cur).br = true from Bool.false_ne_true)]
        split
        · exact .inr rfl
        · exact .inl rfl
      have hne : ¬ (⟨a :: b :: r, 2, false⟩ : Cur).end_ = 4 := by omega
      have m1 := bm1 b
      have m4 := bm4 b
      simp only [Nat.div_one] at m1
      obtain ⟨ha, hha⟩ : ∃ x, x = decide (b.toNat % 2 = 1) := ⟨_, rfl⟩
      obtain ⟨hm, hhm⟩ : ∃ x, x = decide (b.toNat / 4 % 2 = 1) := ⟨_, rfl⟩
      rw [← hha] at m1
      rw [← hhm] at m4
      cases hor : (!ha && !hm) with
      | true =>
        have hd : Ds.dec (a :: b :: r) = .error 5 := by
          simp only [Ds.dec, if_neg h0]
          rw [← hha, ← hhm, if_pos hor]
        rw [hd] at hq
        have q1 : ha = false := by cases ha <;> simp at hor ⊢
        have q2 : hm = false := by cases hm <;> simp [q1] at hor ⊢
        rw [q1] at m1
        rw [q2] at m4
        simp [hne, m1, m4, bitI]
        generalize hH : AHeap.set _ _ _ = H
        have eGH : Ext NoB G H := by subst hH; (repeat first | exact Ext.refl | assumption | refine Ext.allocN ?_ | refine Ext.setN ?_ (by first | omega | (simp; done) | (simp; omega)))
        refine none_ok H _ fun C eC => ?_
        have c0 := eC.get (eGH.get g0 id) id
        have lC := AHeap.get_lt c0
        simp [c0, lC, dz]
        exact hq _ (by have := (eeG.trans eGH).trans eC; (repeat first | exact Ext.refl | assumption | refine Ext.allocN ?_ | refine Ext.setN ?_ (by first | omega | (simp; done) | (simp; omega))))
      | false =>
        rw [fill_dec a b r (by omega) (by rw [← hha, ← hhm]; exact hor)] at hq
        have hcond : ha = true ∨ hm = true := by cases ha <;> cases hm <;> simp at hor ⊢
        have fin : ∀ (H : AHeap) (env : Env), H = (G.alloc (.cells [.bool false, .bool false, .bool false, .int .u64 0, .bool false, .bool false, .int .u64 0, .int .u32 0, .int .i64 0, .bool false, .int .u16 0] false 0)).set G.size (.cells [.bool false, .bool ha, .bool false, .int .u64 0, .bool hm, .bool false, .int .u64 0, .int .u32 0, .int .i64 0, .bool false, .int .u16 0] false 0) → env.rd 2 = .pointer (some ⟨A.size, 0, none⟩) → env.rd 4 = .pointer (some ⟨D.size, 0, none⟩) → env.rd 5 = .int .u8 (b.toNat : Nat) → env.rd 6 = .pointer (some ⟨G.size, 0, none⟩) → wC T 83 none c83t { env := env, n := 128, dfs := [], A := H } (endF [.inr (2, 11, true), .inl 3] Q) := by
          intro H env hH r2 r4 r5 r6
          have eGH : Ext NoB G H := by subst hH; (repeat first | exact Ext.refl | assumption | refine Ext.allocN ?_ | refine Ext.setN ?_ (by first | omega | (simp; done) | (simp; omega)))
          refine dt_ok A H A.size D.size G.size p b ⟨a :: b :: r, 2, false⟩ ⟨eGH.get g0 id, eGH.get g4 id, by subst hH; simp [Ds.cells, hha, hhm], gc.ext eGH id, by omega, by omega, by omega, by omega, by omega, by have := AHeap.get_lt gc.g; omega, eeG.trans eGH, by omega, by omega, by omega, by omega⟩ env Q r2 r4 r5 r6 hq
        rcases hcond with q | q
        · rw [q] at m1
          cases hm <;> simp [hne, m1, m4, bitI] <;> refine fin _ _ (by rw [q]) ?_ ?_ ?_ ?_ <;> simp
        · rw [q] at m4
          cases ha <;> simp [hne, m1, m4, bitI] <;> refine fin _ _ (by rw [q]) ?_ ?_ ?_ ?_ <;> simp
end Go.Proofs.YtigknpfjhegkgaaGreatDoor
end

section
/- Addresses, told and taken back, read. -/
namespace Go.Proofs.YtigknpfjhegkgaaGreatDoor
open Go Go.AS
set_option maxRecDepth 100000
set_option linter.unusedSimpArgs false
set_option linter.unusedVariables false
attribute [local irreducible] Trie.set Trie.get Env.rd
attribute [local simp ↓] wV_b2s
attribute [local simp] Nat.add_assoc wD_cons'' wD_nil' wC_seq wC_ops wC_opsD_nil wC_cond wC_skip wC_ret wC_exit wC_block wO_cons' wO_nil wantedA wV_eq lop qop ev wL_some wL_none wPut envOf rd_set rd_leaf eqA thenC blockC wB_true wB_false endF unwindA resultsA resA tupleA rdCell rdCells wrCells cl fillP lay rep bi_eql bi_neq bi_lss bi_leq bi_gtr bi_geq bi_add bi_sub bs_eql bs_neq bi_shr4 unA get_set' AHeap.get_alloc oneCell beqd bned idxA

theorem begins_ok (A : AHeap) (s : List UInt8) (k : Nat) (Q : Value → AHeap → Prop) (hq : Q (.int .i64 (match s with | [] => 4 | a :: _ => if a.toNat / 16 ≠ k then 7 else 0)) A) : wF T (.func (.func 146) #[] #[]) [.string ⟨⟨s⟩⟩, .int .u8 (k : Nat)] A Q := by
  refine wF_func (first := []) (captured := []) t146 ⟨rfl, by decide⟩ ?_
  dsimp only [c146]
  match s, hq with
  | [], hq => simp; exact hq
  | a :: t, hq =>
    by_cases h : a.toNat / 16 = k
    · have y : (a.toNat : Int) / 16 = (k : Int) := by omega
      simp only [ne_eq, h, not_true_eq_false, if_false] at hq
      simp [y]; exact hq
    · have y : ¬ (a.toNat : Int) / 16 = (k : Int) := by omega
      simp only [ne_eq, h, not_false_eq_true, if_true] at hq
      simp [y]; exact hq
theorem part_ok (A : AHeap) (q p : Nat) (c : Cur) (n : Nat) (hn : n < 1000000) (g : A.get q = some (.cells [.pointer (some ⟨p, 0, none⟩)] false 0)) (hc : CurAt A p c) (Q : Value → AHeap → Prop) (hq : ∀ A', CurAt A' p (c.go n) → Ext (fun j => j = p) A A' → Q (.string ⟨⟨c.got n⟩⟩) A') :
    wF T (.func (.func 148) ⟨[]⟩ ⟨[.pointer (some ⟨q, 0, none⟩)]⟩) [.int .i64 (n : Nat)] A Q := by
  refine wF_func (first := []) (captured := [.pointer (some ⟨q, 0, none⟩)]) t148 ⟨rfl, by decide⟩ ?_
  dsimp only [c148]
  simp [g]
  refine Take_ok A p c n hc hn _ fun A1 h1 e1 => ?_
  simp
  exact hq A1 h1 e1
def az : List Value := [.bool false, .int .i64 0, .string ⟨⟨[]⟩⟩, .bool false, .int .i64 0, .string ⟨⟨[]⟩⟩]
structure AR (A0 A : AHeap) (q2 q6 q8 p ip po : Nat) (x : List Value) (c : Cur) : Prop where
  g2 : A.get q2 = some (.cells x false 0)
  g6 : A.get q6 = some (.cells [.int .i64 (ip : Nat), .int .i64 (po : Nat)] false 0)
  g8 : A.get q8 = some (.cells [.pointer (some ⟨p, 0, none⟩)] false 0)
  hc : CurAt A p c
  n26 : q2 ≠ q6
  n28 : q2 ≠ q8
  n2p : q2 ≠ p
  n6p : q6 ≠ p
  n8p : q8 ≠ p
  ex : Ext NoB A0 A
  l2 : A0.size ≤ q2
  lp : A0.size ≤ p
theorem AR.cur {A0 A A' : AHeap} {q2 q6 q8 p ip po : Nat} {x : List Value} {c c' : Cur} (h : AR A0 A q2 q6 q8 p ip po x c) (hc : CurAt A' p c') (e : Ext (fun j => j = p) A A') : AR A0 A' q2 q6 q8 p ip po x c' :=
  ⟨e.get h.g2 h.n2p, e.get h.g6 h.n6p, e.get h.g8 h.n8p, hc, h.n26, h.n28, h.n2p, h.n6p, h.n8p, h.ex.past e h.lp, h.l2, h.lp⟩
theorem AR.put {A0 A : AHeap} {q2 q6 q8 p ip po : Nat} {x : List Value} {c : Cur} (h : AR A0 A q2 q6 q8 p ip po x c) (y : List Value) : AR A0 (A.set q2 (.cells y false 0)) q2 q6 q8 p ip po y c :=
  have e : Ext (fun j => j = q2) A (A.set q2 (.cells y false 0)) := Ext.set rfl
  ⟨by simp [AHeap.get_lt h.g2], e.get h.g6 (Ne.symm h.n26), e.get h.g8 (Ne.symm h.n28), h.hc.ext e (Ne.symm h.n2p), h.n26, h.n28, h.n2p, h.n6p, h.n8p, h.ex.past e h.l2, h.l2, h.lp⟩
theorem at_ok (A0 A : AHeap) (q2 q6 ip po m : Nat) (a b : UInt8) (r : List UInt8) (hs : (a :: b :: r).length < 1000000) (hr : r.length = ip + po + m) (hpo : po = 0 ∨ po = 2) (g2 : A.get q2 = some (.cells az false 0)) (g6 : A.get q6 = some (.cells [.int .i64 (ip : Nat), .int .i64 (po : Nat)] false 0)) (n26 : q2 ≠ q6) (ex : Ext NoB A0 A) (l2 : A0.size ≤ q2)
    (env : Env) (Q : Value → AHeap → Prop) (r0 : env.rd 0 = .string ⟨⟨a :: b :: r⟩⟩) (r2 : env.rd 2 = .pointer (some ⟨q2, 0, none⟩)) (r5 : env.rd 5 = .int .i64 (m : Nat)) (r6 : env.rd 6 = .pointer (some ⟨q6, 0, none⟩))
    (hq : ∀ A', Ext NoB A0 A' → Q (.tuple ⟨[.agg ⟨(⟨decide (m = 0), (b.toNat : Nat), seg r 0 ip, decide (po = 2), (if po = 2 then val (seg r ip 2) else 0 : Nat), seg r (ip + po) m⟩ : Ad).cells⟩, .int .i64 0]⟩) A') : wC T 87 none c87t { env := env, n := 65, dfs := [], A := A } (endF [.inr (2, 6, true), .inl 3] Q) := by
  dsimp only [c87t]
  simp [r0]
  refine Read_ok A (a :: b :: r) hs _ fun D p hp eD lp => ?_
  have d2 := eD.get g2 id
  have d6 := eD.get g6 id
  have k2 := AHeap.get_lt g2
  have k6 := AHeap.get_lt g6
  have zD := eD.size
  have lpD := AHeap.get_lt hp.g
  have zA := ex.size
  simp
  generalize hE : AHeap.set _ _ _ = E
  have SE : AR A0 E q2 q6 D.size p ip po az ⟨a :: b :: r, 0, false⟩ := by
    have eDE : Ext NoB D E := by subst hE; (repeat first | exact Ext.refl | assumption | refine Ext.allocN ?_ | refine Ext.setN ?_ (by first | omega | (simp; done) | (simp; omega)))
    exact ⟨eDE.get d2 id, eDE.get d6 id, by subst hE; simp, hp.ext eDE id, n26, by omega, by omega, by omega, by omega, (ex.trans eD).trans eDE, l2, by omega⟩
  obtain ⟨k1, k2, k3, k4⟩ := first2 _ a b r rfl
  simp [SE.g8]
  refine U8_ok E p _ SE.hc _ fun F fc eF => ?_
  have SF := SE.cur fc eF
  rw [k1] at SF
  have f2 := SF.g2
  have lF := AHeap.get_lt f2
  have wb : IntKind.i64.wrap ((b.toNat : Nat) : Int) = (b.toNat : Nat) := IntWalk.i64_in _ (by have := b.toNat_lt; omega)
  simp [r2, r5, f2, lF, az, SF.g8, Ne.symm SF.n28]
  generalize hG : AHeap.set _ _ _ = G
  have SG : AR A0 G q2 q6 D.size p ip po (⟨decide (m = 0), 0, [], false, 0, []⟩ : Ad).cells ⟨a :: b :: r, 1, false⟩ := by subst hG; exact SF.put (⟨decide (m = 0), 0, [], false, 0, []⟩ : Ad).cells
  refine U8_ok G p _ SG.hc _ fun H hc eH => ?_
  have SH := SG.cur hc eH
  rw [k3] at SH
  rw [k4]
  have h2 := SH.g2
  have lH := AHeap.get_lt h2
  simp only [Ad.cells] at h2
  simp [val_one, wb, r2, r6, h2, lH, SH.g6, Ne.symm SH.n26]
  generalize hI : AHeap.set _ _ _ = I
  have SI : AR A0 I q2 q6 D.size p ip po (⟨decide (m = 0), (b.toNat : Nat), [], false, 0, []⟩ : Ad).cells ⟨a :: b :: r, 2, false⟩ := by subst hI; exact SH.put (⟨decide (m = 0), (b.toNat : Nat), [], false, 0, []⟩ : Ad).cells
  have hrl : r.length < 1000000 := by simp at hs; omega
  refine part_ok I D.size p _ ip (by omega) SI.g8 SI.hc _ fun J jc eJ => ?_
  have SJ := SI.cur jc eJ
  obtain ⟨q1, q2'⟩ := go2 a b r 0 ip (by omega)
  simp only [Nat.add_zero, Nat.zero_add] at q1 q2'
  rw [q1] at SJ
  rw [q2']
  have j2 := SJ.g2
  have lJ := AHeap.get_lt j2
  simp only [Ad.cells] at j2
  obtain ⟨q3, q4⟩ := go2 a b r ip po (by omega)
  obtain ⟨q5, q6'⟩ := go2 a b r (ip + po) m (by omega)
  rcases hpo with rfl | rfl
  · simp only [Nat.add_zero] at q5 q6'
    simp [r2, r5, r6, j2, lJ, SJ.g6, Ne.symm SJ.n26]
    generalize hK : AHeap.set _ _ _ = K
    have SK : AR A0 K q2 q6 D.size p ip 0 (⟨decide (m = 0), (b.toNat : Nat), seg r 0 ip, false, 0, []⟩ : Ad).cells ⟨a :: b :: r, 2 + ip, false⟩ := by subst hK; exact (SJ.put (⟨decide (m = 0), (b.toNat : Nat), seg r 0 ip, false, 0, []⟩ : Ad).cells).put _
    refine part_ok K D.size p _ m (by omega) SK.g8 SK.hc _ fun L lc eL => ?_
    have SL := SK.cur lc eL
    rw [q6']
    have s2 := SL.g2
    have lL := AHeap.get_lt s2
    simp only [Ad.cells] at s2
    simp [r2, s2, lL]
    refine hq _ ?_
    have := SL.ex
    (repeat first | exact Ext.refl | assumption | refine Ext.allocN ?_ | refine Ext.setN ?_ (by first | omega | (simp; done) | (simp; omega)))
  · simp [r2, r5, r6, j2, lJ, SJ.g6, SJ.g8, Ne.symm SJ.n26, Ne.symm SJ.n28]
    generalize hK : AHeap.set _ _ _ = K
    have SK : AR A0 K q2 q6 D.size p ip 2 (⟨decide (m = 0), (b.toNat : Nat), seg r 0 ip, true, 0, []⟩ : Ad).cells ⟨a :: b :: r, 2 + ip, false⟩ := by subst hK; exact (SJ.put (⟨decide (m = 0), (b.toNat : Nat), seg r 0 ip, false, 0, []⟩ : Ad).cells).put _
    refine U16_ok K p _ SK.hc _ fun L lc eL => ?_
    have SL := SK.cur lc eL
    rw [q3] at SL
    rw [q4]
    have s2 := SL.g2
    have lL := AHeap.get_lt s2
    simp only [Ad.cells] at s2
    have wp : IntKind.i64.wrap ((val (seg r ip 2) : Nat) : Int) = (val (seg r ip 2) : Nat) := IntWalk.i64_in _ (by have := val_p r ip 2; omega)
    simp [r2, r5, s2, lL, wp]
    generalize hM : AHeap.set _ _ _ = M
    have SM : AR A0 M q2 q6 D.size p ip 2 (⟨decide (m = 0), (b.toNat : Nat), seg r 0 ip, true, (val (seg r ip 2) : Nat), []⟩ : Ad).cells ⟨a :: b :: r, 2 + (ip + 2), false⟩ := by subst hM; exact SL.put (⟨decide (m = 0), (b.toNat : Nat), seg r 0 ip, true, (val (seg r ip 2) : Nat), []⟩ : Ad).cells
    refine part_ok M D.size p _ m (by omega) SM.g8 SM.hc _ fun N nc eN => ?_
    have SN := SM.cur nc eN
    rw [q6']
    have t2 := SN.g2
    have lN := AHeap.get_lt t2
    simp only [Ad.cells] at t2
    simp [r2, t2, lN]
    refine hq _ ?_
    have := SN.ex
    (repeat first | exact Ext.refl | assumption | refine Ext.allocN ?_ | refine Ext.setN ?_ (by first | omega | (simp; done) | (simp; omega)))
theorem adec_ok (A : AHeap) (s : List UInt8) (hs : s.length < 1000000) (Q : Value → AHeap → Prop) (hq : ∀ A', Ext NoB A A' → Q (resD Ad.cells az (Ad.dec s)) A') : wF T (.func (.func 87) #[] #[]) [.string ⟨⟨s⟩⟩] A Q := by
  refine wF_func (first := []) (captured := []) t87 ⟨rfl, by decide⟩ ?_
  dsimp only [c87]
  simp
  refine begins_ok _ s 3 _ ?_
  match s, hs, hq with
  | [], hs, hq =>
    simp
    exact hq _ (by (repeat first | exact Ext.refl | assumption | refine Ext.allocN ?_ | refine Ext.setN ?_ (by first | omega | (simp; done) | (simp; omega))))
  | a :: t, hs, hq =>
    have ht : t.length < 999999 := by simp at hs; omega
    by_cases h0 : a.toNat / 16 ≠ 3
    · have hd : Ad.dec (a :: t) = .error 7 := by simp only [Ad.dec, if_pos h0]
      rw [hd] at hq
      simp [h0]
      exact hq _ (by (repeat first | exact Ext.refl | assumption | refine Ext.allocN ?_ | refine Ext.setN ?_ (by first | omega | (simp; done) | (simp; omega))))
    have h3 : a.toNat / 16 = 3 := by omega
    have m1 := bm1 a
    simp only [Nat.div_one] at m1
    obtain ⟨ec, hec⟩ : ∃ x, x = decide (a.toNat % 2 = 1) := ⟨_, rfl⟩
    rw [← hec] at m1
    have w1 : IntKind.i64.wrap ((t.length : Int) + 1 - 2) = (t.length : Int) - 1 := by rw [IntWalk.i64_in _ (by omega)]; omega
    have main : ∀ (B : AHeap) (env : Env), B.get A.size = some (.cells az false 0) → Ext NoB A B → env.rd 0 = .string ⟨⟨a :: t⟩⟩ → env.rd 2 = .pointer (some ⟨A.size, 0, none⟩) → env.rd 5 = .int .i64 (if ec then 0 else 8 : Nat) → wC T 87 none c87u { env := env, n := 65, dfs := [], A := B } (endF [.inr (2, 6, true), .inl 3] Q) := by
      intro B env b2 eB r0 r2 r5
      dsimp only [c87u]
      obtain ⟨m, hm⟩ : ∃ m, m = (if ec then 0 else 8 : Nat) := ⟨_, rfl⟩
      have hm8 : m ≤ 8 := by rw [hm]; split <;> omega
      rw [← hm] at r5
      simp
      refine shapes_ok B _ fun C mp eC hmp => ?_
      have c2 := eC.get b2 id
      have lC := AHeap.get_lt c2
      have eeC := eB.trans eC
      have w2 : IntKind.i64.wrap ((t.length : Int) - 1 - (m : Int)) = (t.length : Int) - 1 - (m : Int) := IntWalk.i64_in _ (by omega)
      obtain ⟨es, ck, k1, k2⟩ := hmp.get ((t.length : Int) - 1 - (m : Int))
      have hcase : (shF ((t.length : Int) - 1 - (m : Int)) = none ∧ Ad.dec (a :: t) = .error 5) ∨ ∃ (ip po : Nat) (b : UInt8) (r : List UInt8), t = b :: r ∧ (po = 0 ∨ po = 2) ∧ shF ((t.length : Int) - 1 - (m : Int)) = some (sh ip po) ∧ r.length = ip + po + m ∧ Ad.dec (a :: b :: r) = .ok ⟨ec, (b.toNat : Nat), seg r 0 ip, decide (po = 2), (if po = 2 then val (seg r ip 2) else 0 : Nat), seg r (ip + po) m⟩ := by
        match t with
        | [] =>
          refine .inl ⟨?_, ?_⟩
          · unfold shF; rw [if_neg (by simp; omega), if_neg (by simp; omega), if_neg (by simp; omega), if_neg (by simp; omega)]
          · simp only [Ad.dec, if_neg h0]
        | b :: r =>
          have e1 : ((b :: r).length : Int) - 1 - (m : Int) = (r.length : Int) - (m : Int) := by simp
          rw [e1]
          by_cases f1 : r.length = m + 4
          · exact .inr ⟨4, 0, b, r, rfl, .inl rfl, by unfold shF; rw [if_pos (by omega)]; rfl, by omega, by simp only [Ad.dec, if_neg h0]; rw [← hec, ← hm, if_pos f1]; rfl⟩
          by_cases f2 : r.length = m + 6
          · exact .inr ⟨4, 2, b, r, rfl, .inr rfl, by unfold shF; rw [if_neg (by omega), if_pos (by omega)]; rfl, by omega, by simp only [Ad.dec, if_neg h0]; rw [← hec, ← hm, if_neg f1, if_pos f2]; rfl⟩
          by_cases f3 : r.length = m + 16
          · exact .inr ⟨16, 0, b, r, rfl, .inl rfl, by unfold shF; rw [if_neg (by omega), if_neg (by omega), if_pos (by omega)]; rfl, by omega, by simp only [Ad.dec, if_neg h0]; rw [← hec, ← hm, if_neg f1, if_neg f2, if_pos f3]; rfl⟩
          by_cases f4 : r.length = m + 18
          · exact .inr ⟨16, 2, b, r, rfl, .inr rfl, by unfold shF; rw [if_neg (by omega), if_neg (by omega), if_neg (by omega), if_pos (by omega)]; rfl, by omega, by simp only [Ad.dec, if_neg h0]; rw [← hec, ← hm, if_neg f1, if_neg f2, if_neg f3, if_pos f4]; rfl⟩
          · exact .inl ⟨by unfold shF; rw [if_neg (by omega), if_neg (by omega), if_neg (by omega), if_neg (by omega)], by simp only [Ad.dec, if_neg h0]; rw [← hec, ← hm, if_neg f1, if_neg f2, if_neg f3, if_neg f4]⟩
      rcases hcase with ⟨hbad, hd⟩ | ⟨ip, po, b, r, e1, hpo, hsh, hr, hd⟩
      · rw [hbad] at k2
        simp only at k2
        rw [hd] at hq
        simp [r0, r2, r5, w1, w2, k1, k2, getRes, c2, lC, az, show A.size ≠ C.size by omega, show A.size < C.size + 1 by omega]
        exact hq _ (by have := eeC.size; (repeat first | exact Ext.refl | assumption | refine Ext.allocN ?_ | refine Ext.setN ?_ (by first | omega | (simp; done) | (simp; omega))))
      · rw [hsh] at k2
        obtain ⟨i, k2⟩ := k2
        simp [r0, r2, r5, w1, w2, k1, k2, getRes, sh]
        generalize hG : AHeap.set _ _ _ = G
        have eCG : Ext NoB C G := by subst hG; (repeat first | exact Ext.refl | assumption | refine Ext.allocN ?_ | refine Ext.setN ?_ (by first | omega | (simp; done) | (simp; omega)))
        refine at_ok A G A.size C.size ip po m a b r (by rw [← e1]; exact hs) hr hpo (eCG.get c2 id) (by subst hG; simp) (by omega) (eeC.trans eCG) (Nat.le_refl _) _ Q (by simp [r0, e1]) (by simp [r2]) (by simp [r5]) (by simp) ?_
        have e0 : decide (m = 0) = ec := by rw [hm]; cases ec <;> simp
        rw [e0]
        rw [e1, hd] at hq
        exact hq
    simp [h3]
    generalize hB : AHeap.alloc _ _ = B
    have b0 : B.get A.size = some (.cells az false 0) := by subst hB; simp [az]
    have eB : Ext NoB A B := by subst hB; (repeat first | exact Ext.refl | assumption | refine Ext.allocN ?_ | refine Ext.setN ?_ (by first | omega | (simp; done) | (simp; omega)))
    cases ec <;> simp [m1, bitI] <;> refine main B _ b0 eB ?_ ?_ ?_ <;> simp
theorem rdec_ok (A : AHeap) (s : List UInt8) (hs : s.length < 1000000) (Q : Value → AHeap → Prop) (hq : ∀ A', Ext NoB A A' → Q (resD (fun l => [.string ⟨⟨l⟩⟩]) [.string ⟨⟨[]⟩⟩] (remD s)) A') : wF T (.func (.func 91) #[] #[]) [.string ⟨⟨s⟩⟩] A Q := by
  refine wF_func (first := []) (captured := []) t91 ⟨rfl, by decide⟩ ?_
  dsimp only [c91]
  simp
  refine begins_ok _ s 4 _ ?_
  match s, hs, hq with
  | [], hs, hq =>
    simp
    exact hq _ (by (repeat first | exact Ext.refl | assumption | refine Ext.allocN ?_ | refine Ext.setN ?_ (by first | omega | (simp; done) | (simp; omega))))
  | a :: t, hs, hq =>
    by_cases h0 : a.toNat / 16 ≠ 4
    · have hd : remD (a :: t) = .error 7 := by simp only [remD, if_pos h0]
      rw [hd] at hq
      simp [h0]
      exact hq _ (by (repeat first | exact Ext.refl | assumption | refine Ext.allocN ?_ | refine Ext.setN ?_ (by first | omega | (simp; done) | (simp; omega))))
    have h3 : a.toNat / 16 = 4 := by omega
    have hsl : sliceSA (.string ⟨⟨a :: t⟩⟩) (some (.int .i64 1)) none = some (.string ⟨⟨t⟩⟩) := sl_from (a :: t) .i64 1 (by simp)
    by_cases h1 : t.length + 1 < 2
    · have hd : remD (a :: t) = .error 5 := by simp only [remD, if_neg h0]; rw [if_neg (by omega)]
      rw [hd] at hq
      have y1 : (t.length : Int) + 1 < 2 := by omega
      simp [h3, y1]
      exact hq _ (by (repeat first | exact Ext.refl | assumption | refine Ext.allocN ?_ | refine Ext.setN ?_ (by first | omega | (simp; done) | (simp; omega))))
    have y1 : ¬ (t.length : Int) + 1 < 2 := by omega
    by_cases h2 : 38 < t.length + 1
    · have hd : remD (a :: t) = .error 5 := by simp only [remD, if_neg h0]; rw [if_neg (by omega)]
      rw [hd] at hq
      have y2 : (38 : Int) < (t.length : Int) + 1 := by omega
      simp [h3, y1, y2]
      exact hq _ (by (repeat first | exact Ext.refl | assumption | refine Ext.allocN ?_ | refine Ext.setN ?_ (by first | omega | (simp; done) | (simp; omega))))
    have y2 : ¬ (38 : Int) < (t.length : Int) + 1 := by omega
    have hd : remD (a :: t) = .ok t := by simp only [remD, if_neg h0]; rw [if_pos (by omega)]
    rw [hd] at hq
    simp [h3, y1, y2, hsl]
    exact hq _ (by (repeat first | exact Ext.refl | assumption | refine Ext.allocN ?_ | refine Ext.setN ?_ (by first | omega | (simp; done) | (simp; omega))))
end Go.Proofs.YtigknpfjhegkgaaGreatDoor
end
