/- The option of ends that are capable, and that by which a path joins, read. -/
import Derived.Test.YtigknpfjhegkgaaGreatDoorVb
import Derived.KernelRfl
namespace Go.Proofs.YtigknpfjhegkgaaGreatDoor
open Go Go.AS
set_option maxRecDepth 100000
set_option linter.unusedSimpArgs false
set_option linter.unusedVariables false
attribute [local irreducible] Trie.set Trie.get Env.rd
attribute [local simp ↓] wV_b2s
attribute [local simp] Nat.add_assoc wD_cons'' wD_nil' wC_seq wC_ops wC_opsD_nil wC_cond wC_skip wC_ret wC_exit wC_block wO_cons' wO_nil wantedA wV_eq lop qop ev wL_some wL_none wPut envOf rd_set rd_leaf eqA thenC blockC wB_true wB_false endF unwindA resultsA resA tupleA rdCell rdCells wrCells cl fillP lay rep bi_eql bi_neq bi_lss bi_leq bi_gtr bi_geq bi_add bi_sub bs_eql bs_neq bi_shr4 unA get_set' AHeap.get_alloc oneCell beqd bned idxA

theorem Cap.read_dec (a b : UInt8) (r : List UInt8) (ha : a.toNat / 16 = 0) (hb : b.toNat % 2 ≠ 0) (f : Nat) (hf : (f = 0 ∧ r.length = 0) ∨ (f = 1 ∧ r.length = 8) ∨ (f = 2 ∧ r.length = 16) ∨ (f = 3 ∧ r.length = 18) ∨ (f = 4 ∧ r.length = 20)) :
    Cap.dec (a :: b :: r) = .ok (Cap.read f a b ⟨a :: b :: r, 2, false⟩) := by
  have e : ∀ i n, seg (a :: b :: r) (2 + i) n = seg r i n := fun i n => by simp only [seg]; rw [Nat.add_comm]; rfl
  have go : ∀ i n, i + n ≤ r.length → (⟨a :: b :: r, 2 + i, false⟩ : Cur).go n = ⟨a :: b :: r, 2 + (i + n), false⟩ ∧ (⟨a :: b :: r, 2 + i, false⟩ : Cur).got n = seg r i n := fun i n h => by
    have := Cur.go_ok (c := ⟨a :: b :: r, 2 + i, false⟩) (n := n) rfl (by simp; omega)
    rw [e, Nat.add_assoc] at this
    exact this
  have z : ∀ i n, r.length ≤ i → val (seg r i n) = 0 := fun i n h => by rw [seg_nil _ _ _ h]; rfl
  have h0 : ¬ a.toNat / 16 ≠ 0 := fun q => q ha
  rcases hf with ⟨rfl, hl⟩ | ⟨rfl, hl⟩ | ⟨rfl, hl⟩ | ⟨rfl, hl⟩ | ⟨rfl, hl⟩
  · have z1 := z 0 8 (by omega)
    have z2 := z 8 8 (by omega)
    have z3 := z 16 2 (by omega)
    have z4 := z 18 2 (by omega)
    simp only [Cap.dec, if_neg h0, if_neg hb]
    simp [hl, Cap.read, Cur.on, Cur.num, z1, z2, z3, z4]
  · have z2 := z 8 8 (by omega)
    have z3 := z 16 2 (by omega)
    have z4 := z 18 2 (by omega)
    have g1 := go 0 8 (by omega)
    simp only [Cap.dec, if_neg h0, if_neg hb]
    simp at g1
    simp [hl, Cap.read, Cur.on, Cur.num, z2, z3, z4, g1]
  · have z3 := z 16 2 (by omega)
    have z4 := z 18 2 (by omega)
    have g1 := go 0 8 (by omega)
    have g2 := go 8 8 (by omega)
    simp only [Cap.dec, if_neg h0, if_neg hb]
    simp at g1 g2
    simp [hl, Cap.read, Cur.on, Cur.num, z3, z4, g1, g2]
  · have z4 := z 18 2 (by omega)
    have g1 := go 0 8 (by omega)
    have g2 := go 8 8 (by omega)
    have g3 := go 16 2 (by omega)
    simp only [Cap.dec, if_neg h0, if_neg hb]
    simp at g1 g2 g3
    simp [hl, Cap.read, Cur.on, Cur.num, z4, g1, g2, g3]
  · have g1 := go 0 8 (by omega)
    have g2 := go 8 8 (by omega)
    have g3 := go 16 2 (by omega)
    have g4 := go 18 2 (by omega)
    simp only [Cap.dec, if_neg h0, if_neg hb]
    simp at g1 g2 g3 g4
    simp [hl, Cap.read, Cur.on, Cur.num, g1, g2, g3, g4]
/-- The first two bytes, read. -/
theorem first2 (s : List UInt8) (a b : UInt8) (r : List UInt8) (h : s = a :: b :: r) : (⟨s, 0, false⟩ : Cur).go 1 = ⟨s, 1, false⟩ ∧ (⟨s, 0, false⟩ : Cur).got 1 = [a] ∧ (⟨s, 1, false⟩ : Cur).go 1 = ⟨s, 2, false⟩ ∧ (⟨s, 1, false⟩ : Cur).got 1 = [b] := by
  subst h
  obtain ⟨h1, h2⟩ := Cur.go_ok (c := ⟨a :: b :: r, 0, false⟩) (n := 1) rfl (by simp)
  obtain ⟨h3, h4⟩ := Cur.go_ok (c := ⟨a :: b :: r, 1, false⟩) (n := 1) rfl (by simp)
  exact ⟨h1, h2, h3, h4⟩
theorem val_one (a : UInt8) : val [a] = a.toNat := by simp [val]
theorem cdec_ok (A : AHeap) (s : List UInt8) (hs : s.length < 1000000) (Q : Value → AHeap → Prop) (hq : ∀ A', Ext NoB A A' → Q (resD Cap.cells cz (Cap.dec s)) A') : wF T (.func (.func 75) #[] #[]) [.string ⟨⟨s⟩⟩] A Q := by
  refine wF_func (first := []) (captured := []) t75 ⟨rfl, by decide⟩ ?_
  dsimp only [c75]
  match s, hs, hq with
  | [], hs, hq =>
    simp
    exact hq _ (by (repeat first | exact Ext.refl | assumption | refine Ext.allocN ?_ | refine Ext.setN ?_ (by first | omega | (simp; done) | (simp; omega))))
  | a :: t, hs, hq =>
    have ht : t.length < 999999 := by simp at hs; omega
    by_cases h0 : a.toNat / 16 ≠ 0
    · have hd : Cap.dec (a :: t) = .error 7 := by simp only [Cap.dec, if_pos h0]
      rw [hd] at hq
      have y0 : ¬ (a.toNat : Int) / 16 = 0 := by omega
      simp [y0]
      exact hq _ (by (repeat first | exact Ext.refl | assumption | refine Ext.allocN ?_ | refine Ext.setN ?_ (by first | omega | (simp; done) | (simp; omega))))
    have ha : a.toNat / 16 = 0 := by omega
    have y0 : (a.toNat : Int) / 16 = 0 := by omega
    simp [y0]
    generalize hB : AHeap.set _ _ _ = B
    have b0 : B.get A.size = some (.cells cz false 0) := by subst hB; simp [cz]
    have b1 : B.get (A.size + 1) = some (.cells cz false 0) := by subst hB; simp [cz]
    have zB : B.size = A.size + 2 := by subst hB; simp
    have eB : Ext NoB A B := by subst hB; (repeat first | exact Ext.refl | assumption | refine Ext.allocN ?_ | refine Ext.setN ?_ (by first | omega | (simp; done) | (simp; omega)))
    refine form_ok B _ (t.length + 1) (by omega) (by omega) _ ?_
    by_cases hf : t.length + 1 = 2 ∨ t.length + 1 = 10 ∨ t.length + 1 = 18 ∨ t.length + 1 = 20 ∨ t.length + 1 = 22
    case neg =>
      have hd : Cap.dec (a :: t) = .error 5 := by
        simp only [Cap.dec, if_neg h0]
        match t, hf with
        | [], _ => rfl
        | b :: r, hf => simp only; rw [if_neg (by simp only [List.length_cons] at hf; omega)]
      rw [hd] at hq
      rw [decide_eq_false hf]
      have l0 := AHeap.get_lt b0
      have l1 := AHeap.get_lt b1
      simp [b0, b1, zB, cz]
      exact hq _ (by have := eB.size; (repeat first | exact Ext.refl | assumption | refine Ext.allocN ?_ | refine Ext.setN ?_ (by first | omega | (simp; done) | (simp; omega))))
    rw [decide_eq_true hf]
    generalize hk : (if t.length + 1 = 2 then 0 else if t.length + 1 = 10 then 1 else if t.length + 1 = 18 then 2 else if t.length + 1 = 20 then 3 else if t.length + 1 = 22 then 4 else 0) = f
    match t, ht, hf, hk, hs, hq with
    | [], _, hf, _, _, _ => simp at hf
    | b :: r, ht, hf, hk, hs, hq =>
      simp
      generalize hC : AHeap.set _ _ _ = C
      have c0 : C.get A.size = some (.cells cz false 0) := by subst hC; simp [b0, zB]
      have c1 : C.get (A.size + 1) = some (.cells cz false 0) := by subst hC; simp [b1, zB]
      have c2 : C.get (A.size + 2) = some (.cells [.int .i64 (f : Nat)] false 0) := by subst hC; simp [zB]
      have zC : C.size = A.size + 3 := by subst hC; simp [zB]
      have eC : Ext NoB A C := by subst hC; have := eB.size; (repeat first | exact Ext.refl | assumption | refine Ext.allocN ?_ | refine Ext.setN ?_ (by first | omega | (simp; done) | (simp; omega)))
      refine Read_ok C (a :: b :: r) hs _ fun D p hp eD lp => ?_
      have d0 := eD.get c0 id
      have d1 := eD.get c1 id
      have d2 := eD.get c2 id
      have zD := eD.size
      simp
      generalize hE : AHeap.set _ _ _ = E
      have e0 : E.get A.size = some (.cells cz false 0) := by subst hE; simp [d0, show A.size ≠ D.size by omega]
      have e1 : E.get (A.size + 1) = some (.cells cz false 0) := by subst hE; simp [d1, show A.size + 1 ≠ D.size by omega]
      have e2 : E.get (A.size + 2) = some (.cells [.int .i64 (f : Nat)] false 0) := by subst hE; simp [d2, show A.size + 2 ≠ D.size by omega]
      have e3 : E.get D.size = some (.cells [.pointer (some ⟨p, 0, none⟩)] false 0) := by subst hE; simp
      have eDE : Ext NoB D E := by subst hE; (repeat first | exact Ext.refl | assumption | refine Ext.allocN ?_ | refine Ext.setN ?_ (by first | omega | (simp; done) | (simp; omega)))
      have ec := hp.ext eDE id
      have lpD := AHeap.get_lt hp.g
      have eE := (eC.trans eD).trans eDE
      obtain ⟨k1, k2, k3, k4⟩ := first2 _ a b r rfl
      refine wC_opsD_chk ?_
      simp [e3]
      refine U8_ok E p _ ec _ fun F fc eF => ?_
      rw [k1] at fc
      rw [k2]
      have f0 := eF.get e0 (by omega)
      have f1 := eF.get e1 (by omega)
      have f2 := eF.get e2 (by omega)
      have f3 := eF.get e3 (by omega)
      have eeF := eE.past eF (by omega)
      simp [f3]
      refine U8_ok F p _ fc _ fun G gc eG => ?_
      rw [k3] at gc
      rw [k4]
      have g0 := eG.get f0 (by omega)
      have g1 := eG.get f1 (by omega)
      have g2 := eG.get f2 (by omega)
      have g3 := eG.get f3 (by omega)
      have eeG := eeF.past eG (by omega)
      have l0 := AHeap.get_lt g0
      simp
      refine wE_intro ?_ ?_
      · simp only [List.all_cons, List.all_nil, chkOk, List.nil_append, List.cons_append, List.getElem?_cons_succ, List.getElem?_cons_zero]
        simp [Bx, e3, f3, vbeq]
      simp only [val_one]
      have m1 := bm1 b
      by_cases hb : b.toNat % 2 = 0
      · have hd : Cap.dec (a :: b :: r) = .error 2 := by
          simp only [Cap.dec, if_neg h0]
          rw [if_pos (by simp only [List.length_cons] at hf; omega), if_pos hb]
        rw [hd] at hq
        have hz : decide (b.toNat / 1 % 2 = 1) = false := decide_eq_false (by omega)
        rw [hz] at m1
        simp [m1, bitI, g0, g1, l0, cz]
        exact hq _ (by have := eeG.size; (repeat first | exact Ext.refl | assumption | refine Ext.allocN ?_ | refine Ext.setN ?_ (by first | omega | (simp; done) | (simp; omega))))
      · rw [Cap.read_dec a b r ha hb f (by subst hk; simp at hf; rcases hf with h | h | h | h | h <;> simp [h])] at hq
        have hz : decide (b.toNat / 1 % 2 = 1) = true := decide_eq_true (by omega)
        rw [hz] at m1
        simp [m1, bitI]
        refine cdt_ok A G f a b A.size (A.size + 2) D.size p _ _ Q g0 g2 g3 gc (by omega) (by omega) (by omega) eeG (Nat.le_refl _) (by omega) ?_ ?_ ?_ ?_ ?_ ?_ hq <;> simp
end Go.Proofs.YtigknpfjhegkgaaGreatDoor
