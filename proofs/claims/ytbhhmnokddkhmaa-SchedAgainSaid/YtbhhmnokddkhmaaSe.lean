/- Contracts of stage 25: best, and Pick. -/
import Derived.Test.YtbhhmnokddkhmaaSd
import Derived.KernelRfl
namespace Go.Proofs.Ytbhhmnokddkhmaa
open Go Go.AS
set_option maxRecDepth 100000
set_option linter.unusedSimpArgs false
set_option linter.unusedVariables false
attribute [local irreducible] Trie.set Trie.get Env.rd
attribute [local simp] Nat.add_assoc wD_cons'' wD_nil' wC_seq wC_ops wC_opsD_nil wC_cond wC_skip wC_ret wC_exit wC_block wO_cons' wO_nil wantedA wV_eq lop qop ev wL_some wL_none wPut envOf rd_set rd_leaf eqA thenC blockC wB_true wB_false endF unwindA resultsA resA tupleA rdCell rdCells wrCells cl fillP lay rep binA unA get_set' AHeap.get_alloc oneCell

def z4 : List Value := [.int .i64 0, .bool false, .bool false, .int .i64 0]
def BI (l t u w d : Nat) (e : Env) (ys : List La) (A : AHeap) : Prop := A.get l = some (.loop .ready none 15 21 e [8] c15a c15b d) ∧ A.get w = some (.cells [.func (.func 16) #[] #[]] false 0) ∧
  match least ys with
  | none => A.get t = some (.cells z4 false 0) ∧ A.get u = some (.cells [.bool false] false 0)
  | some x => A.get t = some (.cells x.cells false 0) ∧ A.get u = some (.cells [.bool true] false 0)

theorem byield_ok (l t u w d : Nat) (e : Env) (ys : List La) (y : La) (A : AHeap) (Q : Value → AHeap → Prop) (hlt : l ≠ t) (hlu : l ≠ u) (hlw : l ≠ w) (htu : t ≠ u) (htw : t ≠ w) (huw : u ≠ w) (e3 : e.rd 3 = .pointer (some ⟨w, 0, none⟩)) (e4 : e.rd 4 = .pointer (some ⟨t, 0, none⟩)) (e5 : e.rd 5 = .pointer (some ⟨u, 0, none⟩)) (h : BI l t u w d e ys A)
    (hq : ∀ A', Ext (fun j => j = l ∨ j = t ∨ j = u) A A' → BI l t u w d e (ys ++ [y]) A' → Q (.bool true) A') : wF T (.func (.yield l) #[] #[]) [.agg ⟨y.cells⟩] A Q := by
  obtain ⟨hl, hw, hm⟩ := h
  have b1 := AHeap.get_lt hl
  have b2 := AHeap.get_lt hw
  have n1 : l ≠ A.size := by omega
  have n2 : w ≠ A.size := by omega
  unfold BI at hq
  rw [least_snoc] at hq
  refine wF_yield hl rfl (by decide) ?_
  dsimp only [c15a, c15b]
  cases hb : least ys with
  | none =>
    rw [hb] at hm hq
    obtain ⟨ht, hu⟩ := hm
    have b3 := AHeap.get_lt ht
    have b4 := AHeap.get_lt hu
    have n3 : t ≠ A.size := by omega
    have n4 : u ≠ A.size := by omega
    have n5 : l < A.size + 1 := by omega
    have n6 : t < A.size + 1 := by omega
    have n7 : u < A.size + 1 := by omega
    simp [La.cells, midY, hl, b1, n1, n1.symm, n2, n2.symm, n3, n3.symm, n4, n4.symm, n5, n6, n7, e3, e4, e5, ht, hu, hw, hlt, hlt.symm, hlu, hlu.symm, htu, htu.symm, z4, endY, jumpOf]
    refine hq _ ⟨by simp, fun j hj hs => ?_⟩ ⟨?_, ?_, ?_⟩
    · simp [show j ≠ A.size by omega, show ¬ j = l from fun q => hs (.inl q), show ¬ j = t from fun q => hs (.inr (.inl q)), show ¬ j = u from fun q => hs (.inr (.inr q))]
    · simp [n5]
    · simp [hlw.symm, htw.symm, huw.symm, n2, hw]
    · simp [bst, La.cells, hlt.symm, hlu.symm, htu, htu.symm, n6, n7]
  | some x =>
    rw [hb] at hm hq
    obtain ⟨ht, hu⟩ := hm
    have b3 := AHeap.get_lt ht
    have b4 := AHeap.get_lt hu
    have n3 : t ≠ A.size := by omega
    have n4 : u ≠ A.size := by omega
    simp [La.cells, midY, hl, b1, n1, n1.symm, n2, n2.symm, n3, n3.symm, n4, n4.symm, e3, e4, e5, ht, hu, hw, hlt, hlt.symm, hlu, hlu.symm, htu, htu.symm, hlw, hlw.symm]
    generalize hH : AHeap.set (AHeap.set (AHeap.alloc A _) A.size _) l _ = H
    have zH : H.size = A.size + 1 := by rw [← hH]; rfl
    have eH : Ext (fun j => j = l) A H := ⟨by omega, fun j hj hs => by rw [← hH]; simp [show j ≠ A.size by omega, show ¬ j = l from hs]⟩
    have gl : H.get l = some (.loop .busy none 15 21 e [8] c15a c15b d) := by rw [← hH]; simp [show l < A.size + 1 by omega, c15a, c15b]
    have gy : H.get A.size = some (.cells y.cells false 0) := by rw [← hH]; simp [n1.symm, La.cells]
    refine cmp_ok y x H _ fun A2 e2 => ?_
    have gl2 := e2.get gl fun q => q
    have gy2 := e2.get gy fun q => q
    have gt2 := e2.get (eH.get ht hlt.symm) fun q => q
    have gu2 := e2.get (eH.get hu hlu.symm) fun q => q
    have gw2 := e2.get (eH.get hw hlw.symm) fun q => q
    have z2 := e2.size
    have m1 : l < A2.size := by omega
    have m2 : t < A2.size := by omega
    have m3 : u < A2.size := by omega
    have hc := cmpL_less y x
    have e2' : Ext (fun j => j = l ∨ j = t ∨ j = u) A A2 := (eH.mono fun _ _ q => .inl q).trans2 e2 fun _ _ q => q.elim
    cases hle : less y x
    · rw [hle] at hc
      simp [hc, gl2, m1, e3, e4, e5, endY, jumpOf]
      refine hq _ (e2'.trans2 (Ext.set (S := fun j => j = l) rfl) fun _ _ q => .inl q) ⟨by simp [m1], by simp [hlw.symm, gw2], ?_⟩
      simp [bst, hle, hlt.symm, hlu.symm, gt2, gu2]
    · rw [hle] at hc
      simp [hc, gl2, gy2, gt2, gu2, m1, m2, m3, e3, e4, e5, La.cells, hlt, hlt.symm, hlu, hlu.symm, htu, htu.symm, endY, jumpOf]
      refine hq _ ⟨by simp; omega, fun j hj hs => ?_⟩ ⟨?_, ?_, ?_⟩
      · simp [show ¬ j = l from fun q => hs (.inl q), show ¬ j = t from fun q => hs (.inr (.inl q)), show ¬ j = u from fun q => hs (.inr (.inr q))]
        exact e2'.keep j hj hs
      · simp [m1]
      · simp [hlw.symm, htw.symm, huw.symm, gw2]
      · simp [bst, hle, La.cells, hlt.symm, hlu.symm, htu, htu.symm, m2, m3]

theorem best_ok (x1 x2 : Nat) (ls : List La) (lv fv : Value) (p : La → Bool) (A : AHeap) (Q : Value → AHeap → Prop) (h1 : A.get x1 = some (.cells [lv] false 0)) (h2 : A.get x2 = some (.cells [fv] false 0)) (h : ReadAt A 4 lv ls.length (lcells ls)) (ho : ∀ j, Own lv j → j < A.size) (hn : ls.length ≤ 1000) (hf : Asks fv p A (fun j => A.size ≤ j))
    (hq0 : least (ls.filter p) = none → ∀ A', Ext NoB A A' → Q (.tuple ⟨[.agg ⟨z4⟩, .bool false]⟩) A') (hq1 : ∀ x, least (ls.filter p) = some x → ∀ A', Ext NoB A A' → Q (.tuple ⟨[.agg ⟨x.cells⟩, .bool true]⟩) A') :
    wF T (.func (.func 15) #[] #[]) [.func (.func 26) ⟨[]⟩ ⟨[.pointer (some ⟨x1, 0, none⟩), .pointer (some ⟨x2, 0, none⟩)]⟩, .func (.func 16) #[] #[]] A Q := by
  have y1 := AHeap.get_lt h1
  have y2 := AHeap.get_lt h2
  refine wF_func (first := []) (captured := []) t15 ⟨rfl, by decide⟩ ?_
  dsimp only [c15]; simp
  refine wC_range ?_
  simp
  refine those1_ok (A.size + 4) x1 x2 ls lv fv p (fun j => j = A.size + 4 ∨ j = A.size + 1 ∨ j = A.size + 2) (BI (A.size + 4) (A.size + 1) (A.size + 2) A.size (A.size + 3) _) _ _
    (Ext.get (S := NoB) (Ext.alloc.trans (Ext.alloc.trans (Ext.alloc.trans (Ext.alloc.trans Ext.alloc)))) h1 fun q => q) (Ext.get (S := NoB) (Ext.alloc.trans (Ext.alloc.trans (Ext.alloc.trans (Ext.alloc.trans Ext.alloc)))) h2 fun q => q)
    (by omega) (by omega) (h.ext (S := NoB) (Ext.alloc.trans (Ext.alloc.trans (Ext.alloc.trans (Ext.alloc.trans Ext.alloc)))) fun _ _ q => q) (fun j hj q => by have := ho j hj; omega) hn
    ?hf ?hI ?hy ⟨get_alloc_top (by simp), by simp, by simp [least, z4]⟩ ?hq
  case hf =>
    intro A' x Q' e1 k
    exact hf A' x Q' ((Ext.trans (S := fun j => A.size ≤ j) (Ext.alloc.trans (Ext.alloc.trans (Ext.alloc.trans (Ext.alloc.trans Ext.alloc))))) (e1.mono fun j _ q => by rcases q with q | q | q <;> omega)) k
  case hI =>
    intro ys A' A'' hi e
    obtain ⟨i1, i2, i3⟩ := hi
    refine ⟨e.get i1 fun q => q, e.get i2 fun q => q, ?_⟩
    cases hb : least ys with
    | none => rw [hb] at i3; exact ⟨e.get i3.1 fun q => q, e.get i3.2 fun q => q⟩
    | some x => rw [hb] at i3; exact ⟨e.get i3.1 fun q => q, e.get i3.2 fun q => q⟩
  case hy =>
    intro ys y A' Q' e1 hi k
    refine byield_ok (A.size + 4) (A.size + 1) (A.size + 2) A.size (A.size + 3) _ ys y A' Q' (by omega) (by omega) (by omega) (by omega) (by omega) (by omega) (by simp) (by simp) (by simp) hi fun A'' e2 hi2 => ?_
    exact k A'' (e1.trans e2) hi2 e2.size
  case hq =>
    intro A' v e1 hi
    obtain ⟨i1, i2, i3⟩ := hi
    have gd := e1.get (b := A.size + 3) (x := .dfr false) (by simp) (by omega)
    have e0 : Ext NoB A A' := (Ext.trans (S := fun j => A.size ≤ j) (Ext.alloc.trans (Ext.alloc.trans (Ext.alloc.trans (Ext.alloc.trans Ext.alloc)))) (e1.mono fun j _ q => by rcases q with q | q | q <;> omega)).mono fun j hj q => by omega
    have zz := AHeap.get_lt i1
    simp [endR, i1]
    refine ⟨.normal, rfl, ?_⟩
    generalize hA6 : A'.set (A.size + 4) _ = A6
    have e6 : Ext (fun j => j = A.size + 4) A' A6 := by rw [← hA6]; exact Ext.set rfl
    have z6 := e6.size
    have gd6 := e6.get gd (by omega)
    have e06 : Ext NoB A A6 := e0.trans2 e6 fun j hj q => by omega
    have fin : ∀ X Y Z, Ext NoB A (((A6.set (A.size + 1) X).set (A.size + 2) Y).set (A.size + 3) Z) := fun X Y Z => e06.trans2 ((Ext.set (S := fun j => A.size ≤ j) (by omega)).trans ((Ext.set (by omega)).trans (Ext.set (by omega)))) fun j hj q => by omega
    have w1 : A.size + 1 < A6.size := by omega
    have w2 : A.size + 2 < A6.size := by omega
    have w3 : A.size + 3 < A6.size := by omega
    cases hb : least (ls.filter p) with
    | none =>
      rw [hb] at i3
      have gt := e6.get i3.1 (by omega)
      have gu := e6.get i3.2 (by omega)
      simp
      refine wC_opsD_chk ?_
      simp [gt, gu, w1, w2, w3, z4]
      refine wE_intro ?_ ?_
      · simp only [List.all_cons, List.all_nil, chkOk, List.nil_append, List.cons_append, List.getElem?_cons_succ, List.getElem?_cons_zero]
        simp [Bx, gt, gu, vbeq]
      · simp [gt, gu, gd6, w1, w2, w3]
        exact hq0 hb _ (fin _ _ _)
    | some x =>
      rw [hb] at i3
      have gt := e6.get i3.1 (by omega)
      have gu := e6.get i3.2 (by omega)
      simp
      refine wC_opsD_chk ?_
      simp [gt, gu, w1, w2, w3, La.cells]
      refine wE_intro ?_ ?_
      · simp only [List.all_cons, List.all_nil, chkOk, List.nil_append, List.cons_append, List.getElem?_cons_succ, List.getElem?_cons_zero]
        simp [Bx, gt, gu, vbeq]
      · simp [gt, gu, gd6, w1, w2, w3]
        exact hq1 x hb _ (fin _ _ _)
end Go.Proofs.Ytbhhmnokddkhmaa
