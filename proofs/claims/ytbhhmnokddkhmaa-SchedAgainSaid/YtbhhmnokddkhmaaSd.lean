/- Contracts of stage 25: Pick. -/
import Derived.Test.YtbhhmnokddkhmaaSc
import Derived.KernelRfl
namespace Go.Proofs.Ytbhhmnokddkhmaa
open Go Go.AS
set_option maxRecDepth 100000
set_option linter.unusedSimpArgs false
set_option linter.unusedVariables false
attribute [local irreducible] Trie.set Trie.get Env.rd
attribute [local simp] Nat.add_assoc wD_cons'' wD_nil' wC_seq wC_ops wC_opsD_nil wC_cond wC_skip wC_ret wC_exit wC_block wO_cons' wO_nil wantedA wV_eq lop qop ev wL_some wL_none wPut envOf rd_set rd_leaf eqA thenC blockC wB_true wB_false endF unwindA resultsA resA tupleA rdCell rdCells wrCells cl fillP lay rep binA unA get_set' AHeap.get_alloc oneCell

/-- A closure that answers p, and leaves what was there. -/
def Asks (fv : Value) (p : La → Bool) (A : AHeap) (S : Nat → Prop) : Prop := ∀ A' x Q, Ext S A A' → (∀ A'', Ext NoB A' A'' → Q (.bool (p x)) A'') → wF T fv [.agg ⟨x.cells⟩] A' Q

def IxI (ls : List La) (p : La → Bool) (lv fv : Value) (A : AHeap) (m : Nat) (st : St) : Prop := ∃ i, m + i = ls.length ∧ (ls.take i).any p = false ∧ st.n = 19 ∧ st.dfs = [] ∧ st.env.rd 0 = lv ∧ st.env.rd 1 = fv ∧ st.env.rd 7 = .int .i64 (ls.length : Nat) ∧ st.env.rd 8 = .int .i64 (i : Nat) ∧ Ext NoB A st.A

theorem index_ok (ls : List La) (lv fv : Value) (p : La → Bool) (A : AHeap) (Q : Value → AHeap → Prop) (h : ReadAt A 4 lv ls.length (lcells ls)) (hn : ls.length ≤ 1000) (hf : Asks fv p A NoB)
    (hq : ∀ A' r, Ext NoB A A' → decide ((0 : Int) ≤ r) = ls.any p → Q (.int .i64 r) A') : wF T (.func (.func 25) #[] #[]) [lv, fv] A Q := by
  obtain ⟨a1, c1, rfl⟩ := h.val
  refine wF_func (first := []) (captured := []) t25 ⟨rfl, by decide⟩ ?_
  dsimp only [c25]; simp
  refine wC_loop_inv (IxI ls p (.slice a1 ls.length c1) fv A) ?_ ls.length _ ⟨0, by omega, by simp, rfl, rfl, by simp, by simp, by simp, by simp, Ext.refl⟩
  rintro m ⟨env, nn, dfs, A1⟩ ⟨i, k0, kt, k1, k2, r0, r1, r7, r8, e1⟩
  simp only at k1 k2 r0 r1 r7 r8 e1
  subst k1; subst k2
  by_cases hi : i < ls.length
  · obtain ⟨d1, p1, cc1, bs1, ro1, opn1, q1, q2, q3, q4⟩ := (h.ext e1 fun _ _ q => q).elem2 hi
    rw [lcells_at ls i hi] at q4
    cases q1
    rw [Nat.add_assoc] at q3
    have ht : ls.take (i + 1) = ls.take i ++ [ls[i]] := by rw [List.take_add_one, List.getElem?_eq_getElem hi]; rfl
    have hm : ls[i] ∈ ls := List.getElem_mem hi
    generalize ls[i] = x at q4 ht hm
    have ws := wrap_succ i (by omega)
    simp [r0, r1, r7, r8, hi, idxA, q2, q3, q4]
    refine hf A1 x _ e1 fun A2 e2 => ?_
    cases hp : p x
    · simp [r0, r1, r7, r8]
      exact ⟨m - 1, by omega, i + 1, by omega, by rw [ht]; simp [kt, hp], rfl, rfl, by simp [r0], by simp [r1], by simp [r7], by simpa using ws, e1.trans e2⟩
    · simp [r0, r1, r7, r8]
      refine hq A2 _ (e1.trans e2) ?_
      have : ls.any p = true := List.any_eq_true.2 ⟨x, hm, hp⟩
      rw [this]; simp
  · simp [r0, r1, r7, r8, hi]
    refine hq A1 (-1) e1 ?_
    rw [List.take_of_length_le (by omega)] at kt
    rw [kt]; rfl

theorem contains_ok (ls : List La) (lv fv : Value) (p : La → Bool) (A : AHeap) (Q : Value → AHeap → Prop) (h : ReadAt A 4 lv ls.length (lcells ls)) (hn : ls.length ≤ 1000) (hf : Asks fv p A NoB)
    (hq : ∀ A', Ext NoB A A' → Q (.bool (ls.any p)) A') : wF T (.func (.func 11) #[] #[]) [lv, fv] A Q := by
  refine wF_func (first := []) (captured := []) t11 ⟨rfl, by decide⟩ ?_
  dsimp only [c11]; simp
  refine index_ok ls lv fv p A _ h hn hf fun A' r e hr => ?_
  simp [hr]
  exact hq A' e

theorem those_ok (a : Option Addr) (n c f : Nat) (caps : List Value) (A : AHeap) (Q : Value → AHeap → Prop)
    (hq : Q (.func (.func 26) ⟨[]⟩ ⟨[.pointer (some ⟨A.size, 0, none⟩), .pointer (some ⟨A.size + 1, 0, none⟩)]⟩) ((A.alloc (.cells [.slice a n c] false 0)).alloc (.cells [.func (.func f) ⟨[]⟩ ⟨caps⟩] false 0))) : wF T (.func (.func 13) #[] #[]) [.slice a n c, .func (.func f) ⟨[]⟩ ⟨caps⟩] A Q := by
  refine wF_func (first := []) (captured := []) t13 ⟨rfl, by decide⟩ ?_
  dsimp only [c13]; simp
  exact hq

def ThI (ls : List La) (p : La → Bool) (lv : Value) (l x2 : Nat) (S : Nat → Prop) (I : List La → AHeap → Prop) (A : AHeap) (m : Nat) (st : St) : Prop := ∃ i, m + i = ls.length ∧ st.n = 22 ∧ st.dfs = [] ∧ st.env.rd 0 = .func (.yield l) #[] #[] ∧ st.env.rd 2 = .pointer (some ⟨x2, 0, none⟩) ∧ st.env.rd 6 = lv ∧ st.env.rd 7 = .int .i64 (ls.length : Nat) ∧ st.env.rd 8 = .int .i64 (i : Nat) ∧ Ext S A st.A ∧ I ((ls.take i).filter p) st.A

theorem those1_ok (l x1 x2 : Nat) (ls : List La) (lv fv : Value) (p : La → Bool) (S : Nat → Prop) (I : List La → AHeap → Prop) (A : AHeap) (Q : Value → AHeap → Prop)
    (h1 : A.get x1 = some (.cells [lv] false 0)) (h2 : A.get x2 = some (.cells [fv] false 0)) (n1 : ¬ S x1) (n2 : ¬ S x2) (h : ReadAt A 4 lv ls.length (lcells ls)) (ho : ∀ j, Own lv j → ¬ S j) (hn : ls.length ≤ 1000) (hf : Asks fv p A S)
    (hI : ∀ ys A' A'', I ys A' → Ext NoB A' A'' → I ys A'')
    (hy : ∀ ys y A' Q', Ext S A A' → I ys A' → (∀ A'', Ext S A A'' → I (ys ++ [y]) A'' → A'.size ≤ A''.size → Q' (.bool true) A'') → wF T (.func (.yield l) #[] #[]) [.agg ⟨y.cells⟩] A' Q')
    (h0 : I [] A) (hq : ∀ A' v, Ext S A A' → I (ls.filter p) A' → Q v A') :
    wF T (.func (.func 26) ⟨[]⟩ ⟨[.pointer (some ⟨x1, 0, none⟩), .pointer (some ⟨x2, 0, none⟩)]⟩) [.func (.yield l) #[] #[]] A Q := by
  obtain ⟨a1, c1, rfl⟩ := h.val
  refine wF_func t26 ⟨rfl, by decide⟩ ?_
  dsimp only [c26]; simp [h1]
  refine wC_loop_inv (ThI ls p (.slice a1 ls.length c1) l x2 S I A) ?_ ls.length _ ⟨0, by omega, rfl, rfl, by simp, by simp, by simp, by simp, by simp, Ext.refl, by simpa using h0⟩
  rintro m ⟨env, nn, dfs, A1⟩ ⟨i, k0, k1, k2, r0, r2, r6, r7, r8, e1, i1⟩
  simp only at k1 k2 r0 r2 r6 r7 r8 e1 i1
  subst k1; subst k2
  by_cases hi : i < ls.length
  · obtain ⟨d1, p1, cc1, bs1, ro1, opn1, q1, q2, q3, q4⟩ := (h.ext e1 ho).elem2 hi
    rw [lcells_at ls i hi] at q4
    cases q1
    rw [Nat.add_assoc] at q3
    have ht : ls.take (i + 1) = ls.take i ++ [ls[i]] := by rw [List.take_add_one, List.getElem?_eq_getElem hi]; rfl
    generalize ls[i] = x at q4 ht
    have ws := wrap_succ i (by omega)
    have g2 := e1.get h2 n2
    have nx : x2 ≠ A1.size := by have := AHeap.get_lt g2; omega
    simp [r0, r2, r6, r7, r8, hi, idxA, q2, q3, q4, g2, nx]
    generalize hH : AHeap.set (AHeap.alloc A1 _) A1.size _ = H
    have zH : H.size = A1.size + 1 := by rw [← hH]; rfl
    have eH : Ext NoB A1 H := ⟨by omega, fun j hj _ => by rw [← hH]; simp [show j ≠ A1.size by omega]⟩
    have gx : H.get A1.size = some (.cells x.cells false 0) := by rw [← hH]; simp [La.cells]
    refine hf H x _ (e1.trans2 eH fun _ _ q => q.elim) fun A2 e2 => ?_
    have gx2 := e2.get gx fun q => q
    have iA2 := hI _ _ _ (hI _ _ _ i1 eH) e2
    have eA2 : Ext S A A2 := (e1.trans2 eH fun _ _ q => q.elim).trans2 e2 fun _ _ q => q.elim
    cases hp : p x
    · simp [r0, r2, r6, r7, r8]
      exact ⟨m - 1, by omega, i + 1, by omega, rfl, rfl, by simp [r0], by simp [r2], by simp [r6], by simp [r7], by simpa using ws, eA2, by rw [ht]; simpa [hp] using iA2⟩
    · simp [r0, r2, r6, r7, r8, gx2, La.cells]
      refine hy _ x A2 _ eA2 iA2 fun A3 e3 i3 _ => ?_
      simp [r0, r2, r6, r7, r8]
      exact ⟨m - 1, by omega, i + 1, by omega, rfl, rfl, by simp [r0], by simp [r2], by simp [r6], by simp [r7], by simpa using ws, e3, by rw [ht]; simpa [hp] using i3⟩
  · simp [r0, r2, r6, r7, r8, hi]
    rw [List.take_of_length_le (by omega)] at i1
    exact hq A1 _ e1 i1
end Go.Proofs.Ytbhhmnokddkhmaa
