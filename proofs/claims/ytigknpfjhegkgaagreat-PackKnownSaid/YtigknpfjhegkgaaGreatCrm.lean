/- Rows of options: alike, and one more. -/
import Derived.Test.YtigknpfjhegkgaaGreatNd
import Derived.Test.YtigknpfjhegkgaaGreatKn
import Derived.KernelRfl
namespace Go.Proofs.YtigknpfjhegkgaaGreat
open Go Go.AS
set_option maxRecDepth 100000
set_option linter.unusedSimpArgs false
set_option linter.unusedVariables false
attribute [local irreducible] Trie.set Trie.get Env.rd
attribute [local simp ↓] wV_b2s
attribute [local simp] Nat.add_assoc wD_cons'' wD_nil' wC_seq wC_ops wC_opsD_nil wC_cond wC_skip wC_ret wC_exit wC_block wO_cons' wO_nil wantedA wV_eq lop qop ev wL_some wL_none wPut envOf rd_set rd_leaf eqA thenC blockC wB_true wB_false endF unwindA resultsA resA tupleA rdCell rdCells wrCells cl fillP lay rep bi_eql bi_neq bi_lss bi_leq bi_gtr bi_geq bi_add bi_sub bs_eql bs_neq bi_shr4 unA get_set' AHeap.get_alloc oneCell beqd bned idxA
attribute [local simp] Op.len Op.one Op.take Op.at0 Op.head? Op.getCap Op.getAd Op.layAll Op.zeroC Op.vb
def opsC (l : List Op) : List Value := l.flatMap Op.cells
theorem opsC_len : ∀ xs : List Op, (opsC xs).length = xs.length * 38
  | [] => rfl
  | x :: xs => by
    have := opsC_len xs
    simp only [opsC, List.flatMap_cons, List.length_append, List.length_cons, Op.len] at this ⊢
    omega
theorem opsC_at : ∀ (xs : List Op) (k : Nat) (h : k < xs.length), ((opsC xs).drop (k * 38)).take 38 = xs[k].cells
  | [], k, h => by simp at h
  | y :: xs, 0, h => by
    show ((y.cells ++ opsC xs).drop 0).take 38 = y.cells
    rw [List.drop_zero, List.take_left' (Op.len y)]
  | y :: xs, k + 1, h => by
    have := opsC_at xs k (by simpa using h)
    show ((y.cells ++ opsC xs).drop ((k + 1) * 38)).take 38 = (xs[k]'(by simpa using h)).cells
    rw [Nat.succ_mul, Nat.add_comm, ← List.drop_drop, List.drop_left' (Op.len y)]
    exact this
theorem opsC_app (l : List Op) (x : Op) : opsC (l ++ [x]) = opsC l ++ x.cells := by simp [opsC]
theorem wrap_succ (n : Nat) (h : n < 9000000000000000000) : IntKind.i64.wrap ((n : Int) + 1) = ((n + 1 : Nat) : Int) := by
  rw [show ((n : Int) + 1) = ((n + 1 : Nat) : Int) by omega]; exact IntWalk.i64_in _ (by omega)
theorem same_ok (v1 v2 : Value) (l1 l2 : List Op) (A : AHeap) (Q : Value → AHeap → Prop) (h1 : ReadAt A 38 v1 l1.length (opsC l1)) (h2 : ReadAt A 38 v2 l2.length (opsC l2)) (hb : l1.length < 1000000) (hq : Q (.bool (decide (l1 = l2))) A) : wF T (.func (.func 13) #[] #[]) [v1, v2] A Q := by
  obtain ⟨a1, c1, rfl⟩ := h1.val
  obtain ⟨a2, c2, rfl⟩ := h2.val
  refine wF_func (first := []) (captured := []) t13 ⟨rfl, by decide⟩ ?_
  dsimp only [c13]
  by_cases hn : l1.length = l2.length
  · have hn' : ((l1.length : Int) = (l2.length : Int)) := by omega
    simp [hn']
    refine wC_loop_inv (fun m st => ∃ i, m + i = l1.length ∧ l1.take i = l2.take i ∧ st.n = 26 ∧ st.dfs = [] ∧ st.A = A ∧ st.env.rd 0 = .slice a1 l1.length c1 ∧ st.env.rd 1 = .slice a2 l2.length c2 ∧ st.env.rd 5 = .int .i64 (i : Nat)) ?_ l1.length _ ⟨0, rfl, rfl, rfl, rfl, rfl, by simp, by simp, by simp⟩
    rintro m ⟨env, n, dfs, A'⟩ ⟨i, k1, k2, k3, k4, k5, k6, k7, k8⟩
    simp only at k3 k4 k5 k6 k7 k8
    subst k3; subst k4; subst k5
    by_cases hi : i < l1.length
    · have hi2 : i < l2.length := by omega
      obtain ⟨d1, p1, cc1, bs1, ro1, opn1, q1, q2, q3, q4⟩ := h1.elem2 hi
      obtain ⟨d2, p2, cc2, bs2, ro2, opn2, r1, r2, r3, r4⟩ := h2.elem2 hi2
      cases q1; cases r1
      rw [Nat.add_assoc] at q3 r3
      rw [opsC_at l1 i hi] at q4
      rw [opsC_at l2 i hi2] at r4
      have e1 : l1.take (i + 1) = l1.take i ++ [l1[i]] := by rw [List.take_add_one, List.getElem?_eq_getElem hi]; rfl
      have e2 : l2.take (i + 1) = l2.take i ++ [l2[i]] := by rw [List.take_add_one, List.getElem?_eq_getElem hi2]; rfl
      have hne : l1[i] ≠ l2[i] → l1 ≠ l2 := fun q z => q (by subst z; rfl)
      generalize l1[i] = x at q4 e1 hne
      generalize l2[i] = y at r4 e2 hne
      have ws := wrap_succ i (by omega)
      by_cases he : x = y
      · subst he
        simp [k6, k7, k8, hi, hi2, q2, q3, q4, r2, r3, r4, eqOp]
        refine ⟨m - 1, by omega, i + 1, by omega, ?_, by simpa using ws⟩
        rw [e1, e2, k2]
      · have hne := hne he
        have hf : decide (l1 = l2) = false := by simp [hne]
        rw [hf] at hq
        simp [k6, k7, k8, hi, hi2, q2, q3, q4, r2, r3, r4, eqOp, he]
        exact hq
    · have hl : l1 = l2 := by
        have := k2
        rwa [List.take_of_length_le (by omega), List.take_of_length_le (by omega)] at this
      have hf : decide (l1 = l2) = true := by simp [hl]
      rw [hf] at hq
      simp [k6, k7, k8, hi]
      exact hq
  · have hne : l1 ≠ l2 := fun q => hn (by rw [q])
    have hn' : ¬ ((l1.length : Int) = (l2.length : Int)) := by omega
    have hf : decide (l1 = l2) = false := by simp [hne]
    rw [hf] at hq
    simp [hn']
    exact hq
/-- One option at a slice's end. -/
theorem appO (A A1 : AHeap) (v x : Value) (l : List Op) (t : Op) (h : SliceAt A 38 v l.length (opsC l)) (e : Ext NoB A A1) (hx : lenA x = some 1) (hf : firstA A1 38 1 x = some t.cells) (hs : isStr x = false) (hn : l.length < 1000000) :
    ∃ a' c' A', appA A1 38 288 v x = some (.slice a' (l.length + 1) c', A') ∧ SliceAt A' 38 (.slice a' (l.length + 1) c') (l ++ [t]).length (opsC (l ++ [t])) ∧ Ext (Own v) A A' ∧ ∀ j, Own (.slice a' (l.length + 1) c') j → Own v j ∨ A.size ≤ j := by
  obtain ⟨v', A', k1, k2, k3, k4⟩ := (h.ext e fun _ _ q => q).append (x := x) (m := 1) (bytes := 288) (new := t.cells) (by decide) hx hf (Op.one t) (by rw [Op.len]) (by omega) (by decide) (by intro q; rw [hs] at q; cases q)
  obtain ⟨a', c', hv⟩ := k2.read.val
  subst hv
  refine ⟨a', c', A', k1, by rw [opsC_app]; simpa using k2, (e.mono fun _ _ q => q.elim).trans k3, fun j hj => ?_⟩
  rcases k4 j hj with q | q
  · exact .inl q
  · exact .inr (Nat.le_trans e.size q)
end Go.Proofs.YtigknpfjhegkgaaGreat
