/- Sorting what is sorted: stage 25. -/
import Derived.Test.YtbhhmnokddkhmaaTa
import Derived.KernelRfl
namespace Go.Proofs.Ytbhhmnokddkhmaa
open Go Go.AS
set_option maxRecDepth 100000
set_option linter.unusedSimpArgs false
set_option linter.unusedVariables false
attribute [local irreducible] Trie.set Trie.get Env.rd
attribute [local simp] Nat.add_assoc wD_cons'' wD_nil' wC_seq wC_ops wC_opsD_nil wC_cond wC_skip wC_ret wC_exit wC_block wO_cons' wO_nil wantedA wV_eq lop qop ev wL_some wL_none wPut envOf rd_set rd_leaf eqA thenC blockC wB_true wB_false endF unwindA resultsA resA tupleA rdCell rdCells wrCells cl fillP lay rep binA unA get_set' AHeap.get_alloc oneCell

def ints (l : List Int) : List Value := l.map (.int .i64 ·)

theorem intc {A : AHeap} {v : Value} {sl : List Int} (h : ReadAt A 1 v sl.length (ints sl)) {i : Nat} (hi : i < sl.length) : ∃ d o c bs ro opn, v = .slice (some ⟨d, o, none⟩) sl.length c ∧ A.get d = some (.cells bs ro opn) ∧ bs[o + i]? = some (.int .i64 sl[i]) := by
  obtain ⟨d, o, c, bs, ro, opn, h1, h2, h3⟩ := h.cell hi
  refine ⟨d, o, c, bs, ro, opn, h1, h2, ?_⟩
  rw [h3]; simp [ints, hi]

theorem less_ok (a b : Int) (A : AHeap) (Q : Value → AHeap → Prop) (hq : Q (.bool (decide (a < b))) A) : wF T (.func (.func 37) #[] #[]) [.int .i64 a, .int .i64 b] A Q := by
  refine wF_func (first := []) (captured := []) t37 ⟨rfl, by decide⟩ ?_
  dsimp only [c37]; simp
  refine isnan_ok _ _ _ ?_
  simp [undef]
  exact hq

def Inc (sl : List Int) : Prop := ∀ (i j : Nat) (hi : i < sl.length) (hj : j < sl.length), i < j → sl[i] < sl[j]

def S1 (v : Value) (n : Nat) (A : AHeap) (m : Nat) (st : St) : Prop := ∃ i, m + i = n + 1 ∧ 1 ≤ i ∧ st.n = 49 ∧ st.dfs = [] ∧ st.A = A ∧ st.env.rd 0 = v ∧ st.env.rd 1 = .int .i64 0 ∧ st.env.rd 2 = .int .i64 (n : Nat) ∧ st.env.rd 6 = .int .i64 (i : Nat)

theorem isort_ok (sl : List Int) (v : Value) (A : AHeap) (Q : Value → AHeap → Prop) (h : ReadAt A 1 v sl.length (ints sl)) (hs : Inc sl) (hn : sl.length ≤ 100) (hq : Q (.tuple ⟨[]⟩) A) : wF T (.func (.func 31) #[] #[]) [v, .int .i64 0, .int .i64 (sl.length : Nat)] A Q := by
  obtain ⟨a1, c1, rfl⟩ := h.val
  refine wF_func (first := []) (captured := []) t31 ⟨rfl, by decide⟩ ?_
  dsimp only [c31]
  have w1 : IntKind.i64.wrap 1 = 1 := IntWalk.i64_in _ (by omega)
  simp [w1]
  refine wC_loop_inv (S1 (.slice a1 sl.length c1) sl.length A) ?_ sl.length _ ⟨1, by omega, by omega, rfl, rfl, rfl, by simp, by simp, by simp, by simp⟩
  rintro m ⟨env, nn, dfs, A'⟩ ⟨i, k0, k9, k1, k2, k3, r0, r1, r2, r6⟩
  simp only at k1 k2 k3 r0 r1 r2 r6
  subst k1; subst k2; subst k3
  by_cases hi : i < sl.length
  · obtain ⟨d, o, c, bs, ro, opn, q1, q2, q3⟩ := intc h hi
    obtain ⟨d', o', c', bs', ro', opn', p1, p2, p3⟩ := intc h (show i - 1 < sl.length by omega)
    cases q1; cases p1
    rw [q2] at p2
    cases p2
    have lt := hs (i - 1) i (by omega) hi (by omega)
    generalize sl[i] = x at q3 lt
    generalize sl[i - 1]'(by omega) = y at p3 lt
    have ws := wrap_succ i (by omega)
    have w2 : IntKind.i64.wrap ((i : Int) - 1) = ((i - 1 : Nat) : Int) := by rw [IntWalk.i64_in _ (by omega)]; omega
    have i0 : 0 < i := by omega
    have nl : ¬ x < y := by omega
    have i1 : i - 1 < sl.length := by omega
    generalize i - 1 = k at p3 w2 i1
    simp [r0, r1, r2, r6, hi]
    refine wC_loop ?_
    simp [r0, r1, r2, r6, i0, hi, i1, idxA, q2, q3, w2, p3]
    refine less_ok _ _ _ _ ?_
    simp [r0, r1, r2, r6, nl]
    exact ⟨m - 1, by omega, i + 1, by omega, by omega, rfl, rfl, rfl, by simp [r0], by simp [r1], by simp [r2], by simpa using ws⟩
  · simp [r0, r1, r2, r6, hi]
    exact hq
end Go.Proofs.Ytbhhmnokddkhmaa
