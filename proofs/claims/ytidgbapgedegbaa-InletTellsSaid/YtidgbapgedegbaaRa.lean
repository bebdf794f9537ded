/- Mappings: searching. -/
import Derived.Test.YtidgbapgedegbaaKd
import Derived.Test.YtidgbapgedegbaaHa
import Derived.KernelRfl
namespace Go.Proofs.Ytidgbapgedegbaa
open Go Go.AS
set_option maxRecDepth 100000
set_option linter.unusedSimpArgs false
set_option linter.unusedVariables false
attribute [local irreducible] Trie.set Trie.get Env.rd
attribute [local simp] Nat.add_assoc wD_cons'' wD_nil' wC_seq wC_ops wC_opsD_nil wC_cond wC_skip wC_ret wC_exit wC_block wO_cons' wO_nil wantedA wV_eq lop qop ev wL_some wL_none wPut envOf rd_set rd_leaf eqA thenC blockC wB_true wB_false endF unwindA resultsA resA tupleA rdCell rdCells wrCells cl fillP lay rep binA unA get_set' AHeap.get_alloc oneCell beqd bned idxA

structure Mp where
  at_ : Int
  off : Int
  len : Int
  sum : Int
def mpc (m : Mp) : List Value := [.int .i64 m.at_, .int .i64 m.off, .int .i64 m.len, .int .u16 m.sum]
theorem mpcz (m : Mp) : (mpc m).length = 4 := rfl
theorem mpco (m : Mp) : (mpc m).all oneCell = true := rfl

def SrI (fv : Value) (n : Nat) (g : Nat → Bool) (A : AHeap) (k : Nat) (st : St) : Prop := ∃ i j : Nat, j = i + k ∧ j ≤ n ∧ st.n = 26 ∧ st.dfs = [] ∧ st.env.rd 1 = fv ∧ st.env.rd 5 = .int .i64 (i : Nat) ∧ st.env.rd 6 = .int .i64 (j : Nat) ∧ Ext NoB A st.A ∧ (∀ k, k < i → g k = false) ∧ (∀ k, j ≤ k → k < n → g k = true)

theorem search_ok (fv : Value) (n : Nat) (hn : n < 1000000) (g : Nat → Bool) (mono : ∀ i j, i ≤ j → j < n → g i = true → g j = true) (A : AHeap) (Q : Value → AHeap → Prop)
    (hf : ∀ i, i < n → ∀ A', Ext NoB A A' → ∀ Q' : Value → AHeap → Prop, (∀ A'', Ext NoB A' A'' → Q' (.bool (g i)) A'') → wF T fv [.int .i64 (i : Nat)] A' Q')
    (hq : ∀ A' i, Ext NoB A A' → i ≤ n → (∀ k, k < i → g k = false) → (∀ k, i ≤ k → k < n → g k = true) → Q (.int .i64 (i : Nat)) A') :
    wF T (.func (.func 170) #[] #[]) [.int .i64 (n : Nat), fv] A Q := by
  refine wF_func (first := []) (captured := []) t170 ⟨rfl, by decide⟩ ?_
  dsimp only [c170]
  simp
  refine wC_loop_inv (SrI fv n g A) ?_ n _ ⟨0, n, by omega, Nat.le_refl _, rfl, rfl, by simp, by simp, by simp, Ext.refl, (fun k hk => by omega), (fun k h1 h2 => by omega)⟩
  rintro m ⟨env, nn, dfs, A1⟩ ⟨i, j, hj, hjn, s1, s2, r1, r5, r6, ex, lo, hi⟩
  simp only at s1 s2 r1 r5 r6 ex
  subst s1; subst s2
  by_cases c : i < j
  · have w1 : IntKind.i64.wrap ((i : Int) + (j : Int)) = ((i + j : Nat) : Int) := by rw [IntWalk.i64_in _ (by omega)]; omega
    have w2 : IntKind.u64.wrap ((i + j : Nat) : Int) = ((i + j : Nat) : Int) := IntWalk.u64_in _ (by omega)
    have w3 : Int.fdiv ((i + j : Nat) : Int) 2 = (((i + j) / 2 : Nat) : Int) := by rw [Int.fdiv_eq_ediv_of_nonneg _ (by omega)]; omega
    have w4 : IntKind.i64.wrap (((i + j) / 2 : Nat) : Int) = (((i + j) / 2 : Nat) : Int) := wn _ (by omega)
    have b1 : i ≤ (i + j) / 2 := by omega
    have b2 : (i + j) / 2 < j := by omega
    generalize hh : (i + j) / 2 = h at *
    generalize hs : i + j = s at *
    have w5 : IntKind.i64.wrap ((h : Int) + 1) = ((h + 1 : Nat) : Int) := by rw [IntWalk.i64_in _ (by omega)]; omega
    simp [r1, r5, r6, c, w1, w2, w3, w4, IntKind.bits]
    refine hf h (by omega) A1 ex _ fun A2 e2 => ?_
    cases hg : g h with
    | false =>
      simp [r1, r5, r6, w5]
      exact ⟨j - (h + 1), by omega, h + 1, j, by omega, hjn, rfl, rfl, by simp [r1], by simp, by simp [r6], ex.trans e2, (fun k hk => by
        cases hgk : g k with
        | false => rfl
        | true => have := mono k h (by omega) (by omega) hgk; rw [hg] at this; cases this), hi⟩
    | true =>
      simp [r1, r5, r6]
      exact ⟨h - i, by omega, i, h, by omega, by omega, rfl, rfl, by simp [r1], by simp [r5], by simp, ex.trans e2, lo, fun k h1 h2 => mono h k h1 h2 hg⟩
  · simp [r1, r5, r6, c]
    have : j = i := by omega
    subst this
    exact hq A1 j ex hjn lo hi
end Go.Proofs.Ytidgbapgedegbaa
