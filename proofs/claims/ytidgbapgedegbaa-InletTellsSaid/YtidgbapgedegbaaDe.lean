/- The sums' functions. -/
import Derived.Test.YtidgbapgedegbaaDc
import Derived.KernelRfl
namespace Go.Proofs.Ytidgbapgedegbaa
open Go Go.AS
set_option maxRecDepth 100000
set_option linter.unusedSimpArgs false
set_option linter.unusedVariables false
attribute [local irreducible] Trie.set Trie.get Env.rd
attribute [local simp ↓] wV_b2s
attribute [local simp] Nat.add_assoc wD_cons'' wD_nil' wC_seq wC_ops wC_opsD_nil wC_cond wC_skip wC_ret wC_exit wC_block wO_cons' wO_nil wantedA wV_eq lop qop ev wL_some wL_none wPut envOf rd_set rd_leaf eqA thenC blockC wB_true wB_false endF unwindA resultsA resA tupleA rdCell rdCells wrCells cl fillP lay rep binA unA get_set' AHeap.get_alloc oneCell beqd bned idxA

theorem Put64_ok (A : AHeap) (n : Nat) (hn : n < 256 ^ 8) (Q : Value → AHeap → Prop) (hq : ∀ A', Ext NoB A A' → Q (.string ⟨⟨be n 8⟩⟩) A') : wF T (.func (.func 129) #[] #[]) [.string ⟨⟨[]⟩⟩, .int .u64 (n : Nat)] A Q := by
  refine wF_func (first := []) (captured := []) t129 ⟨rfl, by decide⟩ ?_
  dsimp only [c129]
  simp
  refine put157_ok A [] n hn _ (by decide) fun A1 e1 => ?_
  simp
  exact hq A1 e1
theorem Put32_ok (A : AHeap) (n : Nat) (hn : n < 256 ^ 4) (Q : Value → AHeap → Prop) (hq : ∀ A', Ext NoB A A' → Q (.string ⟨⟨be n 4⟩⟩) A') : wF T (.func (.func 130) #[] #[]) [.string ⟨⟨[]⟩⟩, .int .u32 (n : Nat)] A Q := by
  refine wF_func (first := []) (captured := []) t130 ⟨rfl, by decide⟩ ?_
  dsimp only [c130]
  simp
  refine put158_ok A [] n hn _ (by decide) fun A1 e1 => ?_
  simp
  exact hq A1 e1
theorem Put16_ok (A : AHeap) (n : Nat) (hn : n < 256 ^ 2) (Q : Value → AHeap → Prop) (hq : ∀ A', Ext NoB A A' → Q (.string ⟨⟨be n 2⟩⟩) A') : wF T (.func (.func 131) #[] #[]) [.string ⟨⟨[]⟩⟩, .int .u16 (n : Nat)] A Q := by
  refine wF_func (first := []) (captured := []) t131 ⟨rfl, by decide⟩ ?_
  dsimp only [c131]
  simp
  refine put159_ok A [] n hn _ (by decide) fun A1 e1 => ?_
  simp
  exact hq A1 e1

/-! ## Fold -/
theorem and16 (n : Nat) : ((BitVec.ofInt 64 (n : Int) &&& BitVec.ofInt 64 65535).toNat) = n % 65536 := by
  have h1 : (BitVec.ofInt 64 (n : Int)).toNat = n % 2 ^ 64 := by simp [BitVec.toNat_ofInt]
  have h2 : (BitVec.ofInt 64 65535).toNat = 2 ^ 16 - 1 := by decide
  rw [BitVec.toNat_and, h1, h2, Nat.and_two_pow_sub_one_eq_mod]
  omega
theorem and16V (n : Nat) : binA .and (.int .u64 (n : Int)) (.int .u64 65535) = some (.int .u64 ((n % 65536 : Nat) : Int)) := by
  show some (Value.int .u64 (IntKind.u64.wrap (((BitVec.ofInt 64 (n : Int) &&& BitVec.ofInt 64 65535).toNat : Nat) : Int))) = _
  rw [and16, IntWalk.u64_in _ (by omega)]
def FoI (A : AHeap) (N : Nat) (m : Nat) (st : St) : Prop := ∃ n : Nat, m = n ∧ n < 18446744073709551616 ∧ foldN n = N ∧ st.n = 12 ∧ st.dfs = [] ∧ st.A = A ∧ st.env.rd 0 = .int .u64 (n : Nat)
theorem fold_ok (A : AHeap) (n : Nat) (hn : n < 18446744073709551616) (Q : Value → AHeap → Prop) (hq : Q (.int .u16 ((foldN n : Nat) : Int)) A) : wF T (.func (.func 128) #[] #[]) [.int .u64 (n : Nat)] A Q := by
  refine wF_func (first := []) (captured := []) t128 ⟨rfl, by decide⟩ ?_
  dsimp only [c128]
  simp
  refine wC_loop_inv (FoI A (foldN n)) ?_ n _ ⟨n, rfl, hn, rfl, rfl, rfl, rfl, by simp⟩
  clear hn
  rintro m ⟨env, nn, dfs, B⟩ ⟨k, rfl, hk, hf, s1, s2, s3, r0⟩
  simp only at s1 s2 s3 r0
  subst s1; subst s2; subst s3
  by_cases c : 65535 < m
  · have h1 : (m : Int).fdiv (2 ^ 16) = ((m / 65536 : Nat) : Int) := by rw [Int.fdiv_eq_ediv_of_nonneg _ (by decide)]; omega
    simp only [Int.reducePow] at h1
    have h2 : (BitVec.ofNat 64 m &&& 65535#64).toNat = m % 65536 := by
      have := and16 m
      rwa [BitVec.ofInt_natCast] at this
    have h3 : IntKind.u64.wrap (((m % 65536 : Nat) : Int)) = ((m % 65536 : Nat) : Int) := IntWalk.u64_in _ (by omega)
    have h4 : IntKind.u64.wrap (((m / 65536 : Nat) : Int) + ((m % 65536 : Nat) : Int)) = ((m / 65536 + m % 65536 : Nat) : Int) := by rw [IntWalk.u64_in _ (by omega)]; omega
    have st := foldN_step c
    generalize hx : ((m / 65536 : Nat) : Int) = x at h1 h4
    generalize hy : ((m % 65536 : Nat) : Int) = y at h3 h4
    have f1 : binA .gtr (.int .u64 (m : Int)) (.int .u64 65535) = some (.bool true) := by simp; omega
    have f2 : binA .shr (.int .u64 (m : Int)) (.int .u64 16) = some (.int .u64 x) := by simp [IntKind.bits, h1]
    have f3 : binA .and (.int .u64 (m : Int)) (.int .u64 65535) = some (.int .u64 y) := by rw [and16V, hy]
    have f4 : binA .add (.int .u64 x) (.int .u64 y) = some (.int .u64 ((m / 65536 + m % 65536 : Nat) : Int)) := by simp only [binA]; rw [if_neg (by decide), h4]
    simp [-binA, r0, f1, f2, f3, f4]
    exact ⟨m / 65536 + m % 65536, st.2, _, rfl, by omega, by rw [st.1]; exact hf, rfl, rfl, rfl, by simp⟩
  · have h5 : IntKind.u16.wrap (m : Int) = ((foldN n : Nat) : Int) := by
      rw [← hf, foldN_small (by omega)]
      exact IntWalk.u16_in _ (by omega)
    simp [r0, show ¬ (65535 : Int) < (m : Int) by omega, h5]
    exact hq

theorem not_ok (A : AHeap) (n : Nat) (hn : n ≤ 65535) (Q : Value → AHeap → Prop) (hq : Q (.int .u16 ((65535 - n : Nat) : Int)) A) : wF T (.func (.func 91) #[] #[]) [.int .u16 (n : Nat)] A Q := by
  refine wF_func (first := []) (captured := []) t91 ⟨rfl, by decide⟩ ?_
  dsimp only [c91]
  have hx : unA .xor (.int .u16 (n : Int)) = some (.int .u16 ((65535 - n : Nat) : Int)) := by
    show some (Value.int .u16 (IntKind.u16.wrap (((BitVec.allOnes 16 ^^^ BitVec.ofInt 16 (n : Int)).toNat : Nat) : Int))) = _
    rw [BitVec.allOnes_xor, BitVec.toNat_not]
    have h1 : (BitVec.ofInt 16 (n : Int)).toNat = n := by rw [BitVec.ofInt_natCast, BitVec.toNat_ofNat]; omega
    rw [h1, show (2 ^ 16 - 1 - n : Nat) = 65535 - n from rfl, IntWalk.u16_in _ (by omega)]
  simp [-unA, hx]
  exact hq
end Go.Proofs.Ytidgbapgedegbaa
