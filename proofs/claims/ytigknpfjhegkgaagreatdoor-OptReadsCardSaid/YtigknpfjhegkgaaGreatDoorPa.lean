/- A text of this claim. -/
import Derived.Test.YtigknpfjhegkgaaGreatDoorKa
import Derived.Test.YtigknpfjhegkgaaGreatDoorM3
import Derived.KernelRfl
namespace Go.Proofs.YtigknpfjhegkgaaGreatDoor
open Go Go.AS
set_option maxRecDepth 100000
set_option linter.unusedSimpArgs false
set_option linter.unusedVariables false
theorem beqd (a b : Int) : (a == b) = decide (a = b) := by
  rw [Bool.eq_iff_iff]; simp
theorem bned (a b : Int) : (a != b) = !decide (a = b) := by
  rw [bne, beqd]
attribute [local irreducible] Trie.set Trie.get Env.rd
attribute [local simp ↓] wV_b2s
attribute [local simp] Nat.add_assoc wD_cons'' wD_nil' wC_seq wC_ops wC_opsD_nil wC_cond wC_skip wC_ret wC_exit wC_block wO_cons' wO_nil wantedA wV_eq lop qop ev wL_some wL_none wPut envOf rd_set rd_leaf eqA thenC blockC wB_true wB_false endF unwindA resultsA resA tupleA rdCell rdCells wrCells cl fillP lay rep binA unA get_set' AHeap.get_alloc oneCell beqd bned idxA
theorem wn (n : Nat) (h : n < 9000000000000000000) : IntKind.i64.wrap (n : Int) = n := IntWalk.i64_in _ (by omega)
theorem set_facts {A A2 : AHeap} {p : Nat} {x : ABlk} (lt : p < A.size) (h : A.set p x = A2) : A2.get p = some x ∧ Ext (fun j => j = p) A A2 ∧ A2.size = A.size := by
  subst h; exact ⟨by simp [lt], Ext.set rfl, rfl⟩
theorem alloc_facts {A A2 : AHeap} {x : ABlk} (h : A.alloc x = A2) : A2.get A.size = some x ∧ Ext NoB A A2 ∧ A2.size = A.size + 1 := by
  subst h; exact ⟨by simp, Ext.alloc, rfl⟩
def be (n : Nat) : Nat → List UInt8
  | 0 => []
  | w + 1 => UInt8.ofNat (n / 256 ^ w % 256) :: be n w
theorem be_len (n : Nat) : ∀ w, (be n w).length = w
  | 0 => rfl
  | w + 1 => by simp [be, be_len n w]
theorem ofNat_toNat {n : Nat} (h : n < 256) : (UInt8.ofNat n).toNat = n := by rw [UInt8.toNat_ofNat']; exact Nat.mod_eq_of_lt h
def byteI (n k : Nat) : Int := ((n / 256 ^ k % 256 : Nat) : Int)
def cellsAt (n : Nat) (k : Nat) : List Value := (List.range 8).map fun j => if 7 - j < k then .int .u8 (byteI n (7 - j)) else .int .u8 0
def PtI (nn ri q w : Nat) (n : Nat) (s : List UInt8) (A0 : AHeap) (m : Nat) (st : St) : Prop := ∃ k : Nat, k ≤ 8 ∧ m = 8 - k ∧ st.n = nn ∧ st.dfs = [] ∧
  (st.env.rd 0 = .string ⟨⟨s⟩⟩ ∧ st.env.rd 2 = .int .i64 w ∧ st.env.rd 7 = .pointer (some ⟨q, 0, none⟩) ∧ st.env.rd 8 = .int .u64 ((n / 256 ^ k : Nat) : Int) ∧ st.env.rd ri = .int .i64 k) ∧ st.A.get q = some (.cells (cellsAt n k) false 0) ∧ Ext NoB A0 st.A ∧ A0.size ≤ q
end Go.Proofs.YtigknpfjhegkgaaGreatDoor
