/- errors.errorType, errors.As and the examples, as contracts. -/
import Derived.Test.YtigknpfjhegkgaaGreatDoorKa
import Derived.KernelRfl
namespace Go.Proofs.YtigknpfjhegkgaaGreatDoor
open Go Go.AS
set_option maxRecDepth 100000
set_option linter.unusedSimpArgs false
set_option linter.unusedVariables false
attribute [local irreducible] Trie.set Trie.get Env.rd
attribute [local simp ↓] wV_b2s
attribute [local simp] Nat.add_assoc wD_cons'' wD_nil' wC_seq wC_ops wC_opsD_nil wC_cond wC_skip wC_ret wC_exit wC_block wO_cons' wO_nil wantedA wV_eq lop qop ev wL_some wL_none wPut envOf rd_set rd_leaf eqA thenC blockC wB_true wB_false endF unwindA resultsA resA tupleA rdCell rdCells wrCells cl fillP lay rep binA unA get_set' AHeap.get_alloc oneCell idxA

def EH (A : AHeap) : Prop := errT 174 93 (A.get 0) = true
theorem EH.ext {S : Nat → Prop} {A A' : AHeap} (h : EH A) (e : Ext S A A') (hs : ¬ S 0) : EH A' := by
  unfold EH at h ⊢
  cases hb : A.get 0 with
  | none => rw [hb] at h; cases h
  | some b => rw [e.get hb hs, ← hb]; exact h
theorem EH.extN {A A' : AHeap} (h : EH A) (e : Ext NoB A A') : EH A' := h.ext e id
theorem as_ok (A : AHeap) (e : Int) (b : Nat) (g : A.get b = some (.cells [.int .i64 0] false 0)) (hE : EH A) (Q : Value → AHeap → Prop) (hq : Q (.bool true) (A.set b (.cells [.int .i64 e] false 0))) : wF T (.func (.func 35) #[] #[]) [.iface 31 (.int .i64 e), .iface 97 (.pointer (some ⟨b, 0, none⟩))] A Q := by
  refine wF_func (first := []) (captured := []) t35 ⟨rfl, by decide⟩ ?_
  dsimp only [specFn]
  unfold EH at hE
  simp [specA, hE, g]
  exact hq
theorem asn_ok (A : AHeap) (v : Value) (Q : Value → AHeap → Prop) (hq : Q (.bool false) A) : wF T (.func (.func 35) #[] #[]) [.nilIface, v] A Q := by
  refine wF_func (first := []) (captured := []) t35 ⟨rfl, by decide⟩ ?_
  dsimp only [specFn]
  simp [specA]
  exact hq
theorem works_ok (A : AHeap) (Q : Value → AHeap → Prop) (hE : EH A) (hq : Q (.bool true) A) : wF T (.func (.func 14) #[] #[]) [] A Q := by
  refine wF_func (first := []) (captured := []) t14 ⟨rfl, by decide⟩ ?_
  dsimp only [specFn]
  unfold EH at hE
  simp [specA, hE]
  exact hq
end Go.Proofs.YtigknpfjhegkgaaGreatDoor
