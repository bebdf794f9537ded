/- A text of this claim. -/
import Derived.Test.YtigknpfjhegkgaaGreatDoorPc
import Derived.KernelRfl
namespace Go.Proofs.YtigknpfjhegkgaaGreatDoor
open Go Go.AS
set_option maxRecDepth 100000
set_option linter.unusedSimpArgs false
set_option linter.unusedVariables false
attribute [local irreducible] Trie.set Trie.get Env.rd
attribute [local simp ↓] wV_b2s
attribute [local simp] Nat.add_assoc wD_cons'' wD_nil' wC_seq wC_ops wC_opsD_nil wC_cond wC_skip wC_ret wC_exit wC_block wO_cons' wO_nil wantedA wV_eq lop qop ev wL_some wL_none wPut envOf rd_set rd_leaf eqA thenC blockC wB_true wB_false endF unwindA resultsA resA tupleA rdCell rdCells wrCells cl fillP lay rep binA unA get_set' AHeap.get_alloc oneCell beqd bned idxA
structure Jn where
  form : Int
  backup : Bool
  id : Int
  token : Nat
  nonce : Nat
  mac : List UInt8
  deriving DecidableEq
def Jn.cells (x : Jn) : List Value := [.int .i64 x.form, .bool x.backup, .int .i64 x.id, .int .u32 (x.token : Nat), .int .u32 (x.nonce : Nat), .string ⟨⟨x.mac⟩⟩]
structure Jn.W (x : Jn) : Prop where
  token : x.token < 256 ^ 4
  nonce : x.nonce < 256 ^ 4
  mac : x.mac.length < 1000
def Jn.bytes (f : Int) : Int := if f = 0 then 10 else if f = 1 then 14 else if f = 2 then 22 else 0
def Jn.may (x : Jn) : Bool := decide (0 ≤ x.id ∧ x.id ≤ 255 ∧ ((x.form = 0 ∧ x.mac = []) ∨ (x.form = 1 ∧ x.mac.length = 8 ∧ x.token = 0) ∨ (x.form = 2 ∧ x.mac.length = 20 ∧ x.backup = false ∧ x.id = 0 ∧ x.token = 0 ∧ x.nonce = 0)))
def Jn.first (x : Jn) : Nat := if x.backup then 17 else 16
def Jn.head (x : Jn) : List UInt8 := be x.first 1 ++ be x.id.toNat 1
def Jn.body (x : Jn) : List UInt8 := if x.form = 0 then x.head ++ be x.token 4 ++ be x.nonce 4 else if x.form = 1 then x.head ++ x.mac ++ be x.nonce 4 else x.head ++ x.mac
def Jn.enc (x : Jn) : Option (List UInt8) := if x.may then some x.body else none
def Jn.rest (x : Jn) : Jn := if x.form = 0 then { x with backup := false, id := 0, token := 0, nonce := 0 } else if x.form = 1 then { x with backup := false, id := 0, mac := [], nonce := 0 } else { x with mac := [] }
theorem Jn.cells_eq (x : Jn) : x.cells = [.int .i64 x.form, .bool x.backup, .int .i64 x.id, .int .u32 (x.token : Nat), .int .u32 (x.nonce : Nat), .string ⟨⟨x.mac⟩⟩] := rfl
theorem bytes_ok (A : AHeap) (f : Int) (Q : Value → AHeap → Prop) (hq : Q (.int .i64 (Jn.bytes f)) A) : wF T (.func (.func 130) #[] #[]) [.int .i64 f] A Q := by
  refine wF_func (first := []) (captured := []) t130 ⟨rfl, by decide⟩ ?_
  dsimp only [c130]
  by_cases f0 : f = 0
  · simp [f0]; simpa [Jn.bytes, f0] using hq
  · by_cases f1 : f = 1
    · simp [f1]; simpa [Jn.bytes, f1] using hq
    · by_cases f2 : f = 2
      · simp [f2]; simpa [Jn.bytes, f2] using hq
      · simp [f0, f1, f2]; simpa [Jn.bytes, f0, f1, f2] using hq
theorem eqJ (a b : Jn) : eqL [(0, .i), (1, .b), (2, .i), (3, .i), (4, .i), (5, .s)] a.cells b.cells = some (decide (a = b)) := by
  simp only [eqL, Jn.cells, leafEq, List.getElem?_cons_zero, List.getElem?_cons_succ, if_true]
  congr 1
  rw [Bool.eq_iff_iff]
  obtain ⟨a1, a2, a3, a4, a5, a6⟩ := a
  obtain ⟨b1, b2, b3, b4, b5, b6⟩ := b
  simp [and_assoc, Int.natCast_inj]
end Go.Proofs.YtigknpfjhegkgaaGreatDoor
