/- A text of this claim. -/
import Derived.Test.YtigknpfjhegkgaaGreatDoorPb
import Derived.KernelRfl
namespace Go.Proofs.YtigknpfjhegkgaaGreatDoor
open Go Go.AS
set_option maxRecDepth 100000
set_option linter.unusedSimpArgs false
set_option linter.unusedVariables false
attribute [local irreducible] Trie.set Trie.get Env.rd
attribute [local simp ↓] wV_b2s
attribute [local simp] Nat.add_assoc wD_cons'' wD_nil' wC_seq wC_ops wC_opsD_nil wC_cond wC_skip wC_ret wC_exit wC_block wO_cons' wO_nil wantedA wV_eq lop qop ev wL_some wL_none wPut envOf rd_set rd_leaf eqA thenC blockC wB_true wB_false endF unwindA resultsA resA tupleA rdCell rdCells wrCells cl fillP lay rep binA unA get_set' AHeap.get_alloc oneCell beqd bned idxA
structure Cap where
  form : Int
  ver : Int
  sums : Bool
  alone : Bool
  own : Nat
  peer : Nat
  len : Int
  sum : Nat
  deriving DecidableEq
def Cap.cells (x : Cap) : List Value := [.int .i64 x.form, .int .i64 x.ver, .bool x.sums, .bool x.alone, .int .u64 (x.own : Nat), .int .u64 (x.peer : Nat), .int .i64 x.len, .int .u16 (x.sum : Nat)]
structure Cap.W (x : Cap) : Prop where
  own : x.own < 256 ^ 8
  peer : x.peer < 256 ^ 8
  sum : x.sum < 256 ^ 2
def Cap.lacks (x : Cap) : Bool := decide ((x.form = 0 → x.own = 0) ∧ (x.form = 0 ∨ x.form = 1 → x.peer = 0) ∧ (x.form = 0 ∨ x.form = 1 ∨ x.form = 2 → x.len = 0) ∧ (x.form = 0 ∨ x.form = 1 ∨ x.form = 2 ∨ x.form = 3 → x.sum = 0))
def Cap.may (x : Cap) : Bool := decide (0 ≤ x.form ∧ x.form < 5 ∧ 0 ≤ x.ver ∧ x.ver < 16 ∧ 0 ≤ x.len ∧ x.len < 65536) && x.lacks
def Cap.flags (x : Cap) : Nat := 1 + (if x.sums then 128 else 0) + (if x.alone then 32 else 0)
def Cap.body (x : Cap) : List UInt8 := be x.ver.toNat 1 ++ be x.flags 1 ++ (if 1 ≤ x.form then be x.own 8 else []) ++ (if 2 ≤ x.form then be x.peer 8 else []) ++ (if 3 ≤ x.form then be x.len.toNat 2 else []) ++ (if x.form = 4 then be x.sum 2 else [])
def Cap.enc (x : Cap) : Option (List UInt8) := if x.may then some x.body else none
def resE : Option (List UInt8) → Value
  | some l => .tuple ⟨[.string ⟨⟨l⟩⟩, .int .i64 0]⟩
  | none => .tuple ⟨[.string ⟨⟨[]⟩⟩, .int .i64 2]⟩
end Go.Proofs.YtigknpfjhegkgaaGreatDoor
