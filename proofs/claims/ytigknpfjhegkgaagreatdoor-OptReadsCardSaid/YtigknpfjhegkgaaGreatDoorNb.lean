/- A text of this claim. -/
import Derived.Test.YtigknpfjhegkgaaGreatDoorPd
import Derived.KernelRfl
section
namespace Go.Proofs.YtigknpfjhegkgaaGreatDoor
open Go Go.AS
set_option maxRecDepth 100000
set_option linter.unusedSimpArgs false
set_option linter.unusedVariables false
attribute [local irreducible] Trie.set Trie.get Env.rd
attribute [local simp ↓] wV_b2s
attribute [local simp] Nat.add_assoc wD_cons'' wD_nil' wC_seq wC_ops wC_opsD_nil wC_cond wC_skip wC_ret wC_exit wC_block wO_cons' wO_nil wantedA wV_eq lop qop ev wL_some wL_none wPut envOf rd_set rd_leaf eqA thenC blockC wB_true wB_false endF unwindA resultsA resA tupleA rdCell rdCells wrCells cl fillP lay rep binA unA get_set' AHeap.get_alloc oneCell beqd bned idxA
structure Ds where
  fin : Bool
  hasAck : Bool
  longAck : Bool
  ack : Nat
  hasMap : Bool
  longDsn : Bool
  dsn : Nat
  ssn : Nat
  len : Int
  hasSum : Bool
  sum : Nat
  deriving DecidableEq
def Ds.cells (x : Ds) : List Value := [.bool x.fin, .bool x.hasAck, .bool x.longAck, .int .u64 (x.ack : Nat), .bool x.hasMap, .bool x.longDsn, .int .u64 (x.dsn : Nat), .int .u32 (x.ssn : Nat), .int .i64 x.len, .bool x.hasSum, .int .u16 (x.sum : Nat)]
theorem Ds.cells_eq (x : Ds) : x.cells = [.bool x.fin, .bool x.hasAck, .bool x.longAck, .int .u64 (x.ack : Nat), .bool x.hasMap, .bool x.longDsn, .int .u64 (x.dsn : Nat), .int .u32 (x.ssn : Nat), .int .i64 x.len, .bool x.hasSum, .int .u16 (x.sum : Nat)] := rfl
structure Ds.W (x : Ds) : Prop where
  ack : x.ack < 256 ^ 8
  dsn : x.dsn < 256 ^ 8
  ssn : x.ssn < 256 ^ 4
  sum : x.sum < 256 ^ 2
def Ds.b1 (x : Ds) : Bool := (!x.hasAck && !x.hasMap) || (!x.hasAck && (x.longAck || decide (x.ack ≠ 0))) || (!x.hasSum && decide (x.sum ≠ 0))
def Ds.b2 (x : Ds) : Bool := !x.hasMap && (x.fin || x.longDsn || decide (x.dsn ≠ 0) || decide (x.ssn ≠ 0) || decide (x.len ≠ 0) || x.hasSum)
def Ds.b3 (x : Ds) : Bool := (!x.longAck && decide (4294967296 ≤ x.ack)) || (!x.longDsn && decide (4294967296 ≤ x.dsn))
def Ds.may (x : Ds) : Bool := !x.b1 && !x.b2 && !x.b3 && decide (0 ≤ x.len ∧ x.len < 65536)
def Ds.bits (x : Ds) : Nat := (if x.hasAck then 1 else 0) + (if x.longAck then 2 else 0) + (if x.hasMap then 4 else 0) + (if x.longDsn then 8 else 0) + (if x.fin then 16 else 0)
def wide (l : Bool) : Nat := if l then 8 else 4
def Ds.body (x : Ds) : List UInt8 := [32] ++ be x.bits 1 ++ (if x.hasAck then be x.ack (wide x.longAck) else []) ++ (if x.hasMap then be x.dsn (wide x.longDsn) ++ be x.ssn 4 ++ be x.len.toNat 2 else []) ++ (if x.hasSum then be x.sum 2 else [])
def Ds.enc (x : Ds) : Option (List UInt8) := if x.may then some x.body else none
def dfin (x : Ds) (s : List UInt8) : List UInt8 := s ++ (if x.hasSum then be x.sum 2 else [])
def dmap (x : Ds) (s : List UInt8) : List UInt8 := s ++ (if x.hasMap then be x.dsn (wide x.longDsn) ++ be x.ssn 4 ++ be x.len.toNat 2 else [])
theorem wide_le (l : Bool) : wide l ≤ 8 := by cases l <;> decide
end Go.Proofs.YtigknpfjhegkgaaGreatDoor
end
section
namespace Go.Proofs.YtigknpfjhegkgaaGreatDoor
open Go Go.AS
set_option maxRecDepth 100000
set_option linter.unusedSimpArgs false
set_option linter.unusedVariables false
attribute [local irreducible] Trie.set Trie.get Env.rd
attribute [local simp ↓] wV_b2s
attribute [local simp] Nat.add_assoc wD_cons'' wD_nil' wC_seq wC_ops wC_opsD_nil wC_cond wC_skip wC_ret wC_exit wC_block wO_cons' wO_nil wantedA wV_eq lop qop ev wL_some wL_none wPut envOf rd_set rd_leaf eqA thenC blockC wB_true wB_false endF unwindA resultsA resA tupleA rdCell rdCells wrCells cl fillP lay rep binA unA get_set' AHeap.get_alloc oneCell beqd bned idxA
structure Ad where
  echo : Bool
  id : Int
  ip : List UInt8
  hasPort : Bool
  port : Int
  mac : List UInt8
  deriving DecidableEq
def Ad.cells (x : Ad) : List Value := [.bool x.echo, .int .i64 x.id, .string ⟨⟨x.ip⟩⟩, .bool x.hasPort, .int .i64 x.port, .string ⟨⟨x.mac⟩⟩]
theorem Ad.cells_eq (x : Ad) : x.cells = [.bool x.echo, .int .i64 x.id, .string ⟨⟨x.ip⟩⟩, .bool x.hasPort, .int .i64 x.port, .string ⟨⟨x.mac⟩⟩] := rfl
structure Ad.W (x : Ad) : Prop where
  ip : x.ip.length < 100000
  mac : x.mac.length < 100000
def Ad.may (x : Ad) : Bool := decide (0 ≤ x.id ∧ x.id ≤ 255) && decide (x.ip.length = 4 ∨ x.ip.length = 16) && decide (0 ≤ x.port ∧ x.port ≤ 65535) && (x.hasPort || decide (x.port = 0)) && decide (x.mac.length = if x.echo then 0 else 8)
def Ad.body (x : Ad) : List UInt8 := be (if x.echo then 49 else 48) 1 ++ be x.id.toNat 1 ++ x.ip ++ (if x.hasPort then be x.port.toNat 2 else []) ++ x.mac
def Ad.enc (x : Ad) : Option (List UInt8) := if x.may then some x.body else none
def sh (a b : Int) : Value := .agg ⟨[.int .i64 a, .int .i64 b]⟩
def shF (k : Int) : Option Value := if k = 4 then some (sh 4 0) else if k = 6 then some (sh 4 2) else if k = 16 then some (sh 16 0) else if k = 18 then some (sh 16 2) else none
theorem shapes_ok (A : AHeap) (Q : Value → AHeap → Prop) (hq : ∀ A' m, Ext NoB A A' → MapIs A' m shF → Q (.map (some m)) A') : wF T (.func (.func 147) #[] #[]) [] A Q := by
  refine wF_func (first := []) (captured := []) t147 ⟨rfl, by decide⟩ ?_
  dsimp only [c147]
  simp [findE]
  generalize hA1 : AHeap.set (AHeap.set (AHeap.set (AHeap.set (AHeap.alloc A _) _ _) _ _) _ _) _ _ = A1
  have e1 : Ext NoB A A1 := by rw [← hA1]; exact ⟨by simp, fun b hb _ => by simp [show ¬ b = A.size by omega]⟩
  refine hq A1 A.size e1 ⟨_, _, by rw [← hA1]; simp; exact ⟨rfl, rfl⟩, by decide, fun k => ?_⟩
  unfold lookE shF sh
  by_cases h4 : k = 4
  · simp [findE, h4]
  · by_cases h6 : k = 6
    · simp [findE, h6]
    · by_cases h16 : k = 16
      · simp [findE, h16]
      · by_cases h18 : k = 18
        · simp [findE, h18]
        · simp [findE, h4, h6, h16, h18]
end Go.Proofs.YtigknpfjhegkgaaGreatDoor
end
section
namespace Go.Proofs.YtigknpfjhegkgaaGreatDoor
open Go Go.AS
set_option maxRecDepth 100000
set_option linter.unusedSimpArgs false
set_option linter.unusedVariables false
attribute [local irreducible] Trie.set Trie.get Env.rd
attribute [local simp ↓] wV_b2s
attribute [local simp] Nat.add_assoc wD_cons'' wD_nil' wC_seq wC_ops wC_opsD_nil wC_cond wC_skip wC_ret wC_exit wC_block wO_cons' wO_nil wantedA wV_eq lop qop ev wL_some wL_none wPut envOf rd_set rd_leaf eqA thenC blockC wB_true wB_false endF unwindA resultsA resA tupleA rdCell rdCells wrCells cl fillP lay rep binA unA get_set' AHeap.get_alloc oneCell beqd bned idxA
def remE (l : List UInt8) : Option (List UInt8) := if 1 ≤ l.length ∧ l.length ≤ 37 then some (64 :: l) else none
def prioE (b : Bool) : List UInt8 := be (if b then 81 else 80) 1
def bigE (s n : Nat) : List UInt8 := be (s * 4096) 2 ++ be n 8
def rstE (f r : Int) : Option (List UInt8) := if 0 ≤ f ∧ f < 16 ∧ 0 ≤ r ∧ r < 256 then some (be (32768 + f.toNat * 256 + r.toNat) 2) else none
end Go.Proofs.YtigknpfjhegkgaaGreatDoor
end
