/-
  No cell of these rows narrows 'for every input' (looked for: loops, veiled, ifaces, maps, wideKeys, modest, calm, conditions, laid).
  DERIVED. THE GIVEN ROWS OF THIS SEAT. 5 by the template 'for every input the law returns true; each argument reads behind the call as it read before'; 0 by the template 'total and deterministic' (their statements: YtcdflljjgoffkaaTotals.lean).
  GIVEN WITH THE SEED: the statements are not yours to turn. If you find one false, say at which input.
  Laid BY PROGRAM, IN A SANDBOX (cutbox-rows.mjs): the forced cells as the released guide's own fill.sh prints them over the translation 8084c4aad684bb0a… (all of the seat's roots in one cut). By AI agents, Wed Nov 11 2026. No macro, syntax, notation, axiom, sorry.
-/
import Derived.Test.YtcdflljjgoffkaaChecked
import GoSem.Claim
import GoSem.ClaimJoined
import GoSem.ClaimMapViews
import Derived.JoinedTies
import Derived.KernelRfl
namespace Go.Proofs.Ytcdflljjgoffkaa
/- THE CELL 'sum', in the pinned program and in every row, IS THE sha256 OF THE DUMP (.gsa) THAT YtcdflljjgoffkaaProg.lean LOADS. Nothing in Lean hashes anything: it is a label: what it is worth is what the hold of that sum in a sandbox is worth. -/
noncomputable def Try.pinned : Pinned := { name := "ytcdflljjgoffkaa", sum := "8084c4aad684bb0a0280a0fb3c4787a21bbc6906e09f5f1a710950baa9f4de21", checked := Try.checked }
namespace Rows
def none {H : Type} : Left H := { results := [], args := [] }

/-- 'plaitlaw16.SbufAcks': WHATEVER THE INPUT: true; the input reads as it did. -/
def sbufAcksSpec : ChangeSpec := { name := "sbufAcks", fn := fun _ => fun
  | [d1, d2, d3] => { results := [.lit (.bool true)], args := [d1, d2, d3] }
  | _ => none }
def sbufAcksRow : OpenClaim := { program := "ytcdflljjgoffkaa", sum := "8084c4aad684bb0a0280a0fb3c4787a21bbc6906e09f5f1a710950baa9f4de21", func := "plait/plaitlaw16.SbufAcks", spec := "sbufAcks", unfollowed := true, recurses := true, apart := false }
def SbufAcksSaid : Prop := sbufAcksRow.holds Try.pinned (OpenSpec.ofChange sbufAcksSpec)

/-- ITS FALSE NEIGHBOUR: 'it returns false'. Refute it at one input. -/
def sbufAcksWrong : ChangeSpec := { name := "sbufAcks", fn := fun _ => fun
  | [d1, d2, d3] => { results := [.lit (.bool false)], args := [d1, d2, d3] }
  | _ => none }
def SbufAcksWrongFalsely : Prop := sbufAcksRow.holds Try.pinned (OpenSpec.ofChange sbufAcksWrong)

/-- 'plaitlaw16.SbufKeeps': WHATEVER THE INPUT: true; the input reads as it did. -/
def sbufKeepsSpec : ChangeSpec := { name := "sbufKeeps", fn := fun _ => fun
  | [d1, d2, d3, d4] => { results := [.lit (.bool true)], args := [d1, d2, d3, d4] }
  | _ => none }
def sbufKeepsRow : OpenClaim := { program := "ytcdflljjgoffkaa", sum := "8084c4aad684bb0a0280a0fb3c4787a21bbc6906e09f5f1a710950baa9f4de21", func := "plait/plaitlaw16.SbufKeeps", spec := "sbufKeeps", unfollowed := true, recurses := true, apart := false }
def SbufKeepsSaid : Prop := sbufKeepsRow.holds Try.pinned (OpenSpec.ofChange sbufKeepsSpec)

/-- ITS FALSE NEIGHBOUR: 'it returns false'. Refute it at one input. -/
def sbufKeepsWrong : ChangeSpec := { name := "sbufKeeps", fn := fun _ => fun
  | [d1, d2, d3, d4] => { results := [.lit (.bool false)], args := [d1, d2, d3, d4] }
  | _ => none }
def SbufKeepsWrongFalsely : Prop := sbufKeepsRow.holds Try.pinned (OpenSpec.ofChange sbufKeepsWrong)

/-- 'plaitlaw16.SbufTells': WHATEVER THE INPUT: true; the input reads as it did. -/
def sbufTellsSpec : ChangeSpec := { name := "sbufTells", fn := fun _ => fun
  | [d1, d2] => { results := [.lit (.bool true)], args := [d1, d2] }
  | _ => none }
def sbufTellsRow : OpenClaim := { program := "ytcdflljjgoffkaa", sum := "8084c4aad684bb0a0280a0fb3c4787a21bbc6906e09f5f1a710950baa9f4de21", func := "plait/plaitlaw16.SbufTells", spec := "sbufTells", unfollowed := true, recurses := true, apart := false }
def SbufTellsSaid : Prop := sbufTellsRow.holds Try.pinned (OpenSpec.ofChange sbufTellsSpec)

/-- ITS FALSE NEIGHBOUR: 'it returns false'. Refute it at one input. -/
def sbufTellsWrong : ChangeSpec := { name := "sbufTells", fn := fun _ => fun
  | [d1, d2] => { results := [.lit (.bool false)], args := [d1, d2] }
  | _ => none }
def SbufTellsWrongFalsely : Prop := sbufTellsRow.holds Try.pinned (OpenSpec.ofChange sbufTellsWrong)

/-- 'plaitlaw16.SbufGives': WHATEVER THE INPUT: true; the input reads as it did. -/
def sbufGivesSpec : ChangeSpec := { name := "sbufGives", fn := fun _ => fun
  | [d1, d2] => { results := [.lit (.bool true)], args := [d1, d2] }
  | _ => none }
def sbufGivesRow : OpenClaim := { program := "ytcdflljjgoffkaa", sum := "8084c4aad684bb0a0280a0fb3c4787a21bbc6906e09f5f1a710950baa9f4de21", func := "plait/plaitlaw16.SbufGives", spec := "sbufGives", unfollowed := true, recurses := true, apart := false }
def SbufGivesSaid : Prop := sbufGivesRow.holds Try.pinned (OpenSpec.ofChange sbufGivesSpec)

/-- ITS FALSE NEIGHBOUR: 'it returns false'. Refute it at one input. -/
def sbufGivesWrong : ChangeSpec := { name := "sbufGives", fn := fun _ => fun
  | [d1, d2] => { results := [.lit (.bool false)], args := [d1, d2] }
  | _ => none }
def SbufGivesWrongFalsely : Prop := sbufGivesRow.holds Try.pinned (OpenSpec.ofChange sbufGivesWrong)

/-- 'plaitlaw16.SbufKnown': WHATEVER THE INPUT: true; the input reads as it did. -/
def sbufKnownSpec : ChangeSpec := { name := "sbufKnown", fn := fun _ => fun
  | [] => { results := [.lit (.bool true)], args := [] }
  | _ => none }
def sbufKnownRow : OpenClaim := { program := "ytcdflljjgoffkaa", sum := "8084c4aad684bb0a0280a0fb3c4787a21bbc6906e09f5f1a710950baa9f4de21", func := "plait/plaitlaw16.SbufKnown", spec := "sbufKnown", unfollowed := true, recurses := true, apart := false }
def SbufKnownSaid : Prop := sbufKnownRow.holds Try.pinned (OpenSpec.ofChange sbufKnownSpec)

/-- ITS FALSE NEIGHBOUR: 'it returns false'. Refute it at one input. -/
def sbufKnownWrong : ChangeSpec := { name := "sbufKnown", fn := fun _ => fun
  | [] => { results := [.lit (.bool false)], args := [] }
  | _ => none }
def SbufKnownWrongFalsely : Prop := sbufKnownRow.holds Try.pinned (OpenSpec.ofChange sbufKnownWrong)

/- THE SECOND FORM. 'bulk': how many values and letters a reading holds, each counted each time it is reached (what is shared counts as often as it is met; a slice's spare places count too). A statement '..UptoSaid' is the law's where the arguments, and the package variables that the reading takes, are together of bulk at most 1048576: NARROWER than '..Said'. Prove '..Said' where nothing that the law and all that it calls make is longer than what came in: it says more and counts as full. Else prove '..UptoSaid'. A law counts once. -/
mutual
def uptoBulk {H : Type} : DataW H → Nat
  | .lit (.string bytes) => bytes.length + 1
  | .lit _ => 1
  | .nil => 1
  | .ptr d => uptoBulk d + 1
  | .slice elems spare => uptoBulkAll elems + uptoBulkAll spare + 1
  | .agg parts => uptoBulkAll parts + 1
  | .iface _ d => uptoBulk d + 1
  | .map entries => uptoBulkEntries entries + 1
  | .held _ => 1
def uptoBulkAll {H : Type} : List (DataW H) → Nat
  | [] => 0
  | d :: r => uptoBulk d + uptoBulkAll r
def uptoBulkEntries {H : Type} : List (Lit × DataW H) → Nat
  | [] => 0
  | x :: r => uptoBulkEntry x + uptoBulkEntries r
def uptoBulkEntry {H : Type} : Lit × DataW H → Nat
  | (.string bytes, d) => bytes.length + uptoBulk d + 1
  | (_, d) => uptoBulk d + 1
 end
def uptoSmall : (H : Type) → List (DataW H) → Bool := fun _ ds => decide (uptoBulkAll ds ≤ 1048576)
def OpenSpec.upto (s : _root_.Go.ChangeSpec) : _root_.Go.OpenSpec := { _root_.Go.OpenSpec.ofChange s with cond := some uptoSmall }

/-- 'plaitlaw16.SbufAcks', WHERE WHAT IT READS IS OF BULK AT MOST 1048576: true; the input reads as it did. -/
def sbufAcksUptoRow : OpenClaim := { program := "ytcdflljjgoffkaa", sum := "8084c4aad684bb0a0280a0fb3c4787a21bbc6906e09f5f1a710950baa9f4de21", func := "plait/plaitlaw16.SbufAcks", spec := "sbufAcks", unfollowed := true, recurses := true, apart := false, narrowed := true }
def SbufAcksUptoSaid : Prop := sbufAcksUptoRow.holds Try.pinned (OpenSpec.upto sbufAcksSpec)

/-- 'plaitlaw16.SbufKeeps', WHERE WHAT IT READS IS OF BULK AT MOST 1048576: true; the input reads as it did. -/
def sbufKeepsUptoRow : OpenClaim := { program := "ytcdflljjgoffkaa", sum := "8084c4aad684bb0a0280a0fb3c4787a21bbc6906e09f5f1a710950baa9f4de21", func := "plait/plaitlaw16.SbufKeeps", spec := "sbufKeeps", unfollowed := true, recurses := true, apart := false, narrowed := true }
def SbufKeepsUptoSaid : Prop := sbufKeepsUptoRow.holds Try.pinned (OpenSpec.upto sbufKeepsSpec)

/-- 'plaitlaw16.SbufTells', WHERE WHAT IT READS IS OF BULK AT MOST 1048576: true; the input reads as it did. -/
def sbufTellsUptoRow : OpenClaim := { program := "ytcdflljjgoffkaa", sum := "8084c4aad684bb0a0280a0fb3c4787a21bbc6906e09f5f1a710950baa9f4de21", func := "plait/plaitlaw16.SbufTells", spec := "sbufTells", unfollowed := true, recurses := true, apart := false, narrowed := true }
def SbufTellsUptoSaid : Prop := sbufTellsUptoRow.holds Try.pinned (OpenSpec.upto sbufTellsSpec)

/-- 'plaitlaw16.SbufGives', WHERE WHAT IT READS IS OF BULK AT MOST 1048576: true; the input reads as it did. -/
def sbufGivesUptoRow : OpenClaim := { program := "ytcdflljjgoffkaa", sum := "8084c4aad684bb0a0280a0fb3c4787a21bbc6906e09f5f1a710950baa9f4de21", func := "plait/plaitlaw16.SbufGives", spec := "sbufGives", unfollowed := true, recurses := true, apart := false, narrowed := true }
def SbufGivesUptoSaid : Prop := sbufGivesUptoRow.holds Try.pinned (OpenSpec.upto sbufGivesSpec)

/-- 'plaitlaw16.SbufKnown', WHERE WHAT IT READS IS OF BULK AT MOST 1048576: true; the input reads as it did. -/
def sbufKnownUptoRow : OpenClaim := { program := "ytcdflljjgoffkaa", sum := "8084c4aad684bb0a0280a0fb3c4787a21bbc6906e09f5f1a710950baa9f4de21", func := "plait/plaitlaw16.SbufKnown", spec := "sbufKnown", unfollowed := true, recurses := true, apart := false, narrowed := true }
def SbufKnownUptoSaid : Prop := sbufKnownUptoRow.holds Try.pinned (OpenSpec.upto sbufKnownSpec)

end Rows
end Go.Proofs.Ytcdflljjgoffkaa
