/-
  NARROWER THAN 'FOR EVERY INPUT', by the rows' own cells (each row's printed sentence says how): ModePaths: laid · ModeFronts: laid · ModeEnds: laid · ModeTells: laid · ModeFalls: laid · ModeKnown: laid.
  DERIVED. THE GIVEN ROWS OF THIS SEAT. 6 by the template 'for every input the law returns true; each argument reads behind the call as it read before'; 0 by the template 'total and deterministic' (their statements: YtcfahggmejpdbaaDoorTotals.lean).
  GIVEN WITH THE SEED: the statements are not yours to turn. If you find one false, say at which input.
  Laid BY PROGRAM, IN A SANDBOX (cutbox-rows.mjs): the forced cells as the released guide's own fill.sh prints them over the translation 3a1fef79b7bacae3… (all of the seat's roots in one cut). By AI agents, Wed Nov 11 2026. No macro, syntax, notation, axiom, sorry.
-/
import Derived.Test.YtcfahggmejpdbaaDoorChecked
import GoSem.Claim
import GoSem.ClaimJoined
import GoSem.ClaimMapViews
import Derived.JoinedTies
import Derived.KernelRfl
namespace Go.Proofs.YtcfahggmejpdbaaDoor
/- THE CELL 'sum', in the pinned program and in every row, IS THE sha256 OF THE DUMP (.gsa) THAT YtcfahggmejpdbaaDoorProg.lean LOADS. Nothing in Lean hashes anything: it is a label: what it is worth is what the hold of that sum in a sandbox is worth. -/
noncomputable def Tryd.pinned : Pinned := { name := "ytcfahggmejpdbaadoor", sum := "3a1fef79b7bacae334cbba98a6fcbbef2ca69aff0653395a106b6dec070f04da", checked := Tryd.checked }
namespace Rows
def none {H : Type} : Left H := { results := [], args := [] }

/- WHAT THE LISTED PACKAGE-LEVEL VARIABLES READ AS WHEN THE CALL BEGINS. Each datum BY PROGRAM (the guide's laid-datum.mjs) off the statement by which the dump's own 'gosem.cut.vars' lays the variable. In a bare row this is a premise. The card (YtcfahggmejpdbaaDoorCards.lean) ties it to the program's text. -/
def laid_errors_errorType {H : Type} : DataW H := .iface "internal/reflectlite.rtype" (.agg [.ptr (.lit (.string [101, 114, 114, 111, 114]))])

/-- 'plaitlaw28.ModePaths': WHATEVER THE INPUT: true; the input reads as it did. -/
def modePathsSpec : ChangeSpec := { name := "modePaths", fn := fun _ => fun
  | [d] => { results := [.lit (.bool true)], args := [d] }
  | _ => none }
def modePathsRow : OpenClaim := { program := "ytcfahggmejpdbaadoor", sum := "3a1fef79b7bacae334cbba98a6fcbbef2ca69aff0653395a106b6dec070f04da", func := "plait/plaitlaw28.ModePaths", spec := "modePaths", inPlace := ["internal/reflectlite.ValueOf", "(internal/reflectlite.Value).Type", "(internal/reflectlite.Value).IsNil", "internal/reflectlite.TypeOf", "(internal/reflectlite.Value).Elem", "(internal/reflectlite.Value).Set"], unfollowed := true, recurses := true, named := ["errors.errorType"], apart := false, laid := [("errors.errorType", laid_errors_errorType)] }
def ModePathsSaid : Prop := modePathsRow.holds Tryd.pinned (OpenSpec.ofChange modePathsSpec)

/-- ITS FALSE NEIGHBOUR: 'it returns false'. Refute it at one input. -/
def modePathsWrong : ChangeSpec := { name := "modePaths", fn := fun _ => fun
  | [d] => { results := [.lit (.bool false)], args := [d] }
  | _ => none }
def ModePathsWrongFalsely : Prop := modePathsRow.holds Tryd.pinned (OpenSpec.ofChange modePathsWrong)

/-- 'plaitlaw28.ModeFronts': WHATEVER THE INPUT: true; the input reads as it did. -/
def modeFrontsSpec : ChangeSpec := { name := "modeFronts", fn := fun _ => fun
  | [d1, d2, d3] => { results := [.lit (.bool true)], args := [d1, d2, d3] }
  | _ => none }
def modeFrontsRow : OpenClaim := { program := "ytcfahggmejpdbaadoor", sum := "3a1fef79b7bacae334cbba98a6fcbbef2ca69aff0653395a106b6dec070f04da", func := "plait/plaitlaw28.ModeFronts", spec := "modeFronts", inPlace := ["internal/reflectlite.ValueOf", "(internal/reflectlite.Value).Type", "(internal/reflectlite.Value).IsNil", "internal/reflectlite.TypeOf", "(internal/reflectlite.Value).Elem", "(internal/reflectlite.Value).Set"], unfollowed := true, recurses := true, named := ["errors.errorType"], apart := false, laid := [("errors.errorType", laid_errors_errorType)] }
def ModeFrontsSaid : Prop := modeFrontsRow.holds Tryd.pinned (OpenSpec.ofChange modeFrontsSpec)

/-- ITS FALSE NEIGHBOUR: 'it returns false'. Refute it at one input. -/
def modeFrontsWrong : ChangeSpec := { name := "modeFronts", fn := fun _ => fun
  | [d1, d2, d3] => { results := [.lit (.bool false)], args := [d1, d2, d3] }
  | _ => none }
def ModeFrontsWrongFalsely : Prop := modeFrontsRow.holds Tryd.pinned (OpenSpec.ofChange modeFrontsWrong)

/-- 'plaitlaw28.ModeEnds': WHATEVER THE INPUT: true; the input reads as it did. -/
def modeEndsSpec : ChangeSpec := { name := "modeEnds", fn := fun _ => fun
  | [d1, d2] => { results := [.lit (.bool true)], args := [d1, d2] }
  | _ => none }
def modeEndsRow : OpenClaim := { program := "ytcfahggmejpdbaadoor", sum := "3a1fef79b7bacae334cbba98a6fcbbef2ca69aff0653395a106b6dec070f04da", func := "plait/plaitlaw28.ModeEnds", spec := "modeEnds", inPlace := ["internal/reflectlite.ValueOf", "(internal/reflectlite.Value).Type", "(internal/reflectlite.Value).IsNil", "internal/reflectlite.TypeOf", "(internal/reflectlite.Value).Elem", "(internal/reflectlite.Value).Set"], unfollowed := true, recurses := true, named := ["errors.errorType"], apart := false, laid := [("errors.errorType", laid_errors_errorType)] }
def ModeEndsSaid : Prop := modeEndsRow.holds Tryd.pinned (OpenSpec.ofChange modeEndsSpec)

/-- ITS FALSE NEIGHBOUR: 'it returns false'. Refute it at one input. -/
def modeEndsWrong : ChangeSpec := { name := "modeEnds", fn := fun _ => fun
  | [d1, d2] => { results := [.lit (.bool false)], args := [d1, d2] }
  | _ => none }
def ModeEndsWrongFalsely : Prop := modeEndsRow.holds Tryd.pinned (OpenSpec.ofChange modeEndsWrong)

/-- 'plaitlaw28.ModeTells': WHATEVER THE INPUT: true; the input reads as it did. -/
def modeTellsSpec : ChangeSpec := { name := "modeTells", fn := fun _ => fun
  | [d1, d2, d3, d4, d5] => { results := [.lit (.bool true)], args := [d1, d2, d3, d4, d5] }
  | _ => none }
def modeTellsRow : OpenClaim := { program := "ytcfahggmejpdbaadoor", sum := "3a1fef79b7bacae334cbba98a6fcbbef2ca69aff0653395a106b6dec070f04da", func := "plait/plaitlaw28.ModeTells", spec := "modeTells", inPlace := ["internal/reflectlite.ValueOf", "(internal/reflectlite.Value).Type", "(internal/reflectlite.Value).IsNil", "internal/reflectlite.TypeOf", "(internal/reflectlite.Value).Elem", "(internal/reflectlite.Value).Set"], unfollowed := true, recurses := true, named := ["errors.errorType"], apart := false, laid := [("errors.errorType", laid_errors_errorType)] }
def ModeTellsSaid : Prop := modeTellsRow.holds Tryd.pinned (OpenSpec.ofChange modeTellsSpec)

/-- ITS FALSE NEIGHBOUR: 'it returns false'. Refute it at one input. -/
def modeTellsWrong : ChangeSpec := { name := "modeTells", fn := fun _ => fun
  | [d1, d2, d3, d4, d5] => { results := [.lit (.bool false)], args := [d1, d2, d3, d4, d5] }
  | _ => none }
def ModeTellsWrongFalsely : Prop := modeTellsRow.holds Tryd.pinned (OpenSpec.ofChange modeTellsWrong)

/-- 'plaitlaw28.ModeFalls': WHATEVER THE INPUT: true; the input reads as it did. -/
def modeFallsSpec : ChangeSpec := { name := "modeFalls", fn := fun _ => fun
  | [d1, d2] => { results := [.lit (.bool true)], args := [d1, d2] }
  | _ => none }
def modeFallsRow : OpenClaim := { program := "ytcfahggmejpdbaadoor", sum := "3a1fef79b7bacae334cbba98a6fcbbef2ca69aff0653395a106b6dec070f04da", func := "plait/plaitlaw28.ModeFalls", spec := "modeFalls", inPlace := ["internal/reflectlite.ValueOf", "(internal/reflectlite.Value).Type", "(internal/reflectlite.Value).IsNil", "internal/reflectlite.TypeOf", "(internal/reflectlite.Value).Elem", "(internal/reflectlite.Value).Set"], unfollowed := true, recurses := true, named := ["errors.errorType"], apart := false, laid := [("errors.errorType", laid_errors_errorType)] }
def ModeFallsSaid : Prop := modeFallsRow.holds Tryd.pinned (OpenSpec.ofChange modeFallsSpec)

/-- ITS FALSE NEIGHBOUR: 'it returns false'. Refute it at one input. -/
def modeFallsWrong : ChangeSpec := { name := "modeFalls", fn := fun _ => fun
  | [d1, d2] => { results := [.lit (.bool false)], args := [d1, d2] }
  | _ => none }
def ModeFallsWrongFalsely : Prop := modeFallsRow.holds Tryd.pinned (OpenSpec.ofChange modeFallsWrong)

/-- 'plaitlaw28.ModeKnown': WHATEVER THE INPUT: true; the input reads as it did. -/
def modeKnownSpec : ChangeSpec := { name := "modeKnown", fn := fun _ => fun
  | [] => { results := [.lit (.bool true)], args := [] }
  | _ => none }
def modeKnownRow : OpenClaim := { program := "ytcfahggmejpdbaadoor", sum := "3a1fef79b7bacae334cbba98a6fcbbef2ca69aff0653395a106b6dec070f04da", func := "plait/plaitlaw28.ModeKnown", spec := "modeKnown", inPlace := ["internal/reflectlite.ValueOf", "(internal/reflectlite.Value).Type", "(internal/reflectlite.Value).IsNil", "internal/reflectlite.TypeOf", "(internal/reflectlite.Value).Elem", "(internal/reflectlite.Value).Set"], unfollowed := true, recurses := true, named := ["errors.errorType"], apart := false, laid := [("errors.errorType", laid_errors_errorType)] }
def ModeKnownSaid : Prop := modeKnownRow.holds Tryd.pinned (OpenSpec.ofChange modeKnownSpec)

/-- ITS FALSE NEIGHBOUR: 'it returns false'. Refute it at one input. -/
def modeKnownWrong : ChangeSpec := { name := "modeKnown", fn := fun _ => fun
  | [] => { results := [.lit (.bool false)], args := [] }
  | _ => none }
def ModeKnownWrongFalsely : Prop := modeKnownRow.holds Tryd.pinned (OpenSpec.ofChange modeKnownWrong)

/- THE SECOND FORM. 'bulk': how many values and letters a reading holds, each counted each time it is reached (what is shared counts as often as it is met; a slice's spare places count too). A statement '..UptoSaid' is the law's where the arguments, and the package variables that the reading takes, are together of bulk at most 1048576: NARROWER than '..Said'. Prove '..Said' where nothing that the law and all that it calls make is longer than what came in: it says more and counts as full. Else prove '..UptoSaid'. A law counts once. -/
mutual
def uptoBulk {H : Type} : DataW H → Nat
  | .lit (.string bytes) => bytes.length + 1
  | .lit _ => 1
  | .nil => 1
  | .ptr d => uptoBulk d + 1
  | .slice elems spare => uptoBulkAll elems + uptoBulkAll spare + 1
  | .agg parts => uptoBulkAll parts + 1
  | .iface _ d => uptoBulk d + 1
  | .map entries => uptoBulkEntries entries + 1
  | .held _ => 1
def uptoBulkAll {H : Type} : List (DataW H) → Nat
  | [] => 0
  | d :: r => uptoBulk d + uptoBulkAll r
def uptoBulkEntries {H : Type} : List (Lit × DataW H) → Nat
  | [] => 0
  | x :: r => uptoBulkEntry x + uptoBulkEntries r
def uptoBulkEntry {H : Type} : Lit × DataW H → Nat
  | (.string bytes, d) => bytes.length + uptoBulk d + 1
  | (_, d) => uptoBulk d + 1
 end
def uptoSmall : (H : Type) → List (DataW H) → Bool := fun _ ds => decide (uptoBulkAll ds ≤ 1048576)
def OpenSpec.upto (s : _root_.Go.ChangeSpec) : _root_.Go.OpenSpec := { _root_.Go.OpenSpec.ofChange s with cond := some uptoSmall }

/-- 'plaitlaw28.ModePaths', WHERE WHAT IT READS IS OF BULK AT MOST 1048576: true; the input reads as it did. -/
def modePathsUptoRow : OpenClaim := { program := "ytcfahggmejpdbaadoor", sum := "3a1fef79b7bacae334cbba98a6fcbbef2ca69aff0653395a106b6dec070f04da", func := "plait/plaitlaw28.ModePaths", spec := "modePaths", inPlace := ["internal/reflectlite.ValueOf", "(internal/reflectlite.Value).Type", "(internal/reflectlite.Value).IsNil", "internal/reflectlite.TypeOf", "(internal/reflectlite.Value).Elem", "(internal/reflectlite.Value).Set"], unfollowed := true, recurses := true, named := ["errors.errorType"], apart := false, laid := [("errors.errorType", laid_errors_errorType)], narrowed := true }
def ModePathsUptoSaid : Prop := modePathsUptoRow.holds Tryd.pinned (OpenSpec.upto modePathsSpec)

/-- 'plaitlaw28.ModeFronts', WHERE WHAT IT READS IS OF BULK AT MOST 1048576: true; the input reads as it did. -/
def modeFrontsUptoRow : OpenClaim := { program := "ytcfahggmejpdbaadoor", sum := "3a1fef79b7bacae334cbba98a6fcbbef2ca69aff0653395a106b6dec070f04da", func := "plait/plaitlaw28.ModeFronts", spec := "modeFronts", inPlace := ["internal/reflectlite.ValueOf", "(internal/reflectlite.Value).Type", "(internal/reflectlite.Value).IsNil", "internal/reflectlite.TypeOf", "(internal/reflectlite.Value).Elem", "(internal/reflectlite.Value).Set"], unfollowed := true, recurses := true, named := ["errors.errorType"], apart := false, laid := [("errors.errorType", laid_errors_errorType)], narrowed := true }
def ModeFrontsUptoSaid : Prop := modeFrontsUptoRow.holds Tryd.pinned (OpenSpec.upto modeFrontsSpec)

/-- 'plaitlaw28.ModeEnds', WHERE WHAT IT READS IS OF BULK AT MOST 1048576: true; the input reads as it did. -/
def modeEndsUptoRow : OpenClaim := { program := "ytcfahggmejpdbaadoor", sum := "3a1fef79b7bacae334cbba98a6fcbbef2ca69aff0653395a106b6dec070f04da", func := "plait/plaitlaw28.ModeEnds", spec := "modeEnds", inPlace := ["internal/reflectlite.ValueOf", "(internal/reflectlite.Value).Type", "(internal/reflectlite.Value).IsNil", "internal/reflectlite.TypeOf", "(internal/reflectlite.Value).Elem", "(internal/reflectlite.Value).Set"], unfollowed := true, recurses := true, named := ["errors.errorType"], apart := false, laid := [("errors.errorType", laid_errors_errorType)], narrowed := true }
def ModeEndsUptoSaid : Prop := modeEndsUptoRow.holds Tryd.pinned (OpenSpec.upto modeEndsSpec)

/-- 'plaitlaw28.ModeTells', WHERE WHAT IT READS IS OF BULK AT MOST 1048576: true; the input reads as it did. -/
def modeTellsUptoRow : OpenClaim := { program := "ytcfahggmejpdbaadoor", sum := "3a1fef79b7bacae334cbba98a6fcbbef2ca69aff0653395a106b6dec070f04da", func := "plait/plaitlaw28.ModeTells", spec := "modeTells", inPlace := ["internal/reflectlite.ValueOf", "(internal/reflectlite.Value).Type", "(internal/reflectlite.Value).IsNil", "internal/reflectlite.TypeOf", "(internal/reflectlite.Value).Elem", "(internal/reflectlite.Value).Set"], unfollowed := true, recurses := true, named := ["errors.errorType"], apart := false, laid := [("errors.errorType", laid_errors_errorType)], narrowed := true }
def ModeTellsUptoSaid : Prop := modeTellsUptoRow.holds Tryd.pinned (OpenSpec.upto modeTellsSpec)

/-- 'plaitlaw28.ModeFalls', WHERE WHAT IT READS IS OF BULK AT MOST 1048576: true; the input reads as it did. -/
def modeFallsUptoRow : OpenClaim := { program := "ytcfahggmejpdbaadoor", sum := "3a1fef79b7bacae334cbba98a6fcbbef2ca69aff0653395a106b6dec070f04da", func := "plait/plaitlaw28.ModeFalls", spec := "modeFalls", inPlace := ["internal/reflectlite.ValueOf", "(internal/reflectlite.Value).Type", "(internal/reflectlite.Value).IsNil", "internal/reflectlite.TypeOf", "(internal/reflectlite.Value).Elem", "(internal/reflectlite.Value).Set"], unfollowed := true, recurses := true, named := ["errors.errorType"], apart := false, laid := [("errors.errorType", laid_errors_errorType)], narrowed := true }
def ModeFallsUptoSaid : Prop := modeFallsUptoRow.holds Tryd.pinned (OpenSpec.upto modeFallsSpec)

/-- 'plaitlaw28.ModeKnown', WHERE WHAT IT READS IS OF BULK AT MOST 1048576: true; the input reads as it did. -/
def modeKnownUptoRow : OpenClaim := { program := "ytcfahggmejpdbaadoor", sum := "3a1fef79b7bacae334cbba98a6fcbbef2ca69aff0653395a106b6dec070f04da", func := "plait/plaitlaw28.ModeKnown", spec := "modeKnown", inPlace := ["internal/reflectlite.ValueOf", "(internal/reflectlite.Value).Type", "(internal/reflectlite.Value).IsNil", "internal/reflectlite.TypeOf", "(internal/reflectlite.Value).Elem", "(internal/reflectlite.Value).Set"], unfollowed := true, recurses := true, named := ["errors.errorType"], apart := false, laid := [("errors.errorType", laid_errors_errorType)], narrowed := true }
def ModeKnownUptoSaid : Prop := modeKnownUptoRow.holds Tryd.pinned (OpenSpec.upto modeKnownSpec)

end Rows
end Go.Proofs.YtcfahggmejpdbaaDoor
