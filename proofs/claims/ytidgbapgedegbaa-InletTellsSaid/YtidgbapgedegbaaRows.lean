/-
  No cell of these rows narrows 'for every input' (looked for: loops, veiled, ifaces, maps, wideKeys, modest, calm, conditions, laid).
  DERIVED. THE GIVEN ROWS OF THIS SEAT. 11 by the template 'for every input the law returns true; each argument reads behind the call as it read before'; 0 by the template 'total and deterministic' (their statements: YtidgbapgedegbaaTotals.lean).
  GIVEN WITH THE SEED: the statements are not yours to turn. If you find one false, say at which input.
  Laid BY PROGRAM, IN A SANDBOX (cutbox-rows.mjs): the forced cells as the released guide's own fill.sh prints them over the translation 1e374e6411318e2c… (all of the seat's roots in one cut). By AI agents, Wed Nov 11 2026. No macro, syntax, notation, axiom, sorry.
-/
import Derived.Test.YtidgbapgedegbaaChecked
import GoSem.Claim
import GoSem.ClaimJoined
import GoSem.ClaimMapViews
import Derived.JoinedTies
import Derived.KernelRfl
namespace Go.Proofs.Ytidgbapgedegbaa
/- THE CELL 'sum', in the pinned program and in every row, IS THE sha256 OF THE DUMP (.gsa) THAT YtidgbapgedegbaaProg.lean LOADS. Nothing in Lean hashes anything: it is a label: what it is worth is what the hold of that sum in a sandbox is worth. -/
noncomputable def Try.pinned : Pinned := { name := "ytidgbapgedegbaa", sum := "1e374e6411318e2c072df7b7a56b4d8e1efafe722fc0e487546375b06254177b", checked := Try.checked }
namespace Rows
def none {H : Type} : Left H := { results := [], args := [] }

/-- 'plaitlaw16.SbufAcks': WHATEVER THE INPUT: true; the input reads as it did. -/
def sbufAcksSpec : ChangeSpec := { name := "sbufAcks", fn := fun _ => fun
  | [d1, d2, d3] => { results := [.lit (.bool true)], args := [d1, d2, d3] }
  | _ => none }
def sbufAcksRow : OpenClaim := { program := "ytidgbapgedegbaa", sum := "1e374e6411318e2c072df7b7a56b4d8e1efafe722fc0e487546375b06254177b", func := "plait/plaitlaw16.SbufAcks", spec := "sbufAcks", unfollowed := true, recurses := true, apart := false }
def SbufAcksSaid : Prop := sbufAcksRow.holds Try.pinned (OpenSpec.ofChange sbufAcksSpec)

/-- ITS FALSE NEIGHBOUR: 'it returns false'. Refute it at one input. -/
def sbufAcksWrong : ChangeSpec := { name := "sbufAcks", fn := fun _ => fun
  | [d1, d2, d3] => { results := [.lit (.bool false)], args := [d1, d2, d3] }
  | _ => none }
def SbufAcksWrongFalsely : Prop := sbufAcksRow.holds Try.pinned (OpenSpec.ofChange sbufAcksWrong)

/-- 'plaitlaw16.SbufKeeps': WHATEVER THE INPUT: true; the input reads as it did. -/
def sbufKeepsSpec : ChangeSpec := { name := "sbufKeeps", fn := fun _ => fun
  | [d1, d2, d3, d4] => { results := [.lit (.bool true)], args := [d1, d2, d3, d4] }
  | _ => none }
def sbufKeepsRow : OpenClaim := { program := "ytidgbapgedegbaa", sum := "1e374e6411318e2c072df7b7a56b4d8e1efafe722fc0e487546375b06254177b", func := "plait/plaitlaw16.SbufKeeps", spec := "sbufKeeps", unfollowed := true, recurses := true, apart := false }
def SbufKeepsSaid : Prop := sbufKeepsRow.holds Try.pinned (OpenSpec.ofChange sbufKeepsSpec)

/-- ITS FALSE NEIGHBOUR: 'it returns false'. Refute it at one input. -/
def sbufKeepsWrong : ChangeSpec := { name := "sbufKeeps", fn := fun _ => fun
  | [d1, d2, d3, d4] => { results := [.lit (.bool false)], args := [d1, d2, d3, d4] }
  | _ => none }
def SbufKeepsWrongFalsely : Prop := sbufKeepsRow.holds Try.pinned (OpenSpec.ofChange sbufKeepsWrong)

/-- 'plaitlaw16.SbufTells': WHATEVER THE INPUT: true; the input reads as it did. -/
def sbufTellsSpec : ChangeSpec := { name := "sbufTells", fn := fun _ => fun
  | [d1, d2] => { results := [.lit (.bool true)], args := [d1, d2] }
  | _ => none }
def sbufTellsRow : OpenClaim := { program := "ytidgbapgedegbaa", sum := "1e374e6411318e2c072df7b7a56b4d8e1efafe722fc0e487546375b06254177b", func := "plait/plaitlaw16.SbufTells", spec := "sbufTells", unfollowed := true, recurses := true, apart := false }
def SbufTellsSaid : Prop := sbufTellsRow.holds Try.pinned (OpenSpec.ofChange sbufTellsSpec)

/-- ITS FALSE NEIGHBOUR: 'it returns false'. Refute it at one input. -/
def sbufTellsWrong : ChangeSpec := { name := "sbufTells", fn := fun _ => fun
  | [d1, d2] => { results := [.lit (.bool false)], args := [d1, d2] }
  | _ => none }
def SbufTellsWrongFalsely : Prop := sbufTellsRow.holds Try.pinned (OpenSpec.ofChange sbufTellsWrong)

/-- 'plaitlaw16.SbufGives': WHATEVER THE INPUT: true; the input reads as it did. -/
def sbufGivesSpec : ChangeSpec := { name := "sbufGives", fn := fun _ => fun
  | [d1, d2] => { results := [.lit (.bool true)], args := [d1, d2] }
  | _ => none }
def sbufGivesRow : OpenClaim := { program := "ytidgbapgedegbaa", sum := "1e374e6411318e2c072df7b7a56b4d8e1efafe722fc0e487546375b06254177b", func := "plait/plaitlaw16.SbufGives", spec := "sbufGives", unfollowed := true, recurses := true, apart := false }
def SbufGivesSaid : Prop := sbufGivesRow.holds Try.pinned (OpenSpec.ofChange sbufGivesSpec)

/-- ITS FALSE NEIGHBOUR: 'it returns false'. Refute it at one input. -/
def sbufGivesWrong : ChangeSpec := { name := "sbufGives", fn := fun _ => fun
  | [d1, d2] => { results := [.lit (.bool false)], args := [d1, d2] }
  | _ => none }
def SbufGivesWrongFalsely : Prop := sbufGivesRow.holds Try.pinned (OpenSpec.ofChange sbufGivesWrong)

/-- 'plaitlaw20.InletTells': WHATEVER THE INPUT: true; the input reads as it did. -/
def inletTellsSpec : ChangeSpec := { name := "inletTells", fn := fun _ => fun
  | [d1, d2, d3, d4] => { results := [.lit (.bool true)], args := [d1, d2, d3, d4] }
  | _ => none }
def inletTellsRow : OpenClaim := { program := "ytidgbapgedegbaa", sum := "1e374e6411318e2c072df7b7a56b4d8e1efafe722fc0e487546375b06254177b", func := "plait/plaitlaw20.InletTells", spec := "inletTells", unfollowed := true, recurses := true, apart := false }
def InletTellsSaid : Prop := inletTellsRow.holds Try.pinned (OpenSpec.ofChange inletTellsSpec)

/-- ITS FALSE NEIGHBOUR: 'it returns false'. Refute it at one input. -/
def inletTellsWrong : ChangeSpec := { name := "inletTells", fn := fun _ => fun
  | [d1, d2, d3, d4] => { results := [.lit (.bool false)], args := [d1, d2, d3, d4] }
  | _ => none }
def InletTellsWrongFalsely : Prop := inletTellsRow.holds Try.pinned (OpenSpec.ofChange inletTellsWrong)

/-- 'plaitlaw20.InletFirst': WHATEVER THE INPUT: true; the input reads as it did. -/
def inletFirstSpec : ChangeSpec := { name := "inletFirst", fn := fun _ => fun
  | [d1, d2, d3] => { results := [.lit (.bool true)], args := [d1, d2, d3] }
  | _ => none }
def inletFirstRow : OpenClaim := { program := "ytidgbapgedegbaa", sum := "1e374e6411318e2c072df7b7a56b4d8e1efafe722fc0e487546375b06254177b", func := "plait/plaitlaw20.InletFirst", spec := "inletFirst", unfollowed := true, recurses := true, apart := false }
def InletFirstSaid : Prop := inletFirstRow.holds Try.pinned (OpenSpec.ofChange inletFirstSpec)

/-- ITS FALSE NEIGHBOUR: 'it returns false'. Refute it at one input. -/
def inletFirstWrong : ChangeSpec := { name := "inletFirst", fn := fun _ => fun
  | [d1, d2, d3] => { results := [.lit (.bool false)], args := [d1, d2, d3] }
  | _ => none }
def InletFirstWrongFalsely : Prop := inletFirstRow.holds Try.pinned (OpenSpec.ofChange inletFirstWrong)

/-- 'plaitlaw20.InletTakes': WHATEVER THE INPUT: true; the input reads as it did. -/
def inletTakesSpec : ChangeSpec := { name := "inletTakes", fn := fun _ => fun
  | [d1, d2, d3] => { results := [.lit (.bool true)], args := [d1, d2, d3] }
  | _ => none }
def inletTakesRow : OpenClaim := { program := "ytidgbapgedegbaa", sum := "1e374e6411318e2c072df7b7a56b4d8e1efafe722fc0e487546375b06254177b", func := "plait/plaitlaw20.InletTakes", spec := "inletTakes", unfollowed := true, recurses := true, apart := false }
def InletTakesSaid : Prop := inletTakesRow.holds Try.pinned (OpenSpec.ofChange inletTakesSpec)

/-- ITS FALSE NEIGHBOUR: 'it returns false'. Refute it at one input. -/
def inletTakesWrong : ChangeSpec := { name := "inletTakes", fn := fun _ => fun
  | [d1, d2, d3] => { results := [.lit (.bool false)], args := [d1, d2, d3] }
  | _ => none }
def InletTakesWrongFalsely : Prop := inletTakesRow.holds Try.pinned (OpenSpec.ofChange inletTakesWrong)

/-- 'plaitlaw20.InletSpoilt': WHATEVER THE INPUT: true; the input reads as it did. -/
def inletSpoiltSpec : ChangeSpec := { name := "inletSpoilt", fn := fun _ => fun
  | [d1, d2, d3, d4] => { results := [.lit (.bool true)], args := [d1, d2, d3, d4] }
  | _ => none }
def inletSpoiltRow : OpenClaim := { program := "ytidgbapgedegbaa", sum := "1e374e6411318e2c072df7b7a56b4d8e1efafe722fc0e487546375b06254177b", func := "plait/plaitlaw20.InletSpoilt", spec := "inletSpoilt", unfollowed := true, recurses := true, apart := false }
def InletSpoiltSaid : Prop := inletSpoiltRow.holds Try.pinned (OpenSpec.ofChange inletSpoiltSpec)

/-- ITS FALSE NEIGHBOUR: 'it returns false'. Refute it at one input. -/
def inletSpoiltWrong : ChangeSpec := { name := "inletSpoilt", fn := fun _ => fun
  | [d1, d2, d3, d4] => { results := [.lit (.bool false)], args := [d1, d2, d3, d4] }
  | _ => none }
def InletSpoiltWrongFalsely : Prop := inletSpoiltRow.holds Try.pinned (OpenSpec.ofChange inletSpoiltWrong)

/-- 'plaitlaw20.InletKnown': WHATEVER THE INPUT: true; the input reads as it did. -/
def inletKnownSpec : ChangeSpec := { name := "inletKnown", fn := fun _ => fun
  | [] => { results := [.lit (.bool true)], args := [] }
  | _ => none }
def inletKnownRow : OpenClaim := { program := "ytidgbapgedegbaa", sum := "1e374e6411318e2c072df7b7a56b4d8e1efafe722fc0e487546375b06254177b", func := "plait/plaitlaw20.InletKnown", spec := "inletKnown", unfollowed := true, recurses := true, apart := false }
def InletKnownSaid : Prop := inletKnownRow.holds Try.pinned (OpenSpec.ofChange inletKnownSpec)

/-- ITS FALSE NEIGHBOUR: 'it returns false'. Refute it at one input. -/
def inletKnownWrong : ChangeSpec := { name := "inletKnown", fn := fun _ => fun
  | [] => { results := [.lit (.bool false)], args := [] }
  | _ => none }
def InletKnownWrongFalsely : Prop := inletKnownRow.holds Try.pinned (OpenSpec.ofChange inletKnownWrong)

/-- 'plaitlaw26.FlowEnds': WHATEVER THE INPUT: true; the input reads as it did. -/
def flowEndsSpec : ChangeSpec := { name := "flowEnds", fn := fun _ => fun
  | [d1, d2, d3] => { results := [.lit (.bool true)], args := [d1, d2, d3] }
  | _ => none }
def flowEndsRow : OpenClaim := { program := "ytidgbapgedegbaa", sum := "1e374e6411318e2c072df7b7a56b4d8e1efafe722fc0e487546375b06254177b", func := "plait/plaitlaw26.FlowEnds", spec := "flowEnds", unfollowed := true, recurses := true, apart := false }
def FlowEndsSaid : Prop := flowEndsRow.holds Try.pinned (OpenSpec.ofChange flowEndsSpec)

/-- ITS FALSE NEIGHBOUR: 'it returns false'. Refute it at one input. -/
def flowEndsWrong : ChangeSpec := { name := "flowEnds", fn := fun _ => fun
  | [d1, d2, d3] => { results := [.lit (.bool false)], args := [d1, d2, d3] }
  | _ => none }
def FlowEndsWrongFalsely : Prop := flowEndsRow.holds Try.pinned (OpenSpec.ofChange flowEndsWrong)

/-- 'plaitlaw26.FlowCarries': WHATEVER THE INPUT: true; the input reads as it did. -/
def flowCarriesSpec : ChangeSpec := { name := "flowCarries", fn := fun _ => fun
  | [d1, d2, d3] => { results := [.lit (.bool true)], args := [d1, d2, d3] }
  | _ => none }
def flowCarriesRow : OpenClaim := { program := "ytidgbapgedegbaa", sum := "1e374e6411318e2c072df7b7a56b4d8e1efafe722fc0e487546375b06254177b", func := "plait/plaitlaw26.FlowCarries", spec := "flowCarries", unfollowed := true, recurses := true, apart := false }
def FlowCarriesSaid : Prop := flowCarriesRow.holds Try.pinned (OpenSpec.ofChange flowCarriesSpec)

/-- ITS FALSE NEIGHBOUR: 'it returns false'. Refute it at one input. -/
def flowCarriesWrong : ChangeSpec := { name := "flowCarries", fn := fun _ => fun
  | [d1, d2, d3] => { results := [.lit (.bool false)], args := [d1, d2, d3] }
  | _ => none }
def FlowCarriesWrongFalsely : Prop := flowCarriesRow.holds Try.pinned (OpenSpec.ofChange flowCarriesWrong)

/- THE SECOND FORM. 'bulk': how many values and letters a reading holds, each counted each time it is reached (what is shared counts as often as it is met; a slice's spare places count too). A statement '..UptoSaid' is the law's where the arguments, and the package variables that the reading takes, are together of bulk at most 1048576: NARROWER than '..Said'. Prove '..Said' where nothing that the law and all that it calls make is longer than what came in: it says more and counts as full. Else prove '..UptoSaid'. A law counts once. -/
mutual
def uptoBulk {H : Type} : DataW H → Nat
  | .lit (.string bytes) => bytes.length + 1
  | .lit _ => 1
  | .nil => 1
  | .ptr d => uptoBulk d + 1
  | .slice elems spare => uptoBulkAll elems + uptoBulkAll spare + 1
  | .agg parts => uptoBulkAll parts + 1
  | .iface _ d => uptoBulk d + 1
  | .map entries => uptoBulkEntries entries + 1
  | .held _ => 1
def uptoBulkAll {H : Type} : List (DataW H) → Nat
  | [] => 0
  | d :: r => uptoBulk d + uptoBulkAll r
def uptoBulkEntries {H : Type} : List (Lit × DataW H) → Nat
  | [] => 0
  | x :: r => uptoBulkEntry x + uptoBulkEntries r
def uptoBulkEntry {H : Type} : Lit × DataW H → Nat
  | (.string bytes, d) => bytes.length + uptoBulk d + 1
  | (_, d) => uptoBulk d + 1
 end
def uptoSmall : (H : Type) → List (DataW H) → Bool := fun _ ds => decide (uptoBulkAll ds ≤ 1048576)
def OpenSpec.upto (s : _root_.Go.ChangeSpec) : _root_.Go.OpenSpec := { _root_.Go.OpenSpec.ofChange s with cond := some uptoSmall }

/-- 'plaitlaw16.SbufAcks', WHERE WHAT IT READS IS OF BULK AT MOST 1048576: true; the input reads as it did. -/
def sbufAcksUptoRow : OpenClaim := { program := "ytidgbapgedegbaa", sum := "1e374e6411318e2c072df7b7a56b4d8e1efafe722fc0e487546375b06254177b", func := "plait/plaitlaw16.SbufAcks", spec := "sbufAcks", unfollowed := true, recurses := true, apart := false, narrowed := true }
def SbufAcksUptoSaid : Prop := sbufAcksUptoRow.holds Try.pinned (OpenSpec.upto sbufAcksSpec)

/-- 'plaitlaw16.SbufKeeps', WHERE WHAT IT READS IS OF BULK AT MOST 1048576: true; the input reads as it did. -/
def sbufKeepsUptoRow : OpenClaim := { program := "ytidgbapgedegbaa", sum := "1e374e6411318e2c072df7b7a56b4d8e1efafe722fc0e487546375b06254177b", func := "plait/plaitlaw16.SbufKeeps", spec := "sbufKeeps", unfollowed := true, recurses := true, apart := false, narrowed := true }
def SbufKeepsUptoSaid : Prop := sbufKeepsUptoRow.holds Try.pinned (OpenSpec.upto sbufKeepsSpec)

/-- 'plaitlaw16.SbufTells', WHERE WHAT IT READS IS OF BULK AT MOST 1048576: true; the input reads as it did. -/
def sbufTellsUptoRow : OpenClaim := { program := "ytidgbapgedegbaa", sum := "1e374e6411318e2c072df7b7a56b4d8e1efafe722fc0e487546375b06254177b", func := "plait/plaitlaw16.SbufTells", spec := "sbufTells", unfollowed := true, recurses := true, apart := false, narrowed := true }
def SbufTellsUptoSaid : Prop := sbufTellsUptoRow.holds Try.pinned (OpenSpec.upto sbufTellsSpec)

/-- 'plaitlaw16.SbufGives', WHERE WHAT IT READS IS OF BULK AT MOST 1048576: true; the input reads as it did. -/
def sbufGivesUptoRow : OpenClaim := { program := "ytidgbapgedegbaa", sum := "1e374e6411318e2c072df7b7a56b4d8e1efafe722fc0e487546375b06254177b", func := "plait/plaitlaw16.SbufGives", spec := "sbufGives", unfollowed := true, recurses := true, apart := false, narrowed := true }
def SbufGivesUptoSaid : Prop := sbufGivesUptoRow.holds Try.pinned (OpenSpec.upto sbufGivesSpec)

/-- 'plaitlaw20.InletTells', WHERE WHAT IT READS IS OF BULK AT MOST 1048576: true; the input reads as it did. -/
def inletTellsUptoRow : OpenClaim := { program := "ytidgbapgedegbaa", sum := "1e374e6411318e2c072df7b7a56b4d8e1efafe722fc0e487546375b06254177b", func := "plait/plaitlaw20.InletTells", spec := "inletTells", unfollowed := true, recurses := true, apart := false, narrowed := true }
def InletTellsUptoSaid : Prop := inletTellsUptoRow.holds Try.pinned (OpenSpec.upto inletTellsSpec)

/-- 'plaitlaw20.InletFirst', WHERE WHAT IT READS IS OF BULK AT MOST 1048576: true; the input reads as it did. -/
def inletFirstUptoRow : OpenClaim := { program := "ytidgbapgedegbaa", sum := "1e374e6411318e2c072df7b7a56b4d8e1efafe722fc0e487546375b06254177b", func := "plait/plaitlaw20.InletFirst", spec := "inletFirst", unfollowed := true, recurses := true, apart := false, narrowed := true }
def InletFirstUptoSaid : Prop := inletFirstUptoRow.holds Try.pinned (OpenSpec.upto inletFirstSpec)

/-- 'plaitlaw20.InletTakes', WHERE WHAT IT READS IS OF BULK AT MOST 1048576: true; the input reads as it did. -/
def inletTakesUptoRow : OpenClaim := { program := "ytidgbapgedegbaa", sum := "1e374e6411318e2c072df7b7a56b4d8e1efafe722fc0e487546375b06254177b", func := "plait/plaitlaw20.InletTakes", spec := "inletTakes", unfollowed := true, recurses := true, apart := false, narrowed := true }
def InletTakesUptoSaid : Prop := inletTakesUptoRow.holds Try.pinned (OpenSpec.upto inletTakesSpec)

/-- 'plaitlaw20.InletSpoilt', WHERE WHAT IT READS IS OF BULK AT MOST 1048576: true; the input reads as it did. -/
def inletSpoiltUptoRow : OpenClaim := { program := "ytidgbapgedegbaa", sum := "1e374e6411318e2c072df7b7a56b4d8e1efafe722fc0e487546375b06254177b", func := "plait/plaitlaw20.InletSpoilt", spec := "inletSpoilt", unfollowed := true, recurses := true, apart := false, narrowed := true }
def InletSpoiltUptoSaid : Prop := inletSpoiltUptoRow.holds Try.pinned (OpenSpec.upto inletSpoiltSpec)

/-- 'plaitlaw20.InletKnown', WHERE WHAT IT READS IS OF BULK AT MOST 1048576: true; the input reads as it did. -/
def inletKnownUptoRow : OpenClaim := { program := "ytidgbapgedegbaa", sum := "1e374e6411318e2c072df7b7a56b4d8e1efafe722fc0e487546375b06254177b", func := "plait/plaitlaw20.InletKnown", spec := "inletKnown", unfollowed := true, recurses := true, apart := false, narrowed := true }
def InletKnownUptoSaid : Prop := inletKnownUptoRow.holds Try.pinned (OpenSpec.upto inletKnownSpec)

/-- 'plaitlaw26.FlowEnds', WHERE WHAT IT READS IS OF BULK AT MOST 1048576: true; the input reads as it did. -/
def flowEndsUptoRow : OpenClaim := { program := "ytidgbapgedegbaa", sum := "1e374e6411318e2c072df7b7a56b4d8e1efafe722fc0e487546375b06254177b", func := "plait/plaitlaw26.FlowEnds", spec := "flowEnds", unfollowed := true, recurses := true, apart := false, narrowed := true }
def FlowEndsUptoSaid : Prop := flowEndsUptoRow.holds Try.pinned (OpenSpec.upto flowEndsSpec)

/-- 'plaitlaw26.FlowCarries', WHERE WHAT IT READS IS OF BULK AT MOST 1048576: true; the input reads as it did. -/
def flowCarriesUptoRow : OpenClaim := { program := "ytidgbapgedegbaa", sum := "1e374e6411318e2c072df7b7a56b4d8e1efafe722fc0e487546375b06254177b", func := "plait/plaitlaw26.FlowCarries", spec := "flowCarries", unfollowed := true, recurses := true, apart := false, narrowed := true }
def FlowCarriesUptoSaid : Prop := flowCarriesUptoRow.holds Try.pinned (OpenSpec.upto flowCarriesSpec)

end Rows
end Go.Proofs.Ytidgbapgedegbaa
