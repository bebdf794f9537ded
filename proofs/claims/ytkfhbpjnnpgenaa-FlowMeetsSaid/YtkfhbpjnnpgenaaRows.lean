/-
  No cell of these rows narrows 'for every input' (looked for: loops, veiled, ifaces, maps, wideKeys, modest, calm, conditions, laid).
  DERIVED. THE GIVEN ROWS OF THIS SEAT. 4 by the template 'for every input the law returns true; each argument reads behind the call as it read before'; 0 by the template 'total and deterministic' (their statements: YtkfhbpjnnpgenaaTotals.lean).
  GIVEN WITH THE SEED: the statements are not yours to turn. If you find one false, say at which input.
  Laid BY PROGRAM, IN A SANDBOX (cutbox-rows.mjs): the forced cells as the released guide's own fill.sh prints them over the translation 47245be64290c675… (all of the seat's roots in one cut). By AI agents, Wed Nov 11 2026. No macro, syntax, notation, axiom, sorry.
-/
import Derived.Test.YtkfhbpjnnpgenaaChecked
import GoSem.Claim
import GoSem.ClaimJoined
import GoSem.ClaimMapViews
import Derived.JoinedTies
import Derived.KernelRfl
namespace Go.Proofs.Ytkfhbpjnnpgenaa
/- THE CELL 'sum', in the pinned program and in every row, IS THE sha256 OF THE DUMP (.gsa) THAT YtkfhbpjnnpgenaaProg.lean LOADS. Nothing in Lean hashes anything: it is a label: what it is worth is what the hold of that sum in a sandbox is worth. -/
noncomputable def Try.pinned : Pinned := { name := "ytkfhbpjnnpgenaa", sum := "47245be64290c675c32ecbc2169ba915005d038b3563b6ae4da7df23e27f1dfc", checked := Try.checked }
namespace Rows
def none {H : Type} : Left H := { results := [], args := [] }

/-- 'plaitlaw26.FlowMeets': WHATEVER THE INPUT: true; the input reads as it did. -/
def flowMeetsSpec : ChangeSpec := { name := "flowMeets", fn := fun _ => fun
  | [d1, d2, d3] => { results := [.lit (.bool true)], args := [d1, d2, d3] }
  | _ => none }
def flowMeetsRow : OpenClaim := { program := "ytkfhbpjnnpgenaa", sum := "47245be64290c675c32ecbc2169ba915005d038b3563b6ae4da7df23e27f1dfc", func := "plait/plaitlaw26.FlowMeets", spec := "flowMeets", unfollowed := true, recurses := true, apart := false }
def FlowMeetsSaid : Prop := flowMeetsRow.holds Try.pinned (OpenSpec.ofChange flowMeetsSpec)

/-- ITS FALSE NEIGHBOUR: 'it returns false'. Refute it at one input. -/
def flowMeetsWrong : ChangeSpec := { name := "flowMeets", fn := fun _ => fun
  | [d1, d2, d3] => { results := [.lit (.bool false)], args := [d1, d2, d3] }
  | _ => none }
def FlowMeetsWrongFalsely : Prop := flowMeetsRow.holds Try.pinned (OpenSpec.ofChange flowMeetsWrong)

/-- 'plaitlaw26.FlowEnds': WHATEVER THE INPUT: true; the input reads as it did. -/
def flowEndsSpec : ChangeSpec := { name := "flowEnds", fn := fun _ => fun
  | [d1, d2, d3] => { results := [.lit (.bool true)], args := [d1, d2, d3] }
  | _ => none }
def flowEndsRow : OpenClaim := { program := "ytkfhbpjnnpgenaa", sum := "47245be64290c675c32ecbc2169ba915005d038b3563b6ae4da7df23e27f1dfc", func := "plait/plaitlaw26.FlowEnds", spec := "flowEnds", unfollowed := true, recurses := true, apart := false }
def FlowEndsSaid : Prop := flowEndsRow.holds Try.pinned (OpenSpec.ofChange flowEndsSpec)

/-- ITS FALSE NEIGHBOUR: 'it returns false'. Refute it at one input. -/
def flowEndsWrong : ChangeSpec := { name := "flowEnds", fn := fun _ => fun
  | [d1, d2, d3] => { results := [.lit (.bool false)], args := [d1, d2, d3] }
  | _ => none }
def FlowEndsWrongFalsely : Prop := flowEndsRow.holds Try.pinned (OpenSpec.ofChange flowEndsWrong)

/-- 'plaitlaw26.FlowCarries': WHATEVER THE INPUT: true; the input reads as it did. -/
def flowCarriesSpec : ChangeSpec := { name := "flowCarries", fn := fun _ => fun
  | [d1, d2, d3] => { results := [.lit (.bool true)], args := [d1, d2, d3] }
  | _ => none }
def flowCarriesRow : OpenClaim := { program := "ytkfhbpjnnpgenaa", sum := "47245be64290c675c32ecbc2169ba915005d038b3563b6ae4da7df23e27f1dfc", func := "plait/plaitlaw26.FlowCarries", spec := "flowCarries", unfollowed := true, recurses := true, apart := false }
def FlowCarriesSaid : Prop := flowCarriesRow.holds Try.pinned (OpenSpec.ofChange flowCarriesSpec)

/-- ITS FALSE NEIGHBOUR: 'it returns false'. Refute it at one input. -/
def flowCarriesWrong : ChangeSpec := { name := "flowCarries", fn := fun _ => fun
  | [d1, d2, d3] => { results := [.lit (.bool false)], args := [d1, d2, d3] }
  | _ => none }
def FlowCarriesWrongFalsely : Prop := flowCarriesRow.holds Try.pinned (OpenSpec.ofChange flowCarriesWrong)

/-- 'plaitlaw26.FlowKnown': WHATEVER THE INPUT: true; the input reads as it did. -/
def flowKnownSpec : ChangeSpec := { name := "flowKnown", fn := fun _ => fun
  | [] => { results := [.lit (.bool true)], args := [] }
  | _ => none }
def flowKnownRow : OpenClaim := { program := "ytkfhbpjnnpgenaa", sum := "47245be64290c675c32ecbc2169ba915005d038b3563b6ae4da7df23e27f1dfc", func := "plait/plaitlaw26.FlowKnown", spec := "flowKnown", unfollowed := true, recurses := true, apart := false }
def FlowKnownSaid : Prop := flowKnownRow.holds Try.pinned (OpenSpec.ofChange flowKnownSpec)

/-- ITS FALSE NEIGHBOUR: 'it returns false'. Refute it at one input. -/
def flowKnownWrong : ChangeSpec := { name := "flowKnown", fn := fun _ => fun
  | [] => { results := [.lit (.bool false)], args := [] }
  | _ => none }
def FlowKnownWrongFalsely : Prop := flowKnownRow.holds Try.pinned (OpenSpec.ofChange flowKnownWrong)

/- THE SECOND FORM. 'bulk': how many values and letters a reading holds, each counted each time it is reached (what is shared counts as often as it is met; a slice's spare places count too). A statement '..UptoSaid' is the law's where the arguments, and the package variables that the reading takes, are together of bulk at most 1048576: NARROWER than '..Said'. Prove '..Said' where nothing that the law and all that it calls make is longer than what came in: it says more and counts as full. Else prove '..UptoSaid'. A law counts once. -/
mutual
def uptoBulk {H : Type} : DataW H → Nat
  | .lit (.string bytes) => bytes.length + 1
  | .lit _ => 1
  | .nil => 1
  | .ptr d => uptoBulk d + 1
  | .slice elems spare => uptoBulkAll elems + uptoBulkAll spare + 1
  | .agg parts => uptoBulkAll parts + 1
  | .iface _ d => uptoBulk d + 1
  | .map entries => uptoBulkEntries entries + 1
  | .held _ => 1
def uptoBulkAll {H : Type} : List (DataW H) → Nat
  | [] => 0
  | d :: r => uptoBulk d + uptoBulkAll r
def uptoBulkEntries {H : Type} : List (Lit × DataW H) → Nat
  | [] => 0
  | x :: r => uptoBulkEntry x + uptoBulkEntries r
def uptoBulkEntry {H : Type} : Lit × DataW H → Nat
  | (.string bytes, d) => bytes.length + uptoBulk d + 1
  | (_, d) => uptoBulk d + 1
 end
def uptoSmall : (H : Type) → List (DataW H) → Bool := fun _ ds => decide (uptoBulkAll ds ≤ 1048576)
def OpenSpec.upto (s : _root_.Go.ChangeSpec) : _root_.Go.OpenSpec := { _root_.Go.OpenSpec.ofChange s with cond := some uptoSmall }

/-- 'plaitlaw26.FlowMeets', WHERE WHAT IT READS IS OF BULK AT MOST 1048576: true; the input reads as it did. -/
def flowMeetsUptoRow : OpenClaim := { program := "ytkfhbpjnnpgenaa", sum := "47245be64290c675c32ecbc2169ba915005d038b3563b6ae4da7df23e27f1dfc", func := "plait/plaitlaw26.FlowMeets", spec := "flowMeets", unfollowed := true, recurses := true, apart := false, narrowed := true }
def FlowMeetsUptoSaid : Prop := flowMeetsUptoRow.holds Try.pinned (OpenSpec.upto flowMeetsSpec)

/-- 'plaitlaw26.FlowEnds', WHERE WHAT IT READS IS OF BULK AT MOST 1048576: true; the input reads as it did. -/
def flowEndsUptoRow : OpenClaim := { program := "ytkfhbpjnnpgenaa", sum := "47245be64290c675c32ecbc2169ba915005d038b3563b6ae4da7df23e27f1dfc", func := "plait/plaitlaw26.FlowEnds", spec := "flowEnds", unfollowed := true, recurses := true, apart := false, narrowed := true }
def FlowEndsUptoSaid : Prop := flowEndsUptoRow.holds Try.pinned (OpenSpec.upto flowEndsSpec)

/-- 'plaitlaw26.FlowCarries', WHERE WHAT IT READS IS OF BULK AT MOST 1048576: true; the input reads as it did. -/
def flowCarriesUptoRow : OpenClaim := { program := "ytkfhbpjnnpgenaa", sum := "47245be64290c675c32ecbc2169ba915005d038b3563b6ae4da7df23e27f1dfc", func := "plait/plaitlaw26.FlowCarries", spec := "flowCarries", unfollowed := true, recurses := true, apart := false, narrowed := true }
def FlowCarriesUptoSaid : Prop := flowCarriesUptoRow.holds Try.pinned (OpenSpec.upto flowCarriesSpec)

/-- 'plaitlaw26.FlowKnown', WHERE WHAT IT READS IS OF BULK AT MOST 1048576: true; the input reads as it did. -/
def flowKnownUptoRow : OpenClaim := { program := "ytkfhbpjnnpgenaa", sum := "47245be64290c675c32ecbc2169ba915005d038b3563b6ae4da7df23e27f1dfc", func := "plait/plaitlaw26.FlowKnown", spec := "flowKnown", unfollowed := true, recurses := true, apart := false, narrowed := true }
def FlowKnownUptoSaid : Prop := flowKnownUptoRow.holds Try.pinned (OpenSpec.upto flowKnownSpec)

end Rows
end Go.Proofs.Ytkfhbpjnnpgenaa
