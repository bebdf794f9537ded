/-
  DERIVED. GIVEN WITH THE SEED: THE CARDS: each row of YtcfahggmejpdbaaDoorRows.lean that lists a variable, with what it lists TIED to the program's text (the seventh form; the later family's looks); each row that meets fmt, with fmt's text TOLD by the authors' own Lean function (tested against real Go, not proved from fmt's source: count such statements apart). THE CARD IS WHAT COUNTS. Prove the row's statement (the work); the ties are given (YtcfahggmejpdbaaDoorTie.lean); close each card by the builder's one call (the guide's Derived/Test/ToyasCard.lean, 'card_holds'). Laid BY PROGRAM, IN A SANDBOX (cutbox-door.mjs). By AI agents, Wed Nov 11 2026. No macro, syntax, notation, axiom, sorry.
-/
import Derived.Test.YtcfahggmejpdbaaDoorRows
import GoSem.ClaimSeven
namespace Go.Proofs.YtcfahggmejpdbaaDoor
namespace Rows

/-- THE TIED CARD OF 'plaitlaw28.ModePaths'. -/
def modePathsCard : Claim7 := { stood := { row := modePathsRow, standIns := [], harness := (true, "24d0ee416c0e583bdd0290b1dd1589966253e4ea71db1825da0a09df02ec11b6"), looks := true }, kinds := [], alts := [], laidByText := true, laidKinds := [.handle], laidTests := true, laidLooks := .later }
def ModePathsCardSaid : Prop := Claim7.holds Tryd.pinned (.plain (OpenSpec.ofChange modePathsSpec)) modePathsCard

/-- THE TIED CARD OF 'plaitlaw28.ModeFronts'. -/
def modeFrontsCard : Claim7 := { stood := { row := modeFrontsRow, standIns := [], harness := (true, "24d0ee416c0e583bdd0290b1dd1589966253e4ea71db1825da0a09df02ec11b6"), looks := true }, kinds := [], alts := [], laidByText := true, laidKinds := [.handle], laidTests := true, laidLooks := .later }
def ModeFrontsCardSaid : Prop := Claim7.holds Tryd.pinned (.plain (OpenSpec.ofChange modeFrontsSpec)) modeFrontsCard

/-- THE TIED CARD OF 'plaitlaw28.ModeEnds'. -/
def modeEndsCard : Claim7 := { stood := { row := modeEndsRow, standIns := [], harness := (true, "24d0ee416c0e583bdd0290b1dd1589966253e4ea71db1825da0a09df02ec11b6"), looks := true }, kinds := [], alts := [], laidByText := true, laidKinds := [.handle], laidTests := true, laidLooks := .later }
def ModeEndsCardSaid : Prop := Claim7.holds Tryd.pinned (.plain (OpenSpec.ofChange modeEndsSpec)) modeEndsCard

/-- THE TIED CARD OF 'plaitlaw28.ModeTells'. -/
def modeTellsCard : Claim7 := { stood := { row := modeTellsRow, standIns := [], harness := (true, "24d0ee416c0e583bdd0290b1dd1589966253e4ea71db1825da0a09df02ec11b6"), looks := true }, kinds := [], alts := [], laidByText := true, laidKinds := [.handle], laidTests := true, laidLooks := .later }
def ModeTellsCardSaid : Prop := Claim7.holds Tryd.pinned (.plain (OpenSpec.ofChange modeTellsSpec)) modeTellsCard

/-- THE TIED CARD OF 'plaitlaw28.ModeFalls'. -/
def modeFallsCard : Claim7 := { stood := { row := modeFallsRow, standIns := [], harness := (true, "24d0ee416c0e583bdd0290b1dd1589966253e4ea71db1825da0a09df02ec11b6"), looks := true }, kinds := [], alts := [], laidByText := true, laidKinds := [.handle], laidTests := true, laidLooks := .later }
def ModeFallsCardSaid : Prop := Claim7.holds Tryd.pinned (.plain (OpenSpec.ofChange modeFallsSpec)) modeFallsCard

/-- THE TIED CARD OF 'plaitlaw28.ModeKnown'. -/
def modeKnownCard : Claim7 := { stood := { row := modeKnownRow, standIns := [], harness := (true, "24d0ee416c0e583bdd0290b1dd1589966253e4ea71db1825da0a09df02ec11b6"), looks := true }, kinds := [], alts := [], laidByText := true, laidKinds := [.handle], laidTests := true, laidLooks := .later }
def ModeKnownCardSaid : Prop := Claim7.holds Tryd.pinned (.plain (OpenSpec.ofChange modeKnownSpec)) modeKnownCard

/-- THE SECOND FORM's CARD OF 'plaitlaw28.ModePaths'. -/
def modePathsUptoCard : Claim7 := { stood := { row := modePathsUptoRow, standIns := [], harness := (true, "24d0ee416c0e583bdd0290b1dd1589966253e4ea71db1825da0a09df02ec11b6"), looks := true }, kinds := [], alts := [], laidByText := true, laidKinds := [.handle], laidTests := true, laidLooks := .later }
def ModePathsUptoCardSaid : Prop := Claim7.holds Tryd.pinned (.plain (OpenSpec.upto modePathsSpec)) modePathsUptoCard

/-- THE SECOND FORM's CARD OF 'plaitlaw28.ModeFronts'. -/
def modeFrontsUptoCard : Claim7 := { stood := { row := modeFrontsUptoRow, standIns := [], harness := (true, "24d0ee416c0e583bdd0290b1dd1589966253e4ea71db1825da0a09df02ec11b6"), looks := true }, kinds := [], alts := [], laidByText := true, laidKinds := [.handle], laidTests := true, laidLooks := .later }
def ModeFrontsUptoCardSaid : Prop := Claim7.holds Tryd.pinned (.plain (OpenSpec.upto modeFrontsSpec)) modeFrontsUptoCard

/-- THE SECOND FORM's CARD OF 'plaitlaw28.ModeEnds'. -/
def modeEndsUptoCard : Claim7 := { stood := { row := modeEndsUptoRow, standIns := [], harness := (true, "24d0ee416c0e583bdd0290b1dd1589966253e4ea71db1825da0a09df02ec11b6"), looks := true }, kinds := [], alts := [], laidByText := true, laidKinds := [.handle], laidTests := true, laidLooks := .later }
def ModeEndsUptoCardSaid : Prop := Claim7.holds Tryd.pinned (.plain (OpenSpec.upto modeEndsSpec)) modeEndsUptoCard

/-- THE SECOND FORM's CARD OF 'plaitlaw28.ModeTells'. -/
def modeTellsUptoCard : Claim7 := { stood := { row := modeTellsUptoRow, standIns := [], harness := (true, "24d0ee416c0e583bdd0290b1dd1589966253e4ea71db1825da0a09df02ec11b6"), looks := true }, kinds := [], alts := [], laidByText := true, laidKinds := [.handle], laidTests := true, laidLooks := .later }
def ModeTellsUptoCardSaid : Prop := Claim7.holds Tryd.pinned (.plain (OpenSpec.upto modeTellsSpec)) modeTellsUptoCard

/-- THE SECOND FORM's CARD OF 'plaitlaw28.ModeFalls'. -/
def modeFallsUptoCard : Claim7 := { stood := { row := modeFallsUptoRow, standIns := [], harness := (true, "24d0ee416c0e583bdd0290b1dd1589966253e4ea71db1825da0a09df02ec11b6"), looks := true }, kinds := [], alts := [], laidByText := true, laidKinds := [.handle], laidTests := true, laidLooks := .later }
def ModeFallsUptoCardSaid : Prop := Claim7.holds Tryd.pinned (.plain (OpenSpec.upto modeFallsSpec)) modeFallsUptoCard

/-- THE SECOND FORM's CARD OF 'plaitlaw28.ModeKnown'. -/
def modeKnownUptoCard : Claim7 := { stood := { row := modeKnownUptoRow, standIns := [], harness := (true, "24d0ee416c0e583bdd0290b1dd1589966253e4ea71db1825da0a09df02ec11b6"), looks := true }, kinds := [], alts := [], laidByText := true, laidKinds := [.handle], laidTests := true, laidLooks := .later }
def ModeKnownUptoCardSaid : Prop := Claim7.holds Tryd.pinned (.plain (OpenSpec.upto modeKnownSpec)) modeKnownUptoCard
end Rows
end Go.Proofs.YtcfahggmejpdbaaDoor
