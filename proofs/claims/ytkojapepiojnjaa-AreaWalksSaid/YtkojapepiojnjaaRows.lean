/-
  No cell of these rows narrows 'for every input' (looked for: loops, veiled, ifaces, maps, wideKeys, modest, calm, conditions, laid).
  DERIVED. THE GIVEN ROWS OF THIS SEAT. 6 by the template 'for every input the law returns true; each argument reads behind the call as it read before'; 0 by the template 'total and deterministic' (their statements: YtkojapepiojnjaaTotals.lean).
  GIVEN WITH THE SEED: the statements are not yours to turn. If you find one false, say at which input.
  Laid BY PROGRAM, IN A SANDBOX (cutbox-rows.mjs): the forced cells as the released guide's own fill.sh prints them over the translation c3ee038147a59c34… (all of the seat's roots in one cut). By AI agents, Wed Nov 11 2026. No macro, syntax, notation, axiom, sorry.
-/
import Derived.Test.YtkojapepiojnjaaChecked
import GoSem.Claim
import GoSem.ClaimJoined
import GoSem.ClaimMapViews
import Derived.JoinedTies
import Derived.KernelRfl
namespace Go.Proofs.Ytkojapepiojnjaa
/- THE CELL 'sum', in the pinned program and in every row, IS THE sha256 OF THE DUMP (.gsa) THAT YtkojapepiojnjaaProg.lean LOADS. Nothing in Lean hashes anything: it is a label: what it is worth is what the hold of that sum in a sandbox is worth. -/
noncomputable def Try.pinned : Pinned := { name := "ytkojapepiojnjaa", sum := "c3ee038147a59c349ddf269d1c5cd056f4a28c0dc70ca0b1bfec38f9807b7793", checked := Try.checked }
namespace Rows
def none {H : Type} : Left H := { results := [], args := [] }

/-- 'plaitlaw04.AreaLays': WHATEVER THE INPUT: true; the input reads as it did. -/
def areaLaysSpec : ChangeSpec := { name := "areaLays", fn := fun _ => fun
  | [d1, d2] => { results := [.lit (.bool true)], args := [d1, d2] }
  | _ => none }
def areaLaysRow : OpenClaim := { program := "ytkojapepiojnjaa", sum := "c3ee038147a59c349ddf269d1c5cd056f4a28c0dc70ca0b1bfec38f9807b7793", func := "plait/plaitlaw04.AreaLays", spec := "areaLays", unfollowed := true, recurses := true, apart := false }
def AreaLaysSaid : Prop := areaLaysRow.holds Try.pinned (OpenSpec.ofChange areaLaysSpec)

/-- ITS FALSE NEIGHBOUR: 'it returns false'. Refute it at one input. -/
def areaLaysWrong : ChangeSpec := { name := "areaLays", fn := fun _ => fun
  | [d1, d2] => { results := [.lit (.bool false)], args := [d1, d2] }
  | _ => none }
def AreaLaysWrongFalsely : Prop := areaLaysRow.holds Try.pinned (OpenSpec.ofChange areaLaysWrong)

/-- 'plaitlaw04.AreaWalks': WHATEVER THE INPUT: true; the input reads as it did. -/
def areaWalksSpec : ChangeSpec := { name := "areaWalks", fn := fun _ => fun
  | [d1, d2, d3] => { results := [.lit (.bool true)], args := [d1, d2, d3] }
  | _ => none }
def areaWalksRow : OpenClaim := { program := "ytkojapepiojnjaa", sum := "c3ee038147a59c349ddf269d1c5cd056f4a28c0dc70ca0b1bfec38f9807b7793", func := "plait/plaitlaw04.AreaWalks", spec := "areaWalks", unfollowed := true, recurses := true, apart := false }
def AreaWalksSaid : Prop := areaWalksRow.holds Try.pinned (OpenSpec.ofChange areaWalksSpec)

/-- ITS FALSE NEIGHBOUR: 'it returns false'. Refute it at one input. -/
def areaWalksWrong : ChangeSpec := { name := "areaWalks", fn := fun _ => fun
  | [d1, d2, d3] => { results := [.lit (.bool false)], args := [d1, d2, d3] }
  | _ => none }
def AreaWalksWrongFalsely : Prop := areaWalksRow.holds Try.pinned (OpenSpec.ofChange areaWalksWrong)

/-- 'plaitlaw04.AreaBack': WHATEVER THE INPUT: true; the input reads as it did. -/
def areaBackSpec : ChangeSpec := { name := "areaBack", fn := fun _ => fun
  | [d1, d2] => { results := [.lit (.bool true)], args := [d1, d2] }
  | _ => none }
def areaBackRow : OpenClaim := { program := "ytkojapepiojnjaa", sum := "c3ee038147a59c349ddf269d1c5cd056f4a28c0dc70ca0b1bfec38f9807b7793", func := "plait/plaitlaw04.AreaBack", spec := "areaBack", unfollowed := true, recurses := true, apart := false }
def AreaBackSaid : Prop := areaBackRow.holds Try.pinned (OpenSpec.ofChange areaBackSpec)

/-- ITS FALSE NEIGHBOUR: 'it returns false'. Refute it at one input. -/
def areaBackWrong : ChangeSpec := { name := "areaBack", fn := fun _ => fun
  | [d1, d2] => { results := [.lit (.bool false)], args := [d1, d2] }
  | _ => none }
def AreaBackWrongFalsely : Prop := areaBackRow.holds Try.pinned (OpenSpec.ofChange areaBackWrong)

/-- 'plaitlaw04.AreaCanon': WHATEVER THE INPUT: true; the input reads as it did. -/
def areaCanonSpec : ChangeSpec := { name := "areaCanon", fn := fun _ => fun
  | [d] => { results := [.lit (.bool true)], args := [d] }
  | _ => none }
def areaCanonRow : OpenClaim := { program := "ytkojapepiojnjaa", sum := "c3ee038147a59c349ddf269d1c5cd056f4a28c0dc70ca0b1bfec38f9807b7793", func := "plait/plaitlaw04.AreaCanon", spec := "areaCanon", unfollowed := true, recurses := true, apart := false }
def AreaCanonSaid : Prop := areaCanonRow.holds Try.pinned (OpenSpec.ofChange areaCanonSpec)

/-- ITS FALSE NEIGHBOUR: 'it returns false'. Refute it at one input. -/
def areaCanonWrong : ChangeSpec := { name := "areaCanon", fn := fun _ => fun
  | [d] => { results := [.lit (.bool false)], args := [d] }
  | _ => none }
def AreaCanonWrongFalsely : Prop := areaCanonRow.holds Try.pinned (OpenSpec.ofChange areaCanonWrong)

/-- 'plaitlaw04.AreaAlike': WHATEVER THE INPUT: true; the input reads as it did. -/
def areaAlikeSpec : ChangeSpec := { name := "areaAlike", fn := fun _ => fun
  | [d1, d2, d3] => { results := [.lit (.bool true)], args := [d1, d2, d3] }
  | _ => none }
def areaAlikeRow : OpenClaim := { program := "ytkojapepiojnjaa", sum := "c3ee038147a59c349ddf269d1c5cd056f4a28c0dc70ca0b1bfec38f9807b7793", func := "plait/plaitlaw04.AreaAlike", spec := "areaAlike", unfollowed := true, recurses := true, apart := false }
def AreaAlikeSaid : Prop := areaAlikeRow.holds Try.pinned (OpenSpec.ofChange areaAlikeSpec)

/-- ITS FALSE NEIGHBOUR: 'it returns false'. Refute it at one input. -/
def areaAlikeWrong : ChangeSpec := { name := "areaAlike", fn := fun _ => fun
  | [d1, d2, d3] => { results := [.lit (.bool false)], args := [d1, d2, d3] }
  | _ => none }
def AreaAlikeWrongFalsely : Prop := areaAlikeRow.holds Try.pinned (OpenSpec.ofChange areaAlikeWrong)

/-- 'plaitlaw04.AreaKnown': WHATEVER THE INPUT: true; the input reads as it did. -/
def areaKnownSpec : ChangeSpec := { name := "areaKnown", fn := fun _ => fun
  | [] => { results := [.lit (.bool true)], args := [] }
  | _ => none }
def areaKnownRow : OpenClaim := { program := "ytkojapepiojnjaa", sum := "c3ee038147a59c349ddf269d1c5cd056f4a28c0dc70ca0b1bfec38f9807b7793", func := "plait/plaitlaw04.AreaKnown", spec := "areaKnown", unfollowed := true, recurses := true, apart := false }
def AreaKnownSaid : Prop := areaKnownRow.holds Try.pinned (OpenSpec.ofChange areaKnownSpec)

/-- ITS FALSE NEIGHBOUR: 'it returns false'. Refute it at one input. -/
def areaKnownWrong : ChangeSpec := { name := "areaKnown", fn := fun _ => fun
  | [] => { results := [.lit (.bool false)], args := [] }
  | _ => none }
def AreaKnownWrongFalsely : Prop := areaKnownRow.holds Try.pinned (OpenSpec.ofChange areaKnownWrong)

/- THE SECOND FORM. 'bulk': how many values and letters a reading holds, each counted each time it is reached (what is shared counts as often as it is met; a slice's spare places count too). A statement '..UptoSaid' is the law's where the arguments, and the package variables that the reading takes, are together of bulk at most 1048576: NARROWER than '..Said'. Prove '..Said' where nothing that the law and all that it calls make is longer than what came in: it says more and counts as full. Else prove '..UptoSaid'. A law counts once. -/
mutual
def uptoBulk {H : Type} : DataW H → Nat
  | .lit (.string bytes) => bytes.length + 1
  | .lit _ => 1
  | .nil => 1
  | .ptr d => uptoBulk d + 1
  | .slice elems spare => uptoBulkAll elems + uptoBulkAll spare + 1
  | .agg parts => uptoBulkAll parts + 1
  | .iface _ d => uptoBulk d + 1
  | .map entries => uptoBulkEntries entries + 1
  | .held _ => 1
def uptoBulkAll {H : Type} : List (DataW H) → Nat
  | [] => 0
  | d :: r => uptoBulk d + uptoBulkAll r
def uptoBulkEntries {H : Type} : List (Lit × DataW H) → Nat
  | [] => 0
  | x :: r => uptoBulkEntry x + uptoBulkEntries r
def uptoBulkEntry {H : Type} : Lit × DataW H → Nat
  | (.string bytes, d) => bytes.length + uptoBulk d + 1
  | (_, d) => uptoBulk d + 1
 end
def uptoSmall : (H : Type) → List (DataW H) → Bool := fun _ ds => decide (uptoBulkAll ds ≤ 1048576)
def OpenSpec.upto (s : _root_.Go.ChangeSpec) : _root_.Go.OpenSpec := { _root_.Go.OpenSpec.ofChange s with cond := some uptoSmall }

/-- 'plaitlaw04.AreaLays', WHERE WHAT IT READS IS OF BULK AT MOST 1048576: true; the input reads as it did. -/
def areaLaysUptoRow : OpenClaim := { program := "ytkojapepiojnjaa", sum := "c3ee038147a59c349ddf269d1c5cd056f4a28c0dc70ca0b1bfec38f9807b7793", func := "plait/plaitlaw04.AreaLays", spec := "areaLays", unfollowed := true, recurses := true, apart := false, narrowed := true }
def AreaLaysUptoSaid : Prop := areaLaysUptoRow.holds Try.pinned (OpenSpec.upto areaLaysSpec)

/-- 'plaitlaw04.AreaWalks', WHERE WHAT IT READS IS OF BULK AT MOST 1048576: true; the input reads as it did. -/
def areaWalksUptoRow : OpenClaim := { program := "ytkojapepiojnjaa", sum := "c3ee038147a59c349ddf269d1c5cd056f4a28c0dc70ca0b1bfec38f9807b7793", func := "plait/plaitlaw04.AreaWalks", spec := "areaWalks", unfollowed := true, recurses := true, apart := false, narrowed := true }
def AreaWalksUptoSaid : Prop := areaWalksUptoRow.holds Try.pinned (OpenSpec.upto areaWalksSpec)

/-- 'plaitlaw04.AreaBack', WHERE WHAT IT READS IS OF BULK AT MOST 1048576: true; the input reads as it did. -/
def areaBackUptoRow : OpenClaim := { program := "ytkojapepiojnjaa", sum := "c3ee038147a59c349ddf269d1c5cd056f4a28c0dc70ca0b1bfec38f9807b7793", func := "plait/plaitlaw04.AreaBack", spec := "areaBack", unfollowed := true, recurses := true, apart := false, narrowed := true }
def AreaBackUptoSaid : Prop := areaBackUptoRow.holds Try.pinned (OpenSpec.upto areaBackSpec)

/-- 'plaitlaw04.AreaCanon', WHERE WHAT IT READS IS OF BULK AT MOST 1048576: true; the input reads as it did. -/
def areaCanonUptoRow : OpenClaim := { program := "ytkojapepiojnjaa", sum := "c3ee038147a59c349ddf269d1c5cd056f4a28c0dc70ca0b1bfec38f9807b7793", func := "plait/plaitlaw04.AreaCanon", spec := "areaCanon", unfollowed := true, recurses := true, apart := false, narrowed := true }
def AreaCanonUptoSaid : Prop := areaCanonUptoRow.holds Try.pinned (OpenSpec.upto areaCanonSpec)

/-- 'plaitlaw04.AreaAlike', WHERE WHAT IT READS IS OF BULK AT MOST 1048576: true; the input reads as it did. -/
def areaAlikeUptoRow : OpenClaim := { program := "ytkojapepiojnjaa", sum := "c3ee038147a59c349ddf269d1c5cd056f4a28c0dc70ca0b1bfec38f9807b7793", func := "plait/plaitlaw04.AreaAlike", spec := "areaAlike", unfollowed := true, recurses := true, apart := false, narrowed := true }
def AreaAlikeUptoSaid : Prop := areaAlikeUptoRow.holds Try.pinned (OpenSpec.upto areaAlikeSpec)

/-- 'plaitlaw04.AreaKnown', WHERE WHAT IT READS IS OF BULK AT MOST 1048576: true; the input reads as it did. -/
def areaKnownUptoRow : OpenClaim := { program := "ytkojapepiojnjaa", sum := "c3ee038147a59c349ddf269d1c5cd056f4a28c0dc70ca0b1bfec38f9807b7793", func := "plait/plaitlaw04.AreaKnown", spec := "areaKnown", unfollowed := true, recurses := true, apart := false, narrowed := true }
def AreaKnownUptoSaid : Prop := areaKnownUptoRow.holds Try.pinned (OpenSpec.upto areaKnownSpec)

end Rows
end Go.Proofs.Ytkojapepiojnjaa
