/- A text of this claim. -/
import Derived.Test.YtigknpfjhegkgaaGreatDoorScm
import Derived.Test.YtigknpfjhegkgaaGreatDoorNh
set_option linter.unusedSimpArgs false
set_option linter.unusedVariables false
namespace Go.Proofs.YtigknpfjhegkgaaGreatDoor
open Go Go.AS
set_option maxRecDepth 100000
theorem readDs {rows:List (List Value)} (h:∀ r ∈ rows,Oks shD r):∃ l:List Dr,l.length=rows.length∧rows.flatten=drC l∧∀ d ∈ l,d.W∧d.opt.W:=by
 obtain ⟨l,h1,h2,h3⟩:=rows_as Dr.cells (fun d=>d.W) (fun r hr=>readD hr) rows h
 exact ⟨l,h1,h2,fun d hd=>⟨h3 d hd,(h3 d hd).opt⟩⟩
end Go.Proofs.YtigknpfjhegkgaaGreatDoor
