/- What is known of this stage's closed functions. -/
import Derived.Test.YtigknpfjhegkgaaGreatDoorEg
import Derived.Test.YtigknpfjhegkgaaGreatDoorEh
set_option linter.unusedSimpArgs false
set_option linter.unusedVariables false
namespace Go.Proofs.YtigknpfjhegkgaaGreatDoor
open Go Go.AS
set_option maxRecDepth 100000
noncomputable def T0 : FTab := tabAll Tryz.prog [(35, 0, [174, 93, 31, 97, 0, 31, 97], true), (170, 2, [], true)] [(149, s149), (152, s152), (154, s154), (156, s156)]
theorem tabT0 : TabOk Tryz.prog T0 := tabAll_ok (fun e he => by
  rcases List.mem_cons.1 he with he | he
  · subst he
    exact as_spec
  · rw [List.mem_singleton] at he
    subst he
    exact join_spec) (fun e he => by
  rcases List.mem_cons.1 he with he | he
  · subst he; exact s149_ok
  · rcases List.mem_cons.1 he with he | he
    · subst he; exact s152_ok
    · rcases List.mem_cons.1 he with he | he
      · subst he; exact s154_ok
      · rw [List.mem_singleton] at he
        subst he; exact s156_ok)
set_option maxRecDepth 1000000 in
theorem ran14 : isTrue (callN T0 (400 + 1) (.func (.func 14) #[] #[]) [] (A0E 174 93)) = true := by decide +kernel
theorem works_spec : SpecOk Tryz.prog 14 1 [174, 93] false := closed_known tabT0 (Checked.mixed Tryz.checked) 400 14 ran14
end Go.Proofs.YtigknpfjhegkgaaGreatDoor
