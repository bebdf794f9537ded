/- The table of stage 14. -/
import Derived.Test.YtigknpfjhegkgaaGreatDoorEi
set_option linter.unusedSimpArgs false
set_option linter.unusedVariables false
namespace Go.Proofs.YtigknpfjhegkgaaGreatDoor
open Go Go.AS
set_option maxRecDepth 100000
/-- The table. -/
noncomputable def T : FTab := tabAll Tryz.prog [(35, 0, [174, 93, 31, 97, 0, 31, 97], true), (170, 2, [], true), (14, 1, [174, 93], false)] [(149, s149), (152, s152), (154, s154), (156, s156)]
theorem tabT : TabOk Tryz.prog T := tabAll_ok (fun e he => by
  rcases List.mem_cons.1 he with he | he
  · subst he
    exact as_spec
  · rcases List.mem_cons.1 he with he | he
    · subst he
      exact join_spec
    · rw [List.mem_singleton] at he
      subst he
      exact works_spec) (fun e he => by
  rcases List.mem_cons.1 he with he | he
  · subst he; exact s149_ok
  · rcases List.mem_cons.1 he with he | he
    · subst he; exact s152_ok
    · rcases List.mem_cons.1 he with he | he
      · subst he; exact s154_ok
      · rw [List.mem_singleton] at he
        subst he; exact s156_ok)
theorem t35 : T 35 = some (specFn 0 [174, 93, 31, 97, 0, 31, 97] true) := by kernel_rfl
theorem t170 : T 170 = some (specFn 2 [] true) := by kernel_rfl
theorem t14 : T 14 = some (specFn 1 [174, 93] false) := by kernel_rfl
theorem t149 : T 149 = some s149 := by kernel_rfl
theorem t152 : T 152 = some s152 := by kernel_rfl
theorem t154 : T 154 = some s154 := by kernel_rfl
theorem t156 : T 156 = some s156 := by kernel_rfl
end Go.Proofs.YtigknpfjhegkgaaGreatDoor
