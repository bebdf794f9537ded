/- The table of stage 15. -/
import Derived.Test.YtigknpfjhegkgaaGreatEg
import Derived.Test.YtigknpfjhegkgaaGreatChecked
import Derived.KernelRfl
set_option linter.unusedSimpArgs false
set_option linter.unusedVariables false
namespace Go.Proofs.YtigknpfjhegkgaaGreat
open Go Go.AS
set_option maxRecDepth 100000
/-- The table. -/
noncomputable def T : FTab := tabAll Tryz.prog [(139, 2, [], true)] []
theorem tabT : TabOk Tryz.prog T := tabAll_ok (fun e he => by
  rw [List.mem_singleton] at he
  subst he
  exact join_spec) (fun e he => by cases he)
theorem t139 : T 139 = some (specFn 2 [] true) := by kernel_rfl
end Go.Proofs.YtigknpfjhegkgaaGreat
