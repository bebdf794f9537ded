/- The functions' table. -/
import Derived.Test.YtidgbapgedegbaaM3
import Derived.Test.YtidgbapgedegbaaChecked
import Derived.KernelRfl
namespace Go.Proofs.Ytidgbapgedegbaa
open Go Go.AS
set_option maxRecDepth 100000
noncomputable def T : FTab := tabYes Try.prog [14, 29, 40]
theorem t14 : T 14 = some sayYes := by kernel_rfl
theorem t29 : T 29 = some sayYes := by kernel_rfl
theorem t40 : T 40 = some sayYes := by kernel_rfl
end Go.Proofs.Ytidgbapgedegbaa
