/- The closed functions say yes. -/
import Derived.Test.YtidgbapgedegbaaTab
import Derived.Test.YtidgbapgedegbaaM3
namespace Go.Proofs.Ytidgbapgedegbaa
open Go
set_option maxRecDepth 100000 in
theorem ran16 : AS.isTrue (AS.callN (AS.tabOf Try.prog) (400 + 1) (.func (.func 14) #[] #[]) [] AS.A0) = true := by decide +kernel
set_option maxRecDepth 100000 in
theorem ran20 : AS.isTrue (AS.callN (AS.tabOf Try.prog) (400 + 1) (.func (.func 29) #[] #[]) [] AS.A0) = true := by decide +kernel
set_option maxRecDepth 100000 in
theorem ran26 : AS.isTrue (AS.callN (AS.tabOf Try.prog) (400 + 1) (.func (.func 40) #[] #[]) [] AS.A0) = true := by decide +kernel
theorem tab : AS.TabOk Try.prog T := AS.tabYes_ok fun f hf => by
  simp only [List.mem_cons, List.not_mem_nil, or_false] at hf
  rcases hf with rfl | rfl | rfl
  · exact AS.closed_yes (Checked.mixed Try.checked) 400 14 ran16
  · exact AS.closed_yes (Checked.mixed Try.checked) 400 29 ran20
  · exact AS.closed_yes (Checked.mixed Try.checked) 400 40 ran26
end Go.Proofs.Ytidgbapgedegbaa
