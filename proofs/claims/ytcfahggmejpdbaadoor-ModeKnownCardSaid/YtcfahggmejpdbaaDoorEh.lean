/- The closed functions of stage 28. -/
import Derived.Test.YtcfahggmejpdbaaDoorM3
import Derived.Test.YtcfahggmejpdbaaDoorEg
import Derived.Test.YtcfahggmejpdbaaDoorChecked
namespace Go.Proofs.YtcfahggmejpdbaaDoor
open Go Go.AS
set_option maxRecDepth 100000
theorem tab1 : TabOk Tryd.prog (tabKnown Tryd.prog [(28, 0, [101, 41, 70, 72, 1, 70, 80], true)]) := tabKnown_ok fun e he => by
  rw [List.mem_singleton] at he
  subst he
  exact as_spec
theorem ran9 : isTrue (callN (tabKnown Tryd.prog [(28, 0, [101, 41, 70, 72, 1, 70, 80], true)]) (400 + 1) (.func (.func 9) #[] #[]) [] (A0E 101 41)) = true := by decide +kernel
theorem works_spec : SpecOk Tryd.prog 9 1 [101, 41] false := closed_known tab1 (Checked.mixed Tryd.checked) 400 9 ran9
end Go.Proofs.YtcfahggmejpdbaaDoor
