/- The table of stage 28. -/
import Derived.Test.YtcfahggmejpdbaaDoorEh
namespace Go.Proofs.YtcfahggmejpdbaaDoor
open Go Go.AS
set_option maxRecDepth 100000
/-- The table. -/
noncomputable def T : FTab := tabKnown Tryd.prog [(28, 0, [101, 41, 70, 72, 1, 70, 80], true), (9, 1, [101, 41], false)]
theorem tabT : TabOk Tryd.prog T := tabKnown_ok fun e he => by
  rcases List.mem_cons.1 he with he | he
  · subst he
    exact as_spec
  · rw [List.mem_singleton] at he
    subst he
    exact works_spec
theorem t28 : T 28 = some (specFn 0 [101, 41, 70, 72, 1, 70, 80] true) := by kernel_rfl
theorem t9 : T 9 = some (specFn 1 [101, 41] false) := by kernel_rfl
end Go.Proofs.YtcfahggmejpdbaaDoor
