/- What is proved: the law FlowMeets answers yes at every input, and the input reads behind the call as it did before. No conditions. -/
import Derived.Test.YtkfhbpjnnpgenaaRows
import Derived.Test.YtkfhbpjnnpgenaaFe
import Derived.Test.YtkfhbpjnnpgenaaAsZG
import Derived.WalkKit
import Derived.ProofKit
import Derived.OpenShut
import Derived.ShutString
import Derived.ChangeOld
import Derived.Below
import Derived.Carry
import Derived.SizedLaws
import Derived.WideKeyPair
namespace Go.Proofs.Ytkfhbpjnnpgenaa.flowMeets
open Go.ChangeShapes Go.WideShapes Go.ChangeAt Go.RowKit
open Go.ChangeMaps (open_string shut_string)
set_option linter.unusedVariables false
theorem own : ownKnob Try.prog.godebug = none := by kernel_rfl
theorem laidOut : laidOutB Try.prog = true := by kernel_rfl
set_option maxRecDepth 100000 in
theorem ran7 : AS.isTrue (AS.callN (AS.tabOf Try.prog) (400 + 1) (.func (.func 7) #[] #[]) [] AS.A0) = true := by decide +kernel
theorem tab : AS.TabOk Try.prog T := AS.tabYes_ok fun f hf => by
  rw [List.mem_singleton] at hf
  subst hf
  exact AS.closed_yes (Checked.mixed Try.checked) 400 7 ran7
theorem arr23 : Go.WideMaps.ArrKey Try.prog 23 22 2 := ⟨Try.underlying23, by kernel_rfl, by kernel_rfl, by kernel_rfl⟩
theorem nat32 {n : Int} (h : (Lit.int .u32 n).wf = true) : 0 ≤ n ∧ n < 4294967296 := by
  have m0 : IntKind.min .u32 = 0 := by decide
  have m1 : IntKind.max .u32 = 4294967295 := by decide
  simp only [Lit.wf, Bool.and_eq_true, decide_eq_true_eq, m0, m1] at h
  omega
theorem nat8 {n : Int} (h : (Lit.int .u8 n).wf = true) : 0 ≤ n ∧ n < 256 := by
  have m0 : IntKind.min .u8 = 0 := by decide
  have m1 : IntKind.max .u8 = 255 := by decide
  simp only [Lit.wf, Bool.and_eq_true, decide_eq_true_eq, m0, m1] at h
  omega
set_option maxRecDepth 100000 in
theorem lifted (os : Os) (started : os.Started) (H : Type) (enc : TypeId × Value → H) :
    ReturnsInHanded {} Try.checked os 3 .any (Rows.flowMeetsSpec.pre6 enc Try.prog Try.f3 Rows.flowMeetsRow.domain false) (Rows.flowMeetsSpec.post enc Try.prog Try.f3 false true false false) := by
  refine returnsInHanded_of_change_sized (C := Try.checked) own started (by kernel_rfl) Try.func3
    (ChangeSpec.witness6 (enc := enc) (C := Try.checked) false ⟨#[], #[.agg #[.int .u32 0, .int .u32 0], .int .u8 0, .int .u32 0], []⟩ 8 (by kernel_rfl) (by kernel_rfl) (by kernel_rfl) (by kernel_rfl)) ?_
  intro W base args ds gs before hval0 hW hcnd hsz0 _
  have hsz : (DataW.weightsEach Try.prog (Try.f3.params.toList ++ Rows.flowMeetsSpec.plain.varTypes Try.prog) (ds ++ gs)).all (· ≤ reachBytes) = true := hsz0
  have hval : ∀ (j : Nat) t v, Try.f3.params[j]? = some t → args[j]? = some v → Value.okWide Try.prog W .any base t v := hval0
  have hW' := hW
  obtain ⟨p, q, hA0, hV, rfl, hfz, hnd⟩ := hW
  have hA : DataW.TrodAll enc Try.prog W 0 (fun _ => true) true Try.f3.params.toList args.toList ds p := hA0
  rw [Try.params3] at hA hval hsz
  obtain ⟨v0, vs0, d0, ds0, p0, q0, hargs, rfl, rfl, h0, r0⟩ := trodAll_cons hA
  obtain ⟨v1, vs1, d1, ds1, p1, q1, rfl, rfl, rfl, h1, r1⟩ := trodAll_cons r0
  obtain ⟨v2, vs2, d2, ds2, p2, q2, rfl, rfl, rfl, h2, r2⟩ := trodAll_cons r1
  obtain ⟨rfl, rfl, rfl⟩ := trodAll_nil r2
  obtain rfl : args = #[v0, v1, v2] := by cases args; simp_all
  obtain ⟨rfl, rfl⟩ := trodVars_none hV
  obtain ⟨x0a, x0b, rfl, rfl, rfl, w0a, w0b⟩ := Go.WideMaps.open_pair arr23 Try.underlying22 (hval 0 23 v0 rfl rfl) h0
  obtain ⟨x1, rfl, rfl, rfl, w1⟩ := open_int Try.underlying5 (hval 1 5 v1 rfl rfl) h1
  obtain ⟨x2, rfl, rfl, rfl, w2⟩ := open_int Try.underlying22 (hval 2 22 v2 rfl rfl) h2
  have g0 := AS.Args.agg (AS.Args.nil (P := Try.prog) (w := W)) (l := [.int .u32 x0a, .int .u32 x0b]) (fun v hv => by
    simp only [List.mem_cons, List.not_mem_nil, or_false] at hv
    rcases hv with hv | hv <;> (subst hv; exact AS.Plain.int _ _))
  have g1 := AS.Args.plain (g0) (AS.Plain.int .u8 x1)
  have g2 := AS.Args.plain (g1) (AS.Plain.int .u32 x2)
  have hw := meets_law x0a x0b x1 x2 AS.A00 (nat32 w0a) (nat32 w0b) (nat8 w1) (nat32 w2)
  refine (g2.calls tab (Checked.mixed Try.checked) hw).mono fun e W' ⟨he, bel⟩ => ?_
  subst he
  exact ⟨_, rfl, _, _, _, [], _, [], hW', trodAll_mk1 (shut_bool Try.underlying4 _), (trodAll_cons_mk (Go.WideMaps.shut_pair arr23 Try.underlying22 w0a w0b) (trodAll_cons_mk (shut_int Try.underlying5 w1) (trodAll_cons_mk (shut_int Try.underlying22 w2) trodAll_mk0))), rfl, bel.frame _, fun h => by cases h⟩
theorem over : Rows.flowMeetsRow.holds Try.pinned (OpenSpec.ofChange Rows.flowMeetsSpec) :=
  OpenClaim.holds_of_wide 3 Try.f3 rfl rfl rfl rfl rfl rfl rfl ⟨rfl, rfl, rfl, rfl, rfl⟩ rfl rfl rfl rfl rfl (by kernel_rfl) Try.func3 (by kernel_rfl)
    (of_decide_eq_true (by kernel_rfl)) (by unfold Func.isWrapper; first | (rw [if_pos (by decide +kernel)]; kernel_rfl) | (rw [if_neg (by decide +kernel)]; exact ⟨rfl, rfl⟩))
    (fun os started H enc _ => lifted os started H enc)
theorem proved : Rows.FlowMeetsSaid := over
#print axioms proved
end Go.Proofs.Ytkfhbpjnnpgenaa.flowMeets
namespace Go.Proofs.Ytkfhbpjnnpgenaa
/-- The row, under a short name, for the claim. -/
theorem flowMeets_holds : Rows.FlowMeetsSaid := flowMeets.proved
end Go.Proofs.Ytkfhbpjnnpgenaa
