/- What is proved: the law AreaBack answers yes at every input, and the input reads behind the call as it did before. No conditions. -/
import Derived.Test.YtkojapepiojnjaaRows
import Derived.Test.YtkojapepiojnjaaQi
import Derived.Test.YtkojapepiojnjaaAsZG
import Derived.WalkKit
import Derived.ProofKit
import Derived.OpenShut
import Derived.ShutString
import Derived.ChangeOld
import Derived.Below
import Derived.Carry
import Derived.SizedLaws
namespace Go.Proofs.Ytkojapepiojnjaa.areaBack
open Go.ChangeShapes Go.WideShapes Go.ChangeAt Go.RowKit
open Go.ChangeMaps (open_string shut_string)
set_option linter.unusedVariables false
theorem own : ownKnob Try.prog.godebug = none := by kernel_rfl
theorem laidOut : laidOutB Try.prog = true := by kernel_rfl
set_option maxRecDepth 100000 in
theorem ran12 : AS.isTrue (AS.callN (AS.tabOf Try.prog) (400 + 1) (.func (.func 12) #[] #[]) [] AS.A0) = true := by decide +kernel
theorem tab : AS.TabOk Try.prog T := AS.tabYes_ok fun f hf => by
  rw [List.mem_singleton] at hf
  subst hf
  exact AS.closed_yes (Checked.mixed Try.checked) 400 12 ran12
theorem elemD : AS.ElemOk Try.prog 53 [.int .u8, .str] := AS.elemOk_struct Try.underlying53 (by kernel_rfl) fun i p hp => by
  match i, hp with
  | 0, hp => cases hp; exact ⟨_, rfl, rfl, AS.elemOk_int Try.underlying5 (by kernel_rfl)⟩
  | 1, hp => cases hp; exact ⟨_, rfl, rfl, AS.elemOk_string Try.underlying9 (by kernel_rfl)⟩
  | n + 2, hp => simp at hp
theorem nat8 {n : Int} (h : (Lit.int .u8 n).wf = true) : ∃ k : Nat, n = k ∧ k < 256 := by
  have m0 : IntKind.min .u8 = 0 := by decide
  have m1 : IntKind.max .u8 = 255 := by decide
  simp only [Lit.wf, Bool.and_eq_true, decide_eq_true_eq, m0, m1] at h
  exact ⟨n.toNat, by omega, by omega⟩
theorem readD {rows : List (List Value)} (h : ∀ r ∈ rows, AS.Oks [.int .u8, .str] r) : ∃ ds : List Dr, ds.length = rows.length ∧ rows.flatten = dcells ds ∧ ∀ x ∈ ds, x.kind < 256 := by
  obtain ⟨l, h1, h2, h3⟩ := AS.rows_as (fun d : Dr => [.int .u8 (d.kind : Int), .string d.body]) (fun d => d.kind < 256) (fun r hr => by
    match r, hr with
    | [v, w], hr =>
      obtain ⟨n, rfl, hn⟩ := hr.1
      obtain ⟨s, rfl, _⟩ := hr.2.1
      obtain ⟨k, rfl, hk⟩ := nat8 hn
      exact ⟨⟨k, s⟩, rfl, hk⟩) rows h
  exact ⟨l, h1, h2, h3⟩
set_option maxRecDepth 100000 in
theorem lifted (os : Os) (started : os.Started) (H : Type) (enc : TypeId × Value → H) :
    ReturnsInHanded {} Try.checked os 5 .any (Rows.areaBackSpec.pre6 enc Try.prog Try.f5 Rows.areaBackRow.domain false) (Rows.areaBackSpec.post enc Try.prog Try.f5 false true false false) := by
  refine returnsInHanded_of_change_sized (C := Try.checked) own started (by kernel_rfl) Try.func5
    (ChangeSpec.witness6 (enc := enc) (C := Try.checked) false ⟨#[], #[.slice none 0 0, .int .u8 0], []⟩ 8 (by kernel_rfl) (by kernel_rfl) (by kernel_rfl) (by kernel_rfl)) ?_
  intro W base args ds gs before hval0 hW hcnd hsz0 _
  have hsz : (DataW.weightsEach Try.prog (Try.f5.params.toList ++ Rows.areaBackSpec.plain.varTypes Try.prog) (ds ++ gs)).all (· ≤ reachBytes) = true := hsz0
  have hval : ∀ (j : Nat) t v, Try.f5.params[j]? = some t → args[j]? = some v → Value.okWide Try.prog W .any base t v := hval0
  have hW' := hW
  obtain ⟨p, q, hA0, hV, rfl, hfz, hnd⟩ := hW
  have hA : DataW.TrodAll enc Try.prog W 0 (fun _ => true) true Try.f5.params.toList args.toList ds p := hA0
  rw [Try.params5] at hA hval hsz
  obtain ⟨v0, vs0, d0, ds0, p0, q0, hargs, rfl, rfl, h0, r0⟩ := trodAll_cons hA
  obtain ⟨v1, vs1, d1, ds1, p1, q1, rfl, rfl, rfl, h1, r1⟩ := trodAll_cons r0
  obtain ⟨rfl, rfl, rfl⟩ := trodAll_nil r1
  obtain rfl : args = #[v0, v1] := by cases args; simp_all
  obtain ⟨rfl, rfl⟩ := trodVars_none hV
  have lt0 : ∀ x ∈ p0, x.block < W.heap.size := by obtain ⟨m, hm⟩ := h0; exact DataW.trod_lt m _ _ _ hm
  obtain ⟨rows0, k0, w0⟩ := AS.open_rows Try.underlying39 elemD (hval 0 39 v0 rfl rfl) h0
  obtain ⟨x0, n0, f0, b0⟩ := readD k0
  rw [← n0, f0] at w0
  obtain ⟨x1, rfl, rfl, rfl, w1⟩ := open_int Try.underlying5 (hval 1 5 v1 rfl rfl) h1
  obtain ⟨ρ0, A0, u0, g0, e0, s0, l0⟩ := AS.Args.row (AS.Args.nil (P := Try.prog) (w := W)) w0 (by decide)
  have g1 := AS.Args.plain (g0) (AS.Plain.int .u8 x1)
  have hw := (by obtain ⟨k, hk, hk2⟩ := nat8 w1; subst hk; exact back_ok x0 k hk2 u0 A0 s0 b0 : AS.wF T (.func (.func 5) #[] #[]) [u0, .int .u8 x1] A0 (fun v _ => v = .bool true))
  refine (g1.calls tab (Checked.mixed Try.checked) hw).mono fun e W' ⟨he, bel⟩ => ?_
  subst he
  exact ⟨_, rfl, _, _, _, [], _, [], hW', trodAll_mk1 (shut_bool Try.underlying4 _), (trodAll_cons_mk (Below.trod laidOut (by kernel_rfl) (of_decide_eq_true (by kernel_rfl)) h0 bel lt0) (trodAll_cons_mk (shut_int Try.underlying5 w1) trodAll_mk0)), rfl, bel.frame _, fun h => by cases h⟩
theorem over : Rows.areaBackRow.holds Try.pinned (OpenSpec.ofChange Rows.areaBackSpec) :=
  OpenClaim.holds_of_wide 5 Try.f5 rfl rfl rfl rfl rfl rfl rfl ⟨rfl, rfl, rfl, rfl, rfl⟩ rfl rfl rfl rfl rfl (by kernel_rfl) Try.func5 (by kernel_rfl)
    (of_decide_eq_true (by kernel_rfl)) (by unfold Func.isWrapper; first | (rw [if_pos (by decide +kernel)]; kernel_rfl) | (rw [if_neg (by decide +kernel)]; exact ⟨rfl, rfl⟩))
    (fun os started H enc _ => lifted os started H enc)
theorem proved : Rows.AreaBackSaid := over
#print axioms proved
end Go.Proofs.Ytkojapepiojnjaa.areaBack
namespace Go.Proofs.Ytkojapepiojnjaa
/-- The row, under a short name, for the claim. -/
theorem areaBack_holds : Rows.AreaBackSaid := areaBack.proved
end Go.Proofs.Ytkojapepiojnjaa
