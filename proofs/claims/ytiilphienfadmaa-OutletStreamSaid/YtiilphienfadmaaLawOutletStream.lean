/- What is proved: the law OutletStream answers yes at every input, and the input reads behind the call as it did before. No conditions. -/
import Derived.Test.YtiilphienfadmaaRows
import Derived.Test.YtiilphienfadmaaPf
import Derived.Test.YtiilphienfadmaaAsZG
import Derived.WalkKit
import Derived.ProofKit
import Derived.OpenShut
import Derived.ShutString
import Derived.ChangeOld
import Derived.Below
import Derived.Carry
import Derived.SizedLaws
namespace Go.Proofs.Ytiilphienfadmaa.outletStream
open Go.ChangeShapes Go.WideShapes Go.ChangeAt Go.RowKit
open Go.ChangeMaps (open_string shut_string)
set_option linter.unusedVariables false
theorem own : ownKnob Try.prog.godebug = none := by kernel_rfl
theorem laidOut : laidOutB Try.prog = true := by kernel_rfl
set_option maxRecDepth 100000 in
theorem ran7 : AS.isTrue (AS.callN (AS.tabOf Try.prog) (400 + 1) (.func (.func 7) #[] #[]) [] AS.A0) = true := by decide +kernel
theorem tab : AS.TabOk Try.prog T := AS.tabYes_ok fun f hf => by
  rw [List.mem_singleton] at hf
  subst hf
  exact AS.closed_yes (Checked.mixed Try.checked) 400 7 ran7
theorem read0 {rows : List (List Value)} (h : ∀ r ∈ rows, AS.Oks [.str] r) : ∃ ss : List ByteArray, ss.length = rows.length ∧ rows.flatten = strs ss ∧ True := by
  obtain ⟨l, h1, h2, _⟩ := AS.rows_as (fun s : ByteArray => [.string s]) (fun _ => True) (fun r hr => by
    match r, hr with
    | [v], hr => obtain ⟨s, rfl, _⟩ := hr.1; exact ⟨s, rfl, trivial⟩) rows h
  exact ⟨l, h1, by rw [h2]; simp [strs, List.map_eq_flatMap], trivial⟩
theorem nat16 {n : Int} (h : (Lit.int .u16 n).wf = true) : ∃ k : Nat, n = k ∧ k < 65536 := by
  have m0 : IntKind.min .u16 = 0 := by decide
  have m1 : IntKind.max .u16 = 65535 := by decide
  simp only [Lit.wf, Bool.and_eq_true, decide_eq_true_eq, m0, m1] at h
  exact ⟨n.toNat, by omega, by omega⟩
set_option maxRecDepth 100000 in
theorem lifted (os : Os) (started : os.Started) (H : Type) (enc : TypeId × Value → H) :
    ReturnsInHanded {} Try.checked os 4 .any (Rows.outletStreamSpec.pre6 enc Try.prog Try.f4 Rows.outletStreamRow.domain false) (Rows.outletStreamSpec.post enc Try.prog Try.f4 false true false false) := by
  refine returnsInHanded_of_change_sized (C := Try.checked) own started (by kernel_rfl) Try.func4
    (ChangeSpec.witness6 (enc := enc) (C := Try.checked) false ⟨#[], #[.slice none 0 0, .int .u16 0], []⟩ 8 (by kernel_rfl) (by kernel_rfl) (by kernel_rfl) (by kernel_rfl)) ?_
  intro W base args ds gs before hval0 hW hcnd hsz0 _
  have hsz : (DataW.weightsEach Try.prog (Try.f4.params.toList ++ Rows.outletStreamSpec.plain.varTypes Try.prog) (ds ++ gs)).all (· ≤ reachBytes) = true := hsz0
  have hval : ∀ (j : Nat) t v, Try.f4.params[j]? = some t → args[j]? = some v → Value.okWide Try.prog W .any base t v := hval0
  have hW' := hW
  obtain ⟨p, q, hA0, hV, rfl, hfz, hnd⟩ := hW
  have hA : DataW.TrodAll enc Try.prog W 0 (fun _ => true) true Try.f4.params.toList args.toList ds p := hA0
  rw [Try.params4] at hA hval hsz
  obtain ⟨v0, vs0, d0, ds0, p0, q0, hargs, rfl, rfl, h0, r0⟩ := trodAll_cons hA
  obtain ⟨v1, vs1, d1, ds1, p1, q1, rfl, rfl, rfl, h1, r1⟩ := trodAll_cons r0
  obtain ⟨rfl, rfl, rfl⟩ := trodAll_nil r1
  obtain rfl : args = #[v0, v1] := by cases args; simp_all
  obtain ⟨rfl, rfl⟩ := trodVars_none hV
  have lt0 : ∀ x ∈ p0, x.block < W.heap.size := by obtain ⟨m, hm⟩ := h0; exact DataW.trod_lt m _ _ _ hm
  obtain ⟨rows0, k0, w0⟩ := AS.open_rows Try.underlying22 (AS.elemOk_string Try.underlying9 (by kernel_rfl)) (hval 0 22 v0 rfl rfl) h0
  obtain ⟨x0, n0, f0, b0⟩ := read0 k0
  rw [← n0, f0] at w0
  obtain ⟨x1, rfl, rfl, rfl, w1⟩ := open_int Try.underlying30 (hval 1 30 v1 rfl rfl) h1
  obtain ⟨ρ0, A0, u0, g0, e0, s0, l0⟩ := AS.Args.row (AS.Args.nil (P := Try.prog) (w := W)) w0 (by decide)
  have g1 := AS.Args.plain (g0) (AS.Plain.int .u16 x1)
  have hw := (by obtain ⟨k, hk, hk2⟩ := nat16 w1; subst hk; exact stream_ok x0 k hk2 u0 A0 s0 l0 : AS.wF T (.func (.func 4) #[] #[]) [u0, .int .u16 x1] A0 (fun v _ => v = .bool true))
  refine (g1.calls tab (Checked.mixed Try.checked) hw).mono fun e W' ⟨he, bel⟩ => ?_
  subst he
  exact ⟨_, rfl, _, _, _, [], _, [], hW', trodAll_mk1 (shut_bool Try.underlying4 _), (trodAll_cons_mk (Below.trod laidOut (by kernel_rfl) (of_decide_eq_true (by kernel_rfl)) h0 bel lt0) (trodAll_cons_mk (shut_int Try.underlying30 w1) trodAll_mk0)), rfl, bel.frame _, fun h => by cases h⟩
theorem over : Rows.outletStreamRow.holds Try.pinned (OpenSpec.ofChange Rows.outletStreamSpec) :=
  OpenClaim.holds_of_wide 4 Try.f4 rfl rfl rfl rfl rfl rfl rfl ⟨rfl, rfl, rfl, rfl, rfl⟩ rfl rfl rfl rfl rfl (by kernel_rfl) Try.func4 (by kernel_rfl)
    (of_decide_eq_true (by kernel_rfl)) (by unfold Func.isWrapper; first | (rw [if_pos (by decide +kernel)]; kernel_rfl) | (rw [if_neg (by decide +kernel)]; exact ⟨rfl, rfl⟩))
    (fun os started H enc _ => lifted os started H enc)
theorem proved : Rows.OutletStreamSaid := over
#print axioms proved
end Go.Proofs.Ytiilphienfadmaa.outletStream
namespace Go.Proofs.Ytiilphienfadmaa
/-- The row, under a short name, for the claim. -/
theorem outletStream_holds : Rows.OutletStreamSaid := outletStream.proved
end Go.Proofs.Ytiilphienfadmaa
