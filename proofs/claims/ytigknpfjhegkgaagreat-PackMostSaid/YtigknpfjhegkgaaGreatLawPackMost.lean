/- What is proved: the law PackMost answers yes at every input, and the input reads behind the call as it did before. No conditions. -/
import Derived.Test.YtigknpfjhegkgaaGreatDdm
import Derived.Test.YtigknpfjhegkgaaGreatDcm
import Derived.Test.YtigknpfjhegkgaaGreatRows
import Derived.WalkKit
import Derived.ProofKit
import Derived.OpenShut
import Derived.ShutString
import Derived.ChangeOld
import Derived.Below
import Derived.Carry
import Derived.SizedLaws
namespace Go.Proofs.YtigknpfjhegkgaaGreat.packMost
open Go Go.ChangeShapes Go.WideShapes Go.ChangeAt Go.RowKit
set_option linter.unusedVariables false
set_option linter.unusedSimpArgs false
set_option maxRecDepth 100000
theorem own : ownKnob Tryz.prog.godebug = none := by kernel_rfl
theorem laidOut : laidOutB Tryz.prog = true := by kernel_rfl
theorem lifted (os : Os) (started : os.Started) (H : Type) (enc : TypeId × Value → H) :
    ReturnsInHanded {} Tryz.checked os 4 .any (Rows.packMostSpec.pre6 enc Tryz.prog Tryz.f4 Rows.packMostRow.domain false) (Rows.packMostSpec.post enc Tryz.prog Tryz.f4 false true false false) := by
  refine returnsInHanded_of_change_sized (C := Tryz.checked) own started (by kernel_rfl) Tryz.func4
    (ChangeSpec.witness6 (enc := enc) (C := Tryz.checked) false ⟨#[], #[.slice none 0 0, .int .u8 0], []⟩ 8 (by kernel_rfl) (by kernel_rfl) (by kernel_rfl) (by kernel_rfl)) ?_
  intro W base args ds gs before hval0 hW hcnd hsz0 _
  have hsz : (DataW.weightsEach Tryz.prog (Tryz.f4.params.toList ++ Rows.packMostSpec.plain.varTypes Tryz.prog) (ds ++ gs)).all (· ≤ reachBytes) = true := hsz0
  have hval : ∀ (j : Nat) t v, Tryz.f4.params[j]? = some t → args[j]? = some v → Value.okWide Tryz.prog W .any base t v := hval0
  have hW' := hW
  obtain ⟨p, q, hA0, hV, rfl, hfz, hnd⟩ := hW
  have hA : DataW.TrodAll enc Tryz.prog W 0 (fun _ => true) true Tryz.f4.params.toList args.toList ds p := hA0
  rw [Tryz.params4] at hA hval hsz
  obtain ⟨v0, vs0, d0, ds0, p0, q0, hargs, rfl, rfl, h0, t0⟩ := trodAll_cons hA
  obtain ⟨v1, vs1, d1, ds1, p1, q1, rfl, rfl, rfl, h1, t1⟩ := trodAll_cons t0
  obtain ⟨rfl, rfl, rfl⟩ := trodAll_nil t1
  obtain rfl : args = #[v0, v1] := by cases args; simp_all
  obtain ⟨rfl, rfl⟩ := trodVars_none hV
  have lt0 : ∀ x ∈ p0, x.block < W.heap.size := by obtain ⟨m, hm⟩ := h0; exact DataW.trod_lt m _ _ _ hm
  obtain ⟨rows0, k0, w0⟩ := AS.open_rowsW (j0 := 0) Tryz.underlying22 shapeO (hval 0 22 v0 rfl rfl) h0 hsz rfl rfl
  obtain ⟨b0, n0, f0, k0⟩ := readOs k0
  rw [← n0, f0] at w0
  obtain ⟨x1, rfl, rfl, rfl, w1⟩ := open_int Tryz.underlying5 (hval 1 5 v1 rfl rfl) h1
  obtain ⟨x1, rfl, m1⟩ := lit8 w1
  obtain ⟨ρ0, A0, u0, g0, e0, s0, l0, a0⟩ := AS.Args.rowV (AS.Args.nil (P := Tryz.prog) (w := W)) w0 (by decide)
  have g1 := AS.Args.plain (g0) (AS.Plain.int .u8 (x1 : Nat))
  have hw := (most_ok A0 u0 b0 x1 a0 s0 l0 k0 m1 : AS.wF T (.func (.func 4) #[] #[]) [u0, .int .u8 (x1 : Nat)] A0 (fun v _ => v = .bool true))
  refine ((g1).calls tabT (Checked.mixed Tryz.checked) hw).mono fun e W' ⟨he, bel⟩ => ?_
  subst he
  exact ⟨_, rfl, _, _, _, [], _, [], hW', trodAll_mk1 (shut_bool Tryz.underlying4 _), (trodAll_cons_mk (Below.trod laidOut (by kernel_rfl) (of_decide_eq_true (by kernel_rfl)) h0 bel lt0) (trodAll_cons_mk (shut_int Tryz.underlying5 w1) trodAll_mk0)), rfl, bel.frame _, fun h => by cases h⟩
theorem over : Rows.packMostRow.holds Tryz.pinned (OpenSpec.ofChange Rows.packMostSpec) :=
  OpenClaim.holds_of_wide 4 Tryz.f4 rfl rfl rfl rfl rfl rfl rfl ⟨rfl, rfl, rfl, rfl, rfl⟩ rfl rfl rfl rfl rfl (by kernel_rfl) Tryz.func4 (by kernel_rfl)
    (of_decide_eq_true (by kernel_rfl)) (by unfold Func.isWrapper; first | (rw [if_pos (by decide +kernel)]; kernel_rfl) | (rw [if_neg (by decide +kernel)]; exact ⟨rfl, rfl⟩))
    (fun os started H enc _ => lifted os started H enc)
theorem proved : Rows.PackMostSaid := over
#print axioms proved
end Go.Proofs.YtigknpfjhegkgaaGreat.packMost
namespace Go.Proofs.YtigknpfjhegkgaaGreat
/-- The row, under a short name, for the claim. -/
theorem packMost_holds : Rows.PackMostSaid := packMost.proved
end Go.Proofs.YtigknpfjhegkgaaGreat
