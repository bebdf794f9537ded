/- A text of this claim. -/
import Derived.Test.YtigknpfjhegkgaaGreatDoorSdm
import Derived.Test.YtigknpfjhegkgaaGreatDoorScm
import Derived.Test.YtigknpfjhegkgaaGreatDoorNl
import Derived.Test.YtigknpfjhegkgaaGreatDoorEj
import Derived.Test.YtigknpfjhegkgaaGreatDoorTie
import Derived.Test.YtigknpfjhegkgaaGreatDoorCards
import Derived.SevenTiedAt
import Derived.WalkKit
import Derived.ProofKit
import Derived.OpenShut
import Derived.ShutString
import Derived.ChangeOld
import Derived.Below
import Derived.Carry
import Derived.SizedLaws
namespace Go.Proofs.YtigknpfjhegkgaaGreatDoor.optAreas
open Go Go.ChangeShapes Go.WideShapes Go.ChangeAt Go.RowKit
set_option linter.unusedVariables false
set_option linter.unusedSimpArgs false
set_option maxRecDepth 100000
theorem laidOut : laidOutB Tryz.prog = true := by kernel_rfl
theorem lifted (os : Os) (started : os.Started) (H : Type) (enc : TypeId × Value → H) :
    ReturnsInHanded {} Tryz.checked os 4 .any (fun w args => (Rows.optAreasSpec.pre enc Tryz.prog Tryz.f4 [] false w args ∧ laidMetH Tryz.prog lays w) ∧ sizedMet enc Tryz.prog Tryz.f4 (OpenSpec.ofChange Rows.optAreasSpec) false w args)
      (Rows.optAreasSpec.post enc Tryz.prog Tryz.f4 false true false false) := by
  refine returnsInHanded_of_change_and (C := Tryz.checked) (X := fun w _ => laidMetH Tryz.prog lays w) (fun _ _ _ hh h => h.of_heap hh) own started (by kernel_rfl) Tryz.func4
    (ChangeSpec.witness_at (enc := enc) (C := Tryz.checked) (os := os) (X := fun w _ => laidMetH Tryz.prog lays w) false (laidWorld os) #[.string ⟨#[]⟩, .slice none 0 0, .agg #[.int .i64 0, .int .i64 0, .int .i64 0, .bool false, .bool false, .int .u64 0, .int .u64 0, .int .i64 0, .int .u16 0, .int .i64 0, .bool false, .int .i64 0, .int .u32 0, .int .u32 0, .string ⟨⟨[]⟩⟩, .bool false, .bool false, .bool false, .int .u64 0, .bool false, .bool false, .int .u64 0, .int .u32 0, .int .i64 0, .bool false, .int .u16 0, .bool false, .int .i64 0, .string ⟨⟨[]⟩⟩, .bool false, .int .i64 0, .string ⟨⟨[]⟩⟩, .string ⟨⟨[]⟩⟩, .bool false, .int .u64 0, .int .u64 0, .int .i64 0, .int .i64 0], .agg #[.int .u8 0, .int .u8 0]] 8 rfl (by kernel_rfl) (by kernel_rfl) (by kernel_rfl) (by kernel_rfl) (by kernel_rfl) (laidWorld_met os _)) ?_
  intro W base args ds gs before hval0 hW _ hsz0 hL _
  have hval : ∀ (j : Nat) t v, Tryz.f4.params[j]? = some t → args[j]? = some v → Value.okWide Tryz.prog W .any base t v := hval0
  have hW' := hW
  obtain ⟨p, q, hA0, hV, rfl, hfz, hnd⟩ := hW
  have hA : DataW.TrodAll enc Tryz.prog W 0 (fun _ => true) true Tryz.f4.params.toList args.toList ds p := hA0
  rw [Tryz.params4] at hA hval
  obtain ⟨v0, vs0, d0, ds0, p0, q0, hargs, rfl, rfl, h0, t0⟩ := trodAll_cons hA
  obtain ⟨v1, vs1, d1, ds1, p1, q1, rfl, rfl, rfl, h1, t1⟩ := trodAll_cons t0
  obtain ⟨v2, vs2, d2, ds2, p2, q2, rfl, rfl, rfl, h2, t2⟩ := trodAll_cons t1
  obtain ⟨v3, vs3, d3, ds3, p3, q3, rfl, rfl, rfl, h3, t3⟩ := trodAll_cons t2
  obtain ⟨rfl, rfl, rfl⟩ := trodAll_nil t3
  obtain rfl : args = #[v0, v1, v2, v3] := by cases args; simp_all
  obtain ⟨rfl, rfl⟩ := trodVars_none hV
  have lt0 : ∀ x ∈ p0, x.block < W.heap.size := by obtain ⟨m, hm⟩ := h0; exact DataW.trod_lt m _ _ _ hm
  obtain ⟨⟨⟨x0⟩⟩, rfl, _, _, w0⟩ := Go.ChangeMaps.open_string Tryz.underlying9 (hval 0 9 v0 rfl rfl) h0
  have lt1 : ∀ x ∈ p1, x.block < W.heap.size := by obtain ⟨m, hm⟩ := h1; exact DataW.trod_lt m _ _ _ hm
  obtain ⟨rows1, k1, w1⟩ := AS.open_rows Tryz.underlying62 okD (hval 1 62 v1 rfl rfl) h1
  obtain ⟨b1, n1, f1, k1⟩ := readDs k1
  rw [← n1, f1] at w1
  have lt2 : ∀ x ∈ p2, x.block < W.heap.size := by obtain ⟨m, hm⟩ := h2; exact DataW.trod_lt m _ _ _ hm
  obtain ⟨cs2, rfl, p2k⟩ := AS.open_plain Tryz.underlying54 okO (hval 2 54 v2 rfl rfl) h2
  have pl2 := p2k.plain
  obtain ⟨x2, rfl, k2⟩ := readO p2k
  have lt3 : ∀ x ∈ p3, x.block < W.heap.size := by obtain ⟨m, hm⟩ := h3; exact DataW.trod_lt m _ _ _ hm
  obtain ⟨cs3, rfl, p3k⟩ := open_arr Tryz.underlying30 okA (hval 3 30 v3 rfl rfl) h3
  have pl3 := p3k.plain
  obtain ⟨x3, z3, rfl, k3, l3⟩ := readA p3k
  have hE : EH (AS.A0E 174 93) := by show AS.errT 174 93 ((AS.A0E 174 93).get 0) = true; rw [AS.A0E_get]; rfl
  have g0 := AS.Args.plain (AS.Args.errT (P := Tryz.prog) (handle_of_laid hL)) (AS.Plain.string ⟨⟨x0⟩⟩)
  obtain ⟨ρ1, A1, u1, g1, e1, s1, l1⟩ := AS.Args.row (g0) w1 (by decide)
  have hE := EH.ext hE e1 id
  have g2 := AS.Args.agg (g1) (l := x2.cells) pl2
  have g3 := AS.Args.agg (g2) (l := [.int .u8 (x3 : Nat), .int .u8 (z3 : Nat)]) pl3
  have hw := (areas_ok A1 x0 u1 b1 x2 x3 z3 hE k1 s1 k2 k3 l3 : AS.wF T (.func (.func 4) #[] #[]) [.string ⟨⟨x0⟩⟩, u1, .agg ⟨x2.cells⟩, .agg ⟨[.int .u8 (x3 : Nat), .int .u8 (z3 : Nat)]⟩] A1 (fun v _ => v = .bool true))
  refine (g3.calls tabT (Checked.mixed Tryz.checked) hw).mono fun e W' ⟨he, bel⟩ => ?_
  subst he
  exact ⟨_, rfl, _, _, _, [], _, [], hW', trodAll_mk1 (shut_bool Tryz.underlying4 _), (trodAll_cons_mk (Below.trod laidOut (by kernel_rfl) (of_decide_eq_true (by kernel_rfl)) h0 bel lt0) (trodAll_cons_mk (Below.trod laidOut (by kernel_rfl) (of_decide_eq_true (by kernel_rfl)) h1 bel lt1) (trodAll_cons_mk (Below.trod laidOut (by kernel_rfl) (of_decide_eq_true (by kernel_rfl)) h2 bel lt2) (trodAll_cons_mk (Below.trod laidOut (by kernel_rfl) (of_decide_eq_true (by kernel_rfl)) h3 bel lt3) trodAll_mk0)))), rfl, bel.frame _, fun h => by cases h⟩
theorem over : Rows.OptAreasSaid :=
  OpenClaim.holds_of_wide 4 Tryz.f4 rfl rfl rfl rfl rfl rfl rfl ⟨rfl, rfl, rfl, rfl, rfl⟩ rfl rfl rfl rfl rfl (by kernel_rfl) Tryz.func4 (by kernel_rfl)
    (of_decide_eq_true (by kernel_rfl)) (by unfold Func.isWrapper; first | (rw [if_pos (by decide +kernel)]; kernel_rfl) | (rw [if_neg (by decide +kernel)]; exact ⟨rfl, rfl⟩))
    (fun os started H enc _ => lifted os started H enc)
theorem card : Rows.OptAreasCardSaid :=
  Claim7.holds_tied_plain_at .later [] [.handle] true (true, "238ecebaee164d972bea9ba96e28fac4999929d5325493f7b6e62ad73c41b5b0") true
    over (fun _ h => by cases h) (by kernel_rfl) (fun _ h => by cases h) optAreas_row_tie rfl ⟨rfl, rfl⟩ (by kernel_rfl) rfl
    (fun f fn hf hfn => by
      obtain rfl : f = 4 := Option.some.inj ((show Tryz.prog.funcNamed "plait/plaitlaw14.OptAreas" = some 4 by kernel_rfl).symm.trans hf) |>.symm
      obtain rfl : fn = Tryz.f4 := (Option.some.inj (Tryz.func4.symm.trans hfn)).symm
      refine ⟨by kernel_rfl, fun j t ht => ?_⟩
      rw [Tryz.params4] at ht
      have hall : (#[9, 62, 54, 30] : Array TypeId).toList.all (fun t => !Tryz.prog.wantsStandIn t) = true := by kernel_rfl
      have hm : t ∈ (#[9, 62, 54, 30] : Array TypeId).toList := by rw [Array.mem_toList_iff]; exact Array.mem_of_getElem? ht
      have := List.all_eq_true.1 hall t hm
      exact (by simpa using this : Tryz.prog.wantsStandIn t = false))
    (by kernel_rfl)
#print axioms card
end Go.Proofs.YtigknpfjhegkgaaGreatDoor.optAreas
namespace Go.Proofs.YtigknpfjhegkgaaGreatDoor
theorem optAreas_holds : Rows.OptAreasCardSaid := optAreas.card
end Go.Proofs.YtigknpfjhegkgaaGreatDoor
