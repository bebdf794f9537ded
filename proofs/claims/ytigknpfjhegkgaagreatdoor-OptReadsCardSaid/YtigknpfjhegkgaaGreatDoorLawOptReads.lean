/- A text of this claim. -/
import Derived.Test.YtigknpfjhegkgaaGreatDoorScm
import Derived.Test.YtigknpfjhegkgaaGreatDoorWim
import Derived.Test.YtigknpfjhegkgaaGreatDoorEj
import Derived.Test.YtigknpfjhegkgaaGreatDoorTie
import Derived.Test.YtigknpfjhegkgaaGreatDoorCards
import Derived.SevenTiedAt
import Derived.WalkKit
import Derived.ProofKit
import Derived.OpenShut
import Derived.ShutString
import Derived.ChangeOld
import Derived.Below
import Derived.Carry
import Derived.SizedLaws
namespace Go.Proofs.YtigknpfjhegkgaaGreatDoor.optReads
open Go Go.ChangeShapes Go.WideShapes Go.ChangeAt Go.RowKit
set_option linter.unusedVariables false
set_option linter.unusedSimpArgs false
set_option maxRecDepth 100000
theorem laidOut : laidOutB Tryz.prog = true := by kernel_rfl
theorem lifted (os : Os) (started : os.Started) (H : Type) (enc : TypeId × Value → H) :
    ReturnsInHanded {} Tryz.checked os 3 .any (fun w args => (Rows.optReadsSpec.pre enc Tryz.prog Tryz.f3 [] false w args ∧ laidMetH Tryz.prog lays w) ∧ sizedMet enc Tryz.prog Tryz.f3 (OpenSpec.ofChange Rows.optReadsSpec) false w args)
      (Rows.optReadsSpec.post enc Tryz.prog Tryz.f3 false true false false) := by
  refine returnsInHanded_of_change_and (C := Tryz.checked) (X := fun w _ => laidMetH Tryz.prog lays w) (fun _ _ _ hh h => h.of_heap hh) own started (by kernel_rfl) Tryz.func3
    (ChangeSpec.witness_at (enc := enc) (C := Tryz.checked) (os := os) (X := fun w _ => laidMetH Tryz.prog lays w) false (laidWorld os) #[.agg #[.int .i64 0, .string ⟨#[]⟩], .agg #[.int .u8 0, .int .u8 0, .int .u8 0, .bool false, .bool false, .bool false, .int .u64 0, .int .u64 0, .int .u16 0, .int .u16 0, .int .u8 0, .int .u8 0, .int .u8 0, .int .u8 0, .int .u8 0, .int .u8 0, .int .u8 0, .int .u8 0, .int .u8 0, .int .u8 0, .int .u8 0, .int .u8 0, .int .u8 0, .int .u8 0, .int .u8 0, .int .u8 0, .int .u8 0, .int .u8 0, .int .u8 0, .int .u8 0, .int .u8 0, .int .u8 0, .int .u8 0, .int .u8 0], .agg #[.int .u8 0, .int .u8 0]] 8 rfl (by kernel_rfl) (by kernel_rfl) (by kernel_rfl) (by kernel_rfl) (by kernel_rfl) (laidWorld_met os _)) ?_
  intro W base args ds gs before hval0 hW _ hsz0 hL _
  have hval : ∀ (j : Nat) t v, Tryz.f3.params[j]? = some t → args[j]? = some v → Value.okWide Tryz.prog W .any base t v := hval0
  have hW' := hW
  obtain ⟨p, q, hA0, hV, rfl, hfz, hnd⟩ := hW
  have hA : DataW.TrodAll enc Tryz.prog W 0 (fun _ => true) true Tryz.f3.params.toList args.toList ds p := hA0
  rw [Tryz.params3] at hA hval
  obtain ⟨v0, vs0, d0, ds0, p0, q0, hargs, rfl, rfl, h0, t0⟩ := trodAll_cons hA
  obtain ⟨v1, vs1, d1, ds1, p1, q1, rfl, rfl, rfl, h1, t1⟩ := trodAll_cons t0
  obtain ⟨v2, vs2, d2, ds2, p2, q2, rfl, rfl, rfl, h2, t2⟩ := trodAll_cons t1
  obtain ⟨rfl, rfl, rfl⟩ := trodAll_nil t2
  obtain rfl : args = #[v0, v1, v2] := by cases args; simp_all
  obtain ⟨rfl, rfl⟩ := trodVars_none hV
  have lt0 : ∀ x ∈ p0, x.block < W.heap.size := by obtain ⟨m, hm⟩ := h0; exact DataW.trod_lt m _ _ _ hm
  obtain ⟨cs0, rfl, p0k⟩ := AS.open_plain Tryz.underlying23 okIt (hval 0 23 v0 rfl rfl) h0
  have pl0 := p0k.plain
  obtain ⟨x0, z0, rfl⟩ := readI p0k
  have lt1 : ∀ x ∈ p1, x.block < W.heap.size := by obtain ⟨m, hm⟩ := h1; exact DataW.trod_lt m _ _ _ hm
  obtain ⟨cs1, rfl, p1k⟩ := AS.open_plain Tryz.underlying29 okD (hval 1 29 v1 rfl rfl) h1
  have pl1 := p1k.plain
  obtain ⟨x1, rfl, k1⟩ := readD p1k
  have lt2 : ∀ x ∈ p2, x.block < W.heap.size := by obtain ⟨m, hm⟩ := h2; exact DataW.trod_lt m _ _ _ hm
  obtain ⟨cs2, rfl, p2k⟩ := open_arr Tryz.underlying30 okA (hval 2 30 v2 rfl rfl) h2
  have pl2 := p2k.plain
  obtain ⟨x2, z2, rfl, k2, l2⟩ := readA p2k
  have hE : EH (AS.A0E 174 93) := by show AS.errT 174 93 ((AS.A0E 174 93).get 0) = true; rw [AS.A0E_get]; rfl
  have g0 := AS.Args.agg (AS.Args.errT (P := Tryz.prog) (handle_of_laid hL)) (l := [.int .i64 x0, .string ⟨⟨z0⟩⟩]) pl0
  have g1 := AS.Args.agg (g0) (l := x1.cells) pl1
  have g2 := AS.Args.agg (g1) (l := [.int .u8 (x2 : Nat), .int .u8 (z2 : Nat)]) pl2
  have hw := (reads_ok (AS.A0E 174 93) x0 z0 x1 x2 z2 k1 k1.opt k2 l2 hE : AS.wF T (.func (.func 3) #[] #[]) [.agg ⟨[.int .i64 x0, .string ⟨⟨z0⟩⟩]⟩, .agg ⟨x1.cells⟩, .agg ⟨[.int .u8 (x2 : Nat), .int .u8 (z2 : Nat)]⟩] (AS.A0E 174 93) (fun v _ => v = .bool true))
  refine (g2.calls tabT (Checked.mixed Tryz.checked) hw).mono fun e W' ⟨he, bel⟩ => ?_
  subst he
  exact ⟨_, rfl, _, _, _, [], _, [], hW', trodAll_mk1 (shut_bool Tryz.underlying4 _), (trodAll_cons_mk (Below.trod laidOut (by kernel_rfl) (of_decide_eq_true (by kernel_rfl)) h0 bel lt0) (trodAll_cons_mk (Below.trod laidOut (by kernel_rfl) (of_decide_eq_true (by kernel_rfl)) h1 bel lt1) (trodAll_cons_mk (Below.trod laidOut (by kernel_rfl) (of_decide_eq_true (by kernel_rfl)) h2 bel lt2) trodAll_mk0))), rfl, bel.frame _, fun h => by cases h⟩
theorem over : Rows.OptReadsSaid :=
  OpenClaim.holds_of_wide 3 Tryz.f3 rfl rfl rfl rfl rfl rfl rfl ⟨rfl, rfl, rfl, rfl, rfl⟩ rfl rfl rfl rfl rfl (by kernel_rfl) Tryz.func3 (by kernel_rfl)
    (of_decide_eq_true (by kernel_rfl)) (by unfold Func.isWrapper; first | (rw [if_pos (by decide +kernel)]; kernel_rfl) | (rw [if_neg (by decide +kernel)]; exact ⟨rfl, rfl⟩))
    (fun os started H enc _ => lifted os started H enc)
theorem card : Rows.OptReadsCardSaid :=
  Claim7.holds_tied_plain_at .later [] [.handle] true (true, "238ecebaee164d972bea9ba96e28fac4999929d5325493f7b6e62ad73c41b5b0") true
    over (fun _ h => by cases h) (by kernel_rfl) (fun _ h => by cases h) optReads_row_tie rfl ⟨rfl, rfl⟩ (by kernel_rfl) rfl
    (fun f fn hf hfn => by
      obtain rfl : f = 3 := Option.some.inj ((show Tryz.prog.funcNamed "plait/plaitlaw14.OptReads" = some 3 by kernel_rfl).symm.trans hf) |>.symm
      obtain rfl : fn = Tryz.f3 := (Option.some.inj (Tryz.func3.symm.trans hfn)).symm
      refine ⟨by kernel_rfl, fun j t ht => ?_⟩
      rw [Tryz.params3] at ht
      have hall : (#[23, 29, 30] : Array TypeId).toList.all (fun t => !Tryz.prog.wantsStandIn t) = true := by kernel_rfl
      have hm : t ∈ (#[23, 29, 30] : Array TypeId).toList := by rw [Array.mem_toList_iff]; exact Array.mem_of_getElem? ht
      have := List.all_eq_true.1 hall t hm
      exact (by simpa using this : Tryz.prog.wantsStandIn t = false))
    (by kernel_rfl)
#print axioms card
end Go.Proofs.YtigknpfjhegkgaaGreatDoor.optReads
namespace Go.Proofs.YtigknpfjhegkgaaGreatDoor
theorem optReads_holds : Rows.OptReadsCardSaid := optReads.card
end Go.Proofs.YtigknpfjhegkgaaGreatDoor
