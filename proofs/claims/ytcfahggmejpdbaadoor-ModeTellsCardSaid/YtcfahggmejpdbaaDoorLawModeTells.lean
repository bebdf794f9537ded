/- What is proved: the law ModeTells answers yes at every input, where errors.errorType is what the program's text says, and the input reads behind the call as it did before. -/
import Derived.Test.YtcfahggmejpdbaaDoorLf
import Derived.Test.YtcfahggmejpdbaaDoorEj
import Derived.Test.YtcfahggmejpdbaaDoorTie
import Derived.Test.YtcfahggmejpdbaaDoorCards
import Derived.Test.YtcfahggmejpdbaaDoorM3
import Derived.SevenTiedAt
import Derived.WalkKit
import Derived.ProofKit
import Derived.OpenShut
import Derived.ShutString
import Derived.ChangeOld
import Derived.Below
import Derived.Carry
import Derived.SizedLaws
namespace Go.Proofs.YtcfahggmejpdbaaDoor.modeTells
open Go Go.ChangeShapes Go.WideShapes Go.ChangeAt Go.RowKit
set_option linter.unusedVariables false
set_option maxRecDepth 100000
theorem laidOut : laidOutB Tryd.prog = true := by kernel_rfl
theorem i64r {n : Int} (h : (Lit.int .i64 n).wf = true) : -9223372036854775808 ≤ n ∧ n < 9223372036854775808 := by
  have m0 : IntKind.min .i64 = -9223372036854775808 := by decide
  have m1 : IntKind.max .i64 = 9223372036854775807 := by decide
  simp only [Lit.wf, Bool.and_eq_true, decide_eq_true_eq, m0, m1] at h
  omega
theorem u8r {n : Int} (h : (Lit.int .u8 n).wf = true) : 0 ≤ n ∧ n < 256 := by
  have m0 : IntKind.min .u8 = 0 := by decide
  have m1 : IntKind.max .u8 = 255 := by decide
  simp only [Lit.wf, Bool.and_eq_true, decide_eq_true_eq, m0, m1] at h
  omega
theorem readB {rows : List (List Value)} (h : ∀ r ∈ rows, AS.Oks [.int .u8] r) : ∃ l : List Int, l.length = rows.length ∧ rows.flatten = ucells l ∧ ∀ x ∈ l, 0 ≤ x ∧ x < 256 := by
  obtain ⟨l, h1, h2, h3⟩ := AS.rows_as (fun x : Int => [.int .u8 x]) (fun x => 0 ≤ x ∧ x < 256) (fun r hr => by
    match r, hr with
    | [v], hr => obtain ⟨x, rfl, hx⟩ := hr.1; exact ⟨x, rfl, u8r hx⟩) rows h
  exact ⟨l, h1, by rw [h2]; simp [ucells, List.map_eq_flatMap], h3⟩
theorem elemB : AS.ElemOk Tryd.prog 5 [.int .u8] := AS.elemOk_int Tryd.underlying5 (by kernel_rfl)
theorem elemT : AS.ElemOk Tryd.prog 31 [.int .i64, .int .i64, .int .i64] := AS.elemOk_struct Tryd.underlying31 (by kernel_rfl) fun i p hp => by
  match i, hp with
  | 0, hp => cases hp; exact ⟨_, rfl, rfl, AS.elemOk_int Tryd.underlying3 (by kernel_rfl)⟩
  | 1, hp => cases hp; exact ⟨_, rfl, rfl, AS.elemOk_int Tryd.underlying3 (by kernel_rfl)⟩
  | 2, hp => cases hp; exact ⟨_, rfl, rfl, AS.elemOk_int Tryd.underlying3 (by kernel_rfl)⟩
  | n + 3, hp => simp at hp
theorem readT {rows : List (List Value)} (h : ∀ r ∈ rows, AS.Oks [.int .i64, .int .i64, .int .i64] r) : ∃ l : List Tn, l.length = rows.length ∧ rows.flatten = tcells l := by
  obtain ⟨l, h1, h2, _⟩ := AS.rows_as Tn.cells (fun _ => True) (fun r hr => by
    have hl : r.length = 3 := AS.Oks.length hr
    match r, hl, hr with
    | [a, b, c], _, hr =>
      obtain ⟨x, rfl, _⟩ := hr.1
      obtain ⟨y, rfl, _⟩ := hr.2.1
      obtain ⟨z, rfl, _⟩ := hr.2.2.1
      exact ⟨⟨x, y, z⟩, rfl, trivial⟩) rows h
  exact ⟨l, h1, h2⟩
theorem int3 {cs : List Value} (h : AS.Oks [.int .i64, .int .i64, .int .i64] cs) : ∃ x y z : Int, cs = [.int .i64 x, .int .i64 y, .int .i64 z] := by
  have hl : cs.length = 3 := AS.Oks.length h
  match cs, hl, h with
  | [a, b, c], _, hr =>
    obtain ⟨x, rfl, _⟩ := hr.1
    obtain ⟨y, rfl, _⟩ := hr.2.1
    obtain ⟨z, rfl, _⟩ := hr.2.2.1
    exact ⟨x, y, z, rfl⟩
theorem lifted (os : Os) (started : os.Started) (H : Type) (enc : TypeId × Value → H) :
    ReturnsInHanded {} Tryd.checked os 6 .any (fun w args => (Rows.modeTellsSpec.pre enc Tryd.prog Tryd.f6 [] false w args ∧ laidMetH Tryd.prog lays w) ∧ sizedMet enc Tryd.prog Tryd.f6 (OpenSpec.ofChange Rows.modeTellsSpec) false w args)
      (Rows.modeTellsSpec.post enc Tryd.prog Tryd.f6 false true false false) := by
  refine returnsInHanded_of_change_and (C := Tryd.checked) (X := fun w _ => laidMetH Tryd.prog lays w) (fun _ _ _ hh h => h.of_heap hh) own started (by kernel_rfl) Tryd.func6
    (ChangeSpec.witness_at (enc := enc) (C := Tryd.checked) (os := os) (X := fun w _ => laidMetH Tryd.prog lays w) false (laidWorld os) #[.agg #[.int .u8 0, .slice none 0 0], .slice none 0 0, .int .u8 0, .agg #[.int .i64 0, .int .i64 0, .int .i64 0], .int .i64 0] 8 rfl (by kernel_rfl) (by kernel_rfl) (by kernel_rfl) (by kernel_rfl) (by kernel_rfl) (laidWorld_met os _)) ?_
  intro W base args ds gs before hval0 hW _ hsz0 hL _
  have hval : ∀ (j : Nat) t v, Tryd.f6.params[j]? = some t → args[j]? = some v → Value.okWide Tryd.prog W .any base t v := hval0
  have hW' := hW
  obtain ⟨p, q, hA0, hV, rfl, hfz, hnd⟩ := hW
  have hA : DataW.TrodAll enc Tryd.prog W 0 (fun _ => true) true Tryd.f6.params.toList args.toList ds p := hA0
  rw [Tryd.params6] at hA hval
  obtain ⟨v0, vs0, d0, ds0, p0, q0, hargs, rfl, rfl, h0, t0⟩ := trodAll_cons hA
  obtain ⟨v1, vs1, d1, ds1, p1, q1, rfl, rfl, rfl, h1, t1⟩ := trodAll_cons t0
  obtain ⟨v2, vs2, d2, ds2, p2, q2, rfl, rfl, rfl, h2, t2⟩ := trodAll_cons t1
  obtain ⟨v3, vs3, d3, ds3, p3, q3, rfl, rfl, rfl, h3, t3⟩ := trodAll_cons t2
  obtain ⟨v4, vs4, d4, ds4, p4, q4, rfl, rfl, rfl, h4, t4⟩ := trodAll_cons t3
  obtain ⟨rfl, rfl, rfl⟩ := trodAll_nil t4
  obtain rfl : args = #[v0, v1, v2, v3, v4] := by cases args; simp_all
  obtain ⟨rfl, rfl⟩ := trodVars_none hV
  have lt0 : ∀ x ∈ p0, x.block < W.heap.size := by obtain ⟨m, hm⟩ := h0; exact DataW.trod_lt m _ _ _ hm
  obtain ⟨x0, rows0, sv0, rfl, wf0, k0, w0⟩ := AS.open_intslice Tryd.underlying24 rfl rfl (by kernel_rfl) (by kernel_rfl) (by kernel_rfl) Tryd.underlying5 Tryd.underlying22 (by kernel_rfl) elemB (hval 0 24 v0 rfl rfl) h0
  have r0 := u8r wf0
  obtain ⟨b0, n0, f0, bb0⟩ := readB k0
  rw [← n0, f0] at w0
  have lt1 : ∀ x ∈ p1, x.block < W.heap.size := by obtain ⟨m, hm⟩ := h1; exact DataW.trod_lt m _ _ _ hm
  obtain ⟨rows1, k1, w1⟩ := AS.open_rows Tryd.underlying26 elemT (hval 1 26 v1 rfl rfl) h1
  obtain ⟨b1, n1, f1⟩ := readT k1
  rw [← n1, f1] at w1
  have lt2 : ∀ x ∈ p2, x.block < W.heap.size := by obtain ⟨m, hm⟩ := h2; exact DataW.trod_lt m _ _ _ hm
  obtain ⟨x2, rfl, _, _, w2⟩ := open_int Tryd.underlying5 (hval 2 5 v2 rfl rfl) h2
  have lt3 : ∀ x ∈ p3, x.block < W.heap.size := by obtain ⟨m, hm⟩ := h3; exact DataW.trod_lt m _ _ _ hm
  obtain ⟨cs3, rfl, k3⟩ := AS.open_plain Tryd.underlying31 elemT (hval 3 31 v3 rfl rfl) h3
  obtain ⟨x3a, x3b, x3c, rfl⟩ := int3 k3
  have lt4 : ∀ x ∈ p4, x.block < W.heap.size := by obtain ⟨m, hm⟩ := h4; exact DataW.trod_lt m _ _ _ hm
  obtain ⟨x4, rfl, _, _, w4⟩ := open_int Tryd.underlying3 (hval 4 3 v4 rfl rfl) h4
  have hE : EH (AS.A0E 101 41) := by show AS.errT 101 41 ((AS.A0E 101 41).get 0) = true; rw [AS.A0E_get]; rfl
  obtain ⟨ρ0, A0, u0, g0, e0, s0, l0, c0⟩ := AS.Args.rowV (AS.Args.errT (P := Tryd.prog) (handle_of_laid hL)) w0 (by decide)
  have hE := EH.ext hE e0 id
  have g0 := AS.Args.wrap g0 [.int .u8 x0] (fun x hx => by rw [List.mem_singleton] at hx; subst hx; exact AS.Plain.int _ _)
  obtain ⟨ρ1, A1, u1, g1, e1, s1, l1, c1⟩ := AS.Args.rowV (g0) w1 (by decide)
  have hE := EH.ext hE e1 id
  have s0 := s0.ext e1 fun _ _ q => q
  have l0 := fun j hj => Nat.lt_of_lt_of_le (l0 j hj) e1.size
  have g2 := AS.Args.plain (g1) (AS.Plain.int .u8 x2)
  have g3 := AS.Args.agg (g2) (l := [.int .i64 x3a, .int .i64 x3b, .int .i64 x3c]) (fun v hv => by
    simp only [List.mem_cons, List.not_mem_nil, or_false] at hv
    rcases hv with hv | hv | hv <;> (subst hv; exact AS.Plain.int _ _))
  have g4 := AS.Args.plain (g3) (AS.Plain.int .i64 x4)
  have hw := (tells_ok A1 x0 u0 b0 u1 b1 x2 ⟨x3a, x3b, x3c⟩ x4 hE r0 (u8r w2) (i64r w4) bb0 s0 s1 l1 c1 : AS.wF T (.func (.func 6) #[] #[]) [.agg ⟨[.int .u8 x0, u0]⟩, u1, .int .u8 x2, .agg ⟨[.int .i64 x3a, .int .i64 x3b, .int .i64 x3c]⟩, .int .i64 x4] A1 (fun v _ => v = .bool true))
  refine (g4.calls tabT (Checked.mixed Tryd.checked) hw).mono fun e W' ⟨he, bel⟩ => ?_
  subst he
  exact ⟨_, rfl, _, _, _, [], _, [], hW', trodAll_mk1 (shut_bool Tryd.underlying4 _), (trodAll_cons_mk (Below.trod laidOut (by kernel_rfl) (of_decide_eq_true (by kernel_rfl)) h0 bel lt0) (trodAll_cons_mk (Below.trod laidOut (by kernel_rfl) (of_decide_eq_true (by kernel_rfl)) h1 bel lt1) (trodAll_cons_mk (Below.trod laidOut (by kernel_rfl) (of_decide_eq_true (by kernel_rfl)) h2 bel lt2) (trodAll_cons_mk (Below.trod laidOut (by kernel_rfl) (of_decide_eq_true (by kernel_rfl)) h3 bel lt3) (trodAll_cons_mk (Below.trod laidOut (by kernel_rfl) (of_decide_eq_true (by kernel_rfl)) h4 bel lt4) trodAll_mk0))))), rfl, bel.frame _, fun h => by cases h⟩
theorem over : Rows.ModeTellsSaid :=
  OpenClaim.holds_of_wide 6 Tryd.f6 rfl rfl rfl rfl rfl rfl rfl ⟨rfl, rfl, rfl, rfl, rfl⟩ rfl rfl rfl rfl rfl (by kernel_rfl) Tryd.func6 (by kernel_rfl)
    (of_decide_eq_true (by kernel_rfl)) (by unfold Func.isWrapper; first | (rw [if_pos (by decide +kernel)]; kernel_rfl) | (rw [if_neg (by decide +kernel)]; exact ⟨rfl, rfl⟩))
    (fun os started H enc _ => lifted os started H enc)
theorem card : Rows.ModeTellsCardSaid :=
  Claim7.holds_tied_plain_at .later [] [.handle] true (true, "24d0ee416c0e583bdd0290b1dd1589966253e4ea71db1825da0a09df02ec11b6") true
    over (fun _ h => by cases h) (by kernel_rfl) (fun _ h => by cases h) modeTells_row_tie rfl ⟨rfl, rfl⟩ (by kernel_rfl) rfl
    (fun f fn hf hfn => by
      obtain rfl : f = 6 := Option.some.inj ((show Tryd.prog.funcNamed "plait/plaitlaw28.ModeTells" = some 6 by kernel_rfl).symm.trans hf) |>.symm
      obtain rfl : fn = Tryd.f6 := (Option.some.inj (Tryd.func6.symm.trans hfn)).symm
      refine ⟨by kernel_rfl, fun j t ht => ?_⟩
      rw [Tryd.params6] at ht
      have hall : (#[24, 26, 5, 31, 3] : Array TypeId).toList.all (fun t => !Tryd.prog.wantsStandIn t) = true := by kernel_rfl
      have hm : t ∈ (#[24, 26, 5, 31, 3] : Array TypeId).toList := by rw [Array.mem_toList_iff]; exact Array.mem_of_getElem? ht
      have := List.all_eq_true.1 hall t hm
      exact (by simpa using this : Tryd.prog.wantsStandIn t = false))
    (by kernel_rfl)
#print axioms card
end Go.Proofs.YtcfahggmejpdbaaDoor.modeTells
namespace Go.Proofs.YtcfahggmejpdbaaDoor
/-- The row, under a short name, for the claim. -/
theorem modeTells_holds : Rows.ModeTellsCardSaid := modeTells.card
end Go.Proofs.YtcfahggmejpdbaaDoor
