/- What is proved: the law InletTakes answers yes at every input, and the input reads behind the call as it did before. No conditions. -/
import Derived.Test.YtidgbapgedegbaaRows
import Derived.Test.YtidgbapgedegbaaDn
import Derived.Test.YtidgbapgedegbaaAw
import Derived.Test.YtidgbapgedegbaaAx
import Derived.Test.YtidgbapgedegbaaYes
import Derived.Test.YtidgbapgedegbaaM3
import Derived.WalkKit
import Derived.ProofKit
import Derived.OpenShut
import Derived.ShutString
import Derived.ChangeOld
import Derived.Below
import Derived.Carry
import Derived.SizedLaws
namespace Go.Proofs.Ytidgbapgedegbaa.inletTakes
open Go.ChangeShapes Go.WideShapes Go.ChangeAt Go.RowKit
open Go.ChangeMaps (open_string shut_string)
set_option linter.unusedVariables false
theorem own : ownKnob Try.prog.godebug = none := by kernel_rfl
theorem laidOut : laidOutB Try.prog = true := by kernel_rfl
theorem i64r {n : Int} (h : (Lit.int .i64 n).wf = true) : -9223372036854775808 ≤ n ∧ n < 9223372036854775808 := by
  have m0 : IntKind.min .i64 = -9223372036854775808 := by decide
  have m1 : IntKind.max .i64 = 9223372036854775807 := by decide
  simp only [Lit.wf, Bool.and_eq_true, decide_eq_true_eq, m0, m1] at h
  omega
theorem u8r {n : Int} (h : (Lit.int .u8 n).wf = true) : ∃ k : Nat, n = k ∧ k < 256 := by
  have m0 : IntKind.min .u8 = 0 := by decide
  have m1 : IntKind.max .u8 = 255 := by decide
  simp only [Lit.wf, Bool.and_eq_true, decide_eq_true_eq, m0, m1] at h
  exact ⟨n.toNat, by omega, by omega⟩
theorem u16r {n : Int} (h : (Lit.int .u16 n).wf = true) : ∃ k : Nat, n = k ∧ k < 65536 := by
  have m0 : IntKind.min .u16 = 0 := by decide
  have m1 : IntKind.max .u16 = 65535 := by decide
  simp only [Lit.wf, Bool.and_eq_true, decide_eq_true_eq, m0, m1] at h
  exact ⟨n.toNat, by omega, by omega⟩
theorem u32r {n : Int} (h : (Lit.int .u32 n).wf = true) : 0 ≤ n ∧ n < 4294967296 := by
  have m0 : IntKind.min .u32 = 0 := by decide
  have m1 : IntKind.max .u32 = 4294967295 := by decide
  simp only [Lit.wf, Bool.and_eq_true, decide_eq_true_eq, m0, m1] at h
  omega
theorem u64r {n : Int} (h : (Lit.int .u64 n).wf = true) : 0 ≤ n ∧ n < 18446744073709551616 := by
  have m0 : IntKind.min .u64 = 0 := by decide
  have m1 : IntKind.max .u64 = 18446744073709551615 := by decide
  simp only [Lit.wf, Bool.and_eq_true, decide_eq_true_eq, m0, m1] at h
  omega
theorem readU8 {rows : List (List Value)} (h : ∀ r ∈ rows, AS.Oks [.int .u8] r) : ∃ ss : List Int, ss.length = rows.length ∧ rows.flatten = ucells ss ∧ ∀ x ∈ ss, 0 ≤ x ∧ x < 256 := by
  obtain ⟨l, h1, h2, h3⟩ := AS.rows_as (fun s : Int => [.int .u8 s]) (fun s => 0 ≤ s ∧ s < 256) (fun r hr => by
    match r, hr with
    | [v], hr =>
      obtain ⟨n, rfl, hn⟩ := hr.1
      obtain ⟨m, rfl, hm⟩ := u8r hn
      exact ⟨m, rfl, by omega⟩) rows h
  exact ⟨l, h1, by rw [h2]; simp [ucells, List.map_eq_flatMap], h3⟩
theorem readU16 {rows : List (List Value)} (h : ∀ r ∈ rows, AS.Oks [.int .u16] r) : ∃ ss : List Int, ss.length = rows.length ∧ rows.flatten = wcells ss ∧ ∀ x ∈ ss, 0 ≤ x ∧ x < 65536 := by
  obtain ⟨l, h1, h2, h3⟩ := AS.rows_as (fun s : Int => [.int .u16 s]) (fun s => 0 ≤ s ∧ s < 65536) (fun r hr => by
    match r, hr with
    | [v], hr =>
      obtain ⟨n, rfl, hn⟩ := hr.1
      obtain ⟨m, rfl, hm⟩ := u16r hn
      exact ⟨m, rfl, by omega⟩) rows h
  exact ⟨l, h1, by rw [h2]; simp [wcells, List.map_eq_flatMap], h3⟩
set_option maxRecDepth 100000 in
theorem lifted (os : Os) (started : os.Started) (H : Type) (enc : TypeId × Value → H) :
    ReturnsInHanded {} Try.checked os 9 .any (Rows.inletTakesSpec.pre6 enc Try.prog Try.f9 Rows.inletTakesRow.domain false) (Rows.inletTakesSpec.post enc Try.prog Try.f9 false true false false) := by
  refine returnsInHanded_of_change_sized (C := Try.checked) own started (by kernel_rfl) Try.func9
    (ChangeSpec.witness6 (enc := enc) (C := Try.checked) false ⟨#[], #[.agg #[.string ByteArray.empty, .slice none 0 0, .int .u64 0, .bool false], .int .u8 0, .slice none 0 0], []⟩ 8 (by kernel_rfl) (by kernel_rfl) (by kernel_rfl) (by kernel_rfl)) ?_
  intro W base args ds gs before hval0 hW hcnd hsz0 _
  have hsz : (DataW.weightsEach Try.prog (Try.f9.params.toList ++ Rows.inletTakesSpec.plain.varTypes Try.prog) (ds ++ gs)).all (· ≤ reachBytes) = true := hsz0
  have hval : ∀ (j : Nat) t v, Try.f9.params[j]? = some t → args[j]? = some v → Value.okWide Try.prog W .any base t v := hval0
  have hW' := hW
  obtain ⟨p, q, hA0, hV, rfl, hfz, hnd⟩ := hW
  have hA : DataW.TrodAll enc Try.prog W 0 (fun _ => true) true Try.f9.params.toList args.toList ds p := hA0
  rw [Try.params9] at hA hval hsz
  obtain ⟨v0, vs0, d0, ds0, p0, q0, hargs, rfl, rfl, h0, r0⟩ := trodAll_cons hA
  obtain ⟨v1, vs1, d1, ds1, p1, q1, rfl, rfl, rfl, h1, r1⟩ := trodAll_cons r0
  obtain ⟨v2, vs2, d2, ds2, p2, q2, rfl, rfl, rfl, h2, r2⟩ := trodAll_cons r1
  obtain ⟨rfl, rfl, rfl⟩ := trodAll_nil r2
  obtain rfl : args = #[v0, v1, v2] := by cases args; simp_all
  obtain ⟨rfl, rfl⟩ := trodVars_none hV
  have lt0 : ∀ x ∈ p0, x.block < W.heap.size := by obtain ⟨m, hm⟩ := h0; exact DataW.trod_lt m _ _ _ hm
  obtain ⟨x0s, x0n, x0b, rows0, sv0, rfl, wf0, k0, w0⟩ := AS.open_path Try.underlying69 ⟨rfl, rfl, rfl, rfl⟩ (by kernel_rfl) (by kernel_rfl) (by kernel_rfl) (by kernel_rfl) (by kernel_rfl) Try.underlying9 Try.underlying22 Try.underlying50 Try.underlying4 (by kernel_rfl) (AS.elemOk_int Try.underlying5 (by kernel_rfl)) (hval 0 69 v0 rfl rfl) h0
  obtain ⟨x0, n0, f0, b0⟩ := readU8 k0
  rw [← n0, f0] at w0
  obtain ⟨x1, rfl, rfl, rfl, w1⟩ := open_int Try.underlying5 (hval 1 5 v1 rfl rfl) h1
  have lt2 : ∀ x ∈ p2, x.block < W.heap.size := by obtain ⟨m, hm⟩ := h2; exact DataW.trod_lt m _ _ _ hm
  obtain ⟨rows2, k2, w2⟩ := AS.open_rows Try.underlying70 (AS.elemOk_int Try.underlying56 (by kernel_rfl)) (hval 2 70 v2 rfl rfl) h2
  have k2r := w2
  obtain ⟨x2, n2, f2, b2⟩ := readU16 k2
  rw [← n2, f2] at w2
  have z2 : x2.length ≤ reachBytes := by rw [n2]; exact AS.slice_sized (j := 2) Try.underlying70 (by kernel_rfl) h2 hsz rfl rfl k2r
  obtain ⟨ρ0, A0, u0, g0, e0, s0, l0, c0⟩ := AS.Args.rowV (AS.Args.nil (P := Try.prog) (w := W)) w0 (by decide)
  have g0 := AS.Args.wrap2 g0 [.string x0s] [.int .u64 x0n, .bool x0b] (fun x hx => by rw [List.mem_singleton] at hx; subst hx; exact AS.Plain.string _) (fun x hx => by
    simp only [List.mem_cons, List.not_mem_nil, or_false] at hx
    rcases hx with hx | hx
    · subst hx; exact AS.Plain.int _ _
    · subst hx; exact AS.Plain.bool _)
  have g1 := AS.Args.plain (g0) (AS.Plain.int .u8 x1)
  obtain ⟨ρ2, A2, u2, g2, e2, s2, l2, c2⟩ := AS.Args.rowV (g1) w2 (by decide)
  have s0 := s0.ext e2 fun _ _ q => q
  have l0 := fun j hj => Nat.lt_of_lt_of_le (l0 j hj) e2.size
  have hw := (by obtain ⟨k, hk, hk2⟩ := u8r w1; subst hk; exact itakes_ok A2 x0s.data.toList u0 x0 x0n x0b k u2 x2 b0 s0 hk2 b2 s2 l2 (Nat.lt_of_le_of_lt z2 (by decide)) : AS.wF T (.func (.func 9) #[] #[]) [.agg ⟨[.string x0s, u0, .int .u64 x0n, .bool x0b]⟩, .int .u8 x1, u2] A2 (fun v _ => v = .bool true))
  refine (g2.calls tab (Checked.mixed Try.checked) hw).mono fun e W' ⟨he, bel⟩ => ?_
  subst he
  exact ⟨_, rfl, _, _, _, [], _, [], hW', trodAll_mk1 (shut_bool Try.underlying4 _), (trodAll_cons_mk (Below.trod laidOut (by kernel_rfl) (of_decide_eq_true (by kernel_rfl)) h0 bel lt0) (trodAll_cons_mk (shut_int Try.underlying5 w1) (trodAll_cons_mk (Below.trod laidOut (by kernel_rfl) (of_decide_eq_true (by kernel_rfl)) h2 bel lt2) trodAll_mk0))), rfl, bel.frame _, fun h => by cases h⟩
theorem over : Rows.inletTakesRow.holds Try.pinned (OpenSpec.ofChange Rows.inletTakesSpec) :=
  OpenClaim.holds_of_wide 9 Try.f9 rfl rfl rfl rfl rfl rfl rfl ⟨rfl, rfl, rfl, rfl, rfl⟩ rfl rfl rfl rfl rfl (by kernel_rfl) Try.func9 (by kernel_rfl)
    (of_decide_eq_true (by kernel_rfl)) (by unfold Func.isWrapper; first | (rw [if_pos (by decide +kernel)]; kernel_rfl) | (rw [if_neg (by decide +kernel)]; exact ⟨rfl, rfl⟩))
    (fun os started H enc _ => lifted os started H enc)
theorem proved : Rows.InletTakesSaid := over
#print axioms proved
end Go.Proofs.Ytidgbapgedegbaa.inletTakes
namespace Go.Proofs.Ytidgbapgedegbaa
/-- The row, under a short name, for the claim. -/
theorem inletTakes_holds : Rows.InletTakesSaid := inletTakes.proved
end Go.Proofs.Ytidgbapgedegbaa
