/- What is proved: the law InletSpoilt answers yes at every input, and the input reads behind the call as it did before. No conditions. -/
import Derived.Test.YtidgbapgedegbaaRows
import Derived.Test.YtidgbapgedegbaaDw
import Derived.Test.YtidgbapgedegbaaAw
import Derived.Test.YtidgbapgedegbaaYes
import Derived.Test.YtidgbapgedegbaaM3
import Derived.WalkKit
import Derived.ProofKit
import Derived.OpenShut
import Derived.ShutString
import Derived.ChangeOld
import Derived.Below
import Derived.Carry
import Derived.SizedLaws
namespace Go.Proofs.Ytidgbapgedegbaa.inletSpoilt
open Go.ChangeShapes Go.WideShapes Go.ChangeAt Go.RowKit
open Go.ChangeMaps (open_string shut_string)
set_option linter.unusedVariables false
theorem own : ownKnob Try.prog.godebug = none := by kernel_rfl
theorem laidOut : laidOutB Try.prog = true := by kernel_rfl
theorem i64r {n : Int} (h : (Lit.int .i64 n).wf = true) : -9223372036854775808 ≤ n ∧ n < 9223372036854775808 := by
  have m0 : IntKind.min .i64 = -9223372036854775808 := by decide
  have m1 : IntKind.max .i64 = 9223372036854775807 := by decide
  simp only [Lit.wf, Bool.and_eq_true, decide_eq_true_eq, m0, m1] at h
  omega
theorem u8r {n : Int} (h : (Lit.int .u8 n).wf = true) : ∃ k : Nat, n = k ∧ k < 256 := by
  have m0 : IntKind.min .u8 = 0 := by decide
  have m1 : IntKind.max .u8 = 255 := by decide
  simp only [Lit.wf, Bool.and_eq_true, decide_eq_true_eq, m0, m1] at h
  exact ⟨n.toNat, by omega, by omega⟩
theorem u16r {n : Int} (h : (Lit.int .u16 n).wf = true) : ∃ k : Nat, n = k ∧ k < 65536 := by
  have m0 : IntKind.min .u16 = 0 := by decide
  have m1 : IntKind.max .u16 = 65535 := by decide
  simp only [Lit.wf, Bool.and_eq_true, decide_eq_true_eq, m0, m1] at h
  exact ⟨n.toNat, by omega, by omega⟩
theorem u32r {n : Int} (h : (Lit.int .u32 n).wf = true) : 0 ≤ n ∧ n < 4294967296 := by
  have m0 : IntKind.min .u32 = 0 := by decide
  have m1 : IntKind.max .u32 = 4294967295 := by decide
  simp only [Lit.wf, Bool.and_eq_true, decide_eq_true_eq, m0, m1] at h
  omega
theorem u64r {n : Int} (h : (Lit.int .u64 n).wf = true) : 0 ≤ n ∧ n < 18446744073709551616 := by
  have m0 : IntKind.min .u64 = 0 := by decide
  have m1 : IntKind.max .u64 = 18446744073709551615 := by decide
  simp only [Lit.wf, Bool.and_eq_true, decide_eq_true_eq, m0, m1] at h
  omega
theorem readU8 {rows : List (List Value)} (h : ∀ r ∈ rows, AS.Oks [.int .u8] r) : ∃ ss : List Int, ss.length = rows.length ∧ rows.flatten = ucells ss ∧ ∀ x ∈ ss, 0 ≤ x ∧ x < 256 := by
  obtain ⟨l, h1, h2, h3⟩ := AS.rows_as (fun s : Int => [.int .u8 s]) (fun s => 0 ≤ s ∧ s < 256) (fun r hr => by
    match r, hr with
    | [v], hr =>
      obtain ⟨n, rfl, hn⟩ := hr.1
      obtain ⟨m, rfl, hm⟩ := u8r hn
      exact ⟨m, rfl, by omega⟩) rows h
  exact ⟨l, h1, by rw [h2]; simp [ucells, List.map_eq_flatMap], h3⟩
set_option maxRecDepth 100000 in
theorem lifted (os : Os) (started : os.Started) (H : Type) (enc : TypeId × Value → H) :
    ReturnsInHanded {} Try.checked os 10 .any (Rows.inletSpoiltSpec.pre6 enc Try.prog Try.f10 Rows.inletSpoiltRow.domain false) (Rows.inletSpoiltSpec.post enc Try.prog Try.f10 false true false false) := by
  refine returnsInHanded_of_change_sized (C := Try.checked) own started (by kernel_rfl) Try.func10
    (ChangeSpec.witness6 (enc := enc) (C := Try.checked) false ⟨#[], #[.agg #[.string ByteArray.empty, .slice none 0 0, .int .u64 0, .bool false], .int .u16 0, .int .u8 0, .bool false], []⟩ 8 (by kernel_rfl) (by kernel_rfl) (by kernel_rfl) (by kernel_rfl)) ?_
  intro W base args ds gs before hval0 hW hcnd hsz0 _
  have hsz : (DataW.weightsEach Try.prog (Try.f10.params.toList ++ Rows.inletSpoiltSpec.plain.varTypes Try.prog) (ds ++ gs)).all (· ≤ reachBytes) = true := hsz0
  have hval : ∀ (j : Nat) t v, Try.f10.params[j]? = some t → args[j]? = some v → Value.okWide Try.prog W .any base t v := hval0
  have hW' := hW
  obtain ⟨p, q, hA0, hV, rfl, hfz, hnd⟩ := hW
  have hA : DataW.TrodAll enc Try.prog W 0 (fun _ => true) true Try.f10.params.toList args.toList ds p := hA0
  rw [Try.params10] at hA hval hsz
  obtain ⟨v0, vs0, d0, ds0, p0, q0, hargs, rfl, rfl, h0, r0⟩ := trodAll_cons hA
  obtain ⟨v1, vs1, d1, ds1, p1, q1, rfl, rfl, rfl, h1, r1⟩ := trodAll_cons r0
  obtain ⟨v2, vs2, d2, ds2, p2, q2, rfl, rfl, rfl, h2, r2⟩ := trodAll_cons r1
  obtain ⟨v3, vs3, d3, ds3, p3, q3, rfl, rfl, rfl, h3, r3⟩ := trodAll_cons r2
  obtain ⟨rfl, rfl, rfl⟩ := trodAll_nil r3
  obtain rfl : args = #[v0, v1, v2, v3] := by cases args; simp_all
  obtain ⟨rfl, rfl⟩ := trodVars_none hV
  have lt0 : ∀ x ∈ p0, x.block < W.heap.size := by obtain ⟨m, hm⟩ := h0; exact DataW.trod_lt m _ _ _ hm
  obtain ⟨x0s, x0n, x0b, rows0, sv0, rfl, wf0, k0, w0⟩ := AS.open_path Try.underlying69 ⟨rfl, rfl, rfl, rfl⟩ (by kernel_rfl) (by kernel_rfl) (by kernel_rfl) (by kernel_rfl) (by kernel_rfl) Try.underlying9 Try.underlying22 Try.underlying50 Try.underlying4 (by kernel_rfl) (AS.elemOk_int Try.underlying5 (by kernel_rfl)) (hval 0 69 v0 rfl rfl) h0
  obtain ⟨x0, n0, f0, b0⟩ := readU8 k0
  rw [← n0, f0] at w0
  obtain ⟨x1, rfl, rfl, rfl, w1⟩ := open_int Try.underlying56 (hval 1 56 v1 rfl rfl) h1
  obtain ⟨x2, rfl, rfl, rfl, w2⟩ := open_int Try.underlying5 (hval 2 5 v2 rfl rfl) h2
  obtain ⟨x3, rfl, rfl, rfl⟩ := open_bool Try.underlying4 (hval 3 4 v3 rfl rfl) h3
  obtain ⟨ρ0, A0, u0, g0, e0, s0, l0, c0⟩ := AS.Args.rowV (AS.Args.nil (P := Try.prog) (w := W)) w0 (by decide)
  have g0 := AS.Args.wrap2 g0 [.string x0s] [.int .u64 x0n, .bool x0b] (fun x hx => by rw [List.mem_singleton] at hx; subst hx; exact AS.Plain.string _) (fun x hx => by
    simp only [List.mem_cons, List.not_mem_nil, or_false] at hx
    rcases hx with hx | hx
    · subst hx; exact AS.Plain.int _ _
    · subst hx; exact AS.Plain.bool _)
  have g1 := AS.Args.plain (g0) (AS.Plain.int .u16 x1)
  have g2 := AS.Args.plain (g1) (AS.Plain.int .u8 x2)
  have g3 := AS.Args.plain (g2) (AS.Plain.bool x3)
  have hw := (by obtain ⟨k, hk, hk2⟩ := u8r w2; subst hk; obtain ⟨k1, hk1, hk12⟩ := u16r w1; subst hk1; exact ispoilt_ok A0 x0s.data.toList u0 x0 x0n x0b k1 k x3 b0 s0 hk12 hk2 : AS.wF T (.func (.func 10) #[] #[]) [.agg ⟨[.string x0s, u0, .int .u64 x0n, .bool x0b]⟩, .int .u16 x1, .int .u8 x2, .bool x3] A0 (fun v _ => v = .bool true))
  refine (g3.calls tab (Checked.mixed Try.checked) hw).mono fun e W' ⟨he, bel⟩ => ?_
  subst he
  exact ⟨_, rfl, _, _, _, [], _, [], hW', trodAll_mk1 (shut_bool Try.underlying4 _), (trodAll_cons_mk (Below.trod laidOut (by kernel_rfl) (of_decide_eq_true (by kernel_rfl)) h0 bel lt0) (trodAll_cons_mk (shut_int Try.underlying56 w1) (trodAll_cons_mk (shut_int Try.underlying5 w2) (trodAll_cons_mk (shut_bool Try.underlying4 _) trodAll_mk0)))), rfl, bel.frame _, fun h => by cases h⟩
theorem over : Rows.inletSpoiltRow.holds Try.pinned (OpenSpec.ofChange Rows.inletSpoiltSpec) :=
  OpenClaim.holds_of_wide 10 Try.f10 rfl rfl rfl rfl rfl rfl rfl ⟨rfl, rfl, rfl, rfl, rfl⟩ rfl rfl rfl rfl rfl (by kernel_rfl) Try.func10 (by kernel_rfl)
    (of_decide_eq_true (by kernel_rfl)) (by unfold Func.isWrapper; first | (rw [if_pos (by decide +kernel)]; kernel_rfl) | (rw [if_neg (by decide +kernel)]; exact ⟨rfl, rfl⟩))
    (fun os started H enc _ => lifted os started H enc)
theorem proved : Rows.InletSpoiltSaid := over
#print axioms proved
end Go.Proofs.Ytidgbapgedegbaa.inletSpoilt
namespace Go.Proofs.Ytidgbapgedegbaa
/-- The row, under a short name, for the claim. -/
theorem inletSpoilt_holds : Rows.InletSpoiltSaid := inletSpoilt.proved
end Go.Proofs.Ytidgbapgedegbaa
