/- What is proved: the law FlowCarries answers yes at every input, and the input reads behind the call as it did before. No conditions. -/
import Derived.Test.YtidgbapgedegbaaRows
import Derived.Test.YtidgbapgedegbaaCo
import Derived.Test.YtidgbapgedegbaaYes
import Derived.Test.YtidgbapgedegbaaM3
import Derived.WalkKit
import Derived.ProofKit
import Derived.OpenShut
import Derived.ShutString
import Derived.ChangeOld
import Derived.Below
import Derived.Carry
import Derived.SizedLaws
import Derived.WideKeyPair
namespace Go.Proofs.Ytidgbapgedegbaa.flowCarries
open Go.ChangeShapes Go.WideShapes Go.ChangeAt Go.RowKit
open Go.ChangeMaps (open_string shut_string)
set_option linter.unusedVariables false
theorem own : ownKnob Try.prog.godebug = none := by kernel_rfl
theorem laidOut : laidOutB Try.prog = true := by kernel_rfl
theorem i64r {n : Int} (h : (Lit.int .i64 n).wf = true) : -9223372036854775808 ≤ n ∧ n < 9223372036854775808 := by
  have m0 : IntKind.min .i64 = -9223372036854775808 := by decide
  have m1 : IntKind.max .i64 = 9223372036854775807 := by decide
  simp only [Lit.wf, Bool.and_eq_true, decide_eq_true_eq, m0, m1] at h
  omega
theorem u8r {n : Int} (h : (Lit.int .u8 n).wf = true) : ∃ k : Nat, n = k ∧ k < 256 := by
  have m0 : IntKind.min .u8 = 0 := by decide
  have m1 : IntKind.max .u8 = 255 := by decide
  simp only [Lit.wf, Bool.and_eq_true, decide_eq_true_eq, m0, m1] at h
  exact ⟨n.toNat, by omega, by omega⟩
theorem u16r {n : Int} (h : (Lit.int .u16 n).wf = true) : ∃ k : Nat, n = k ∧ k < 65536 := by
  have m0 : IntKind.min .u16 = 0 := by decide
  have m1 : IntKind.max .u16 = 65535 := by decide
  simp only [Lit.wf, Bool.and_eq_true, decide_eq_true_eq, m0, m1] at h
  exact ⟨n.toNat, by omega, by omega⟩
theorem u32r {n : Int} (h : (Lit.int .u32 n).wf = true) : 0 ≤ n ∧ n < 4294967296 := by
  have m0 : IntKind.min .u32 = 0 := by decide
  have m1 : IntKind.max .u32 = 4294967295 := by decide
  simp only [Lit.wf, Bool.and_eq_true, decide_eq_true_eq, m0, m1] at h
  omega
theorem u64r {n : Int} (h : (Lit.int .u64 n).wf = true) : 0 ≤ n ∧ n < 18446744073709551616 := by
  have m0 : IntKind.min .u64 = 0 := by decide
  have m1 : IntKind.max .u64 = 18446744073709551615 := by decide
  simp only [Lit.wf, Bool.and_eq_true, decide_eq_true_eq, m0, m1] at h
  omega
theorem arrP : Go.WideMaps.ArrKey Try.prog 83 82 2 := ⟨Try.underlying83, by kernel_rfl, by kernel_rfl, by kernel_rfl⟩
theorem elemF : AS.ElemOk Try.prog 109 [.int .u8, .int .u8, .str] := AS.elemOk_struct Try.underlying109 (by kernel_rfl) fun i p hp => by
  match i, hp with
  | 0, hp => cases hp; exact ⟨_, rfl, rfl, AS.elemOk_int Try.underlying5 (by kernel_rfl)⟩
  | 1, hp => cases hp; exact ⟨_, rfl, rfl, AS.elemOk_int Try.underlying5 (by kernel_rfl)⟩
  | 2, hp => cases hp; exact ⟨_, rfl, rfl, AS.elemOk_string Try.underlying9 (by kernel_rfl)⟩
  | n + 3, hp => simp at hp
theorem readF {rows : List (List Value)} (h : ∀ r ∈ rows, AS.Oks [.int .u8, .int .u8, .str] r) : ∃ fs : List Fw.Ft, fs.length = rows.length ∧ rows.flatten = AS.encs Fw.ftc fs ∧ ∀ x ∈ fs, x.w < 256 ∧ x.n < 256 := by
  obtain ⟨l, h1, h2, h3⟩ := AS.rows_as (fun f : Fw.Ft => [.int .u8 (f.w : Int), .int .u8 (f.n : Int), .string f.s]) (fun f => f.w < 256 ∧ f.n < 256) (fun r hr => by
    match r, hr with
    | [v, w, y], hr =>
      obtain ⟨n, rfl, hn⟩ := hr.1
      obtain ⟨m, rfl, hm⟩ := hr.2.1
      obtain ⟨s, rfl, _⟩ := hr.2.2.1
      obtain ⟨k, rfl, hk⟩ := u8r hn
      obtain ⟨i, rfl, hi⟩ := u8r hm
      exact ⟨⟨k, i, s⟩, rfl, hk, hi⟩) rows h
  exact ⟨l, h1, h2, h3⟩
set_option maxRecDepth 100000 in
theorem lifted (os : Os) (started : os.Started) (H : Type) (enc : TypeId × Value → H) :
    ReturnsInHanded {} Try.checked os 13 .any (Rows.flowCarriesSpec.pre6 enc Try.prog Try.f13 Rows.flowCarriesRow.domain false) (Rows.flowCarriesSpec.post enc Try.prog Try.f13 false true false false) := by
  refine returnsInHanded_of_change_sized (C := Try.checked) own started (by kernel_rfl) Try.func13
    (ChangeSpec.witness6 (enc := enc) (C := Try.checked) false ⟨#[], #[.agg #[.int .u32 0, .int .u32 0], .int .u8 0, .slice none 0 0], []⟩ 8 (by kernel_rfl) (by kernel_rfl) (by kernel_rfl) (by kernel_rfl)) ?_
  intro W base args ds gs before hval0 hW hcnd hsz0 _
  have hsz : (DataW.weightsEach Try.prog (Try.f13.params.toList ++ Rows.flowCarriesSpec.plain.varTypes Try.prog) (ds ++ gs)).all (· ≤ reachBytes) = true := hsz0
  have hval : ∀ (j : Nat) t v, Try.f13.params[j]? = some t → args[j]? = some v → Value.okWide Try.prog W .any base t v := hval0
  have hW' := hW
  obtain ⟨p, q, hA0, hV, rfl, hfz, hnd⟩ := hW
  have hA : DataW.TrodAll enc Try.prog W 0 (fun _ => true) true Try.f13.params.toList args.toList ds p := hA0
  rw [Try.params13] at hA hval hsz
  obtain ⟨v0, vs0, d0, ds0, p0, q0, hargs, rfl, rfl, h0, r0⟩ := trodAll_cons hA
  obtain ⟨v1, vs1, d1, ds1, p1, q1, rfl, rfl, rfl, h1, r1⟩ := trodAll_cons r0
  obtain ⟨v2, vs2, d2, ds2, p2, q2, rfl, rfl, rfl, h2, r2⟩ := trodAll_cons r1
  obtain ⟨rfl, rfl, rfl⟩ := trodAll_nil r2
  obtain rfl : args = #[v0, v1, v2] := by cases args; simp_all
  obtain ⟨rfl, rfl⟩ := trodVars_none hV
  obtain ⟨x0a, x0b, rfl, rfl, rfl, w0a, w0b⟩ := Go.WideMaps.open_pair arrP Try.underlying82 (hval 0 83 v0 rfl rfl) h0
  obtain ⟨x1, rfl, rfl, rfl, w1⟩ := open_int Try.underlying5 (hval 1 5 v1 rfl rfl) h1
  have lt2 : ∀ x ∈ p2, x.block < W.heap.size := by obtain ⟨m, hm⟩ := h2; exact DataW.trod_lt m _ _ _ hm
  obtain ⟨rows2, k2, w2⟩ := AS.open_rows Try.underlying103 elemF (hval 2 103 v2 rfl rfl) h2
  obtain ⟨x2, n2, f2, b2⟩ := readF k2
  rw [← n2, f2] at w2
  have g0 := AS.Args.agg (AS.Args.nil (P := Try.prog) (w := W)) (l := [.int .u32 x0a, .int .u32 x0b]) (fun v hv => by
    simp only [List.mem_cons, List.not_mem_nil, or_false] at hv
    rcases hv with hv | hv <;> (subst hv; exact AS.Plain.int _ _))
  have g1 := AS.Args.plain (g0) (AS.Plain.int .u8 x1)
  obtain ⟨ρ2, A2, u2, g2, e2, s2, l2, c2⟩ := AS.Args.rowV (g1) w2 (by decide)
  have hw := (by obtain ⟨k, hk, hk2⟩ := u8r w1; subst hk; exact Fw.carries_ok x0a x0b k hk2 x2 u2 A2 (u32r w0a) (u32r w0b) b2 s2 l2 : AS.wF T (.func (.func 13) #[] #[]) [.agg ⟨[.int .u32 x0a, .int .u32 x0b]⟩, .int .u8 x1, u2] A2 (fun v _ => v = .bool true))
  refine (g2.calls tab (Checked.mixed Try.checked) hw).mono fun e W' ⟨he, bel⟩ => ?_
  subst he
  exact ⟨_, rfl, _, _, _, [], _, [], hW', trodAll_mk1 (shut_bool Try.underlying4 _), (trodAll_cons_mk (Go.WideMaps.shut_pair arrP Try.underlying82 w0a w0b) (trodAll_cons_mk (shut_int Try.underlying5 w1) (trodAll_cons_mk (Below.trod laidOut (by kernel_rfl) (of_decide_eq_true (by kernel_rfl)) h2 bel lt2) trodAll_mk0))), rfl, bel.frame _, fun h => by cases h⟩
theorem over : Rows.flowCarriesRow.holds Try.pinned (OpenSpec.ofChange Rows.flowCarriesSpec) :=
  OpenClaim.holds_of_wide 13 Try.f13 rfl rfl rfl rfl rfl rfl rfl ⟨rfl, rfl, rfl, rfl, rfl⟩ rfl rfl rfl rfl rfl (by kernel_rfl) Try.func13 (by kernel_rfl)
    (of_decide_eq_true (by kernel_rfl)) (by unfold Func.isWrapper; first | (rw [if_pos (by decide +kernel)]; kernel_rfl) | (rw [if_neg (by decide +kernel)]; exact ⟨rfl, rfl⟩))
    (fun os started H enc _ => lifted os started H enc)
theorem proved : Rows.FlowCarriesSaid := over
#print axioms proved
end Go.Proofs.Ytidgbapgedegbaa.flowCarries
namespace Go.Proofs.Ytidgbapgedegbaa
/-- The row, under a short name, for the claim. -/
theorem flowCarries_holds : Rows.FlowCarriesSaid := flowCarries.proved
end Go.Proofs.Ytidgbapgedegbaa
