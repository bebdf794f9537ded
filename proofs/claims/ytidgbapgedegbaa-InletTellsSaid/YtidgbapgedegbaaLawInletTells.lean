/- What is proved: the law InletTells answers yes at every input, and the input reads behind the call as it did before. No conditions. -/
import Derived.Test.YtidgbapgedegbaaRows
import Derived.Test.YtidgbapgedegbaaJl
import Derived.Test.YtidgbapgedegbaaAy
import Derived.Test.YtidgbapgedegbaaYes
import Derived.Test.YtidgbapgedegbaaM3
import Derived.WalkKit
import Derived.ProofKit
import Derived.OpenShut
import Derived.ShutString
import Derived.ChangeOld
import Derived.Below
import Derived.Carry
import Derived.SizedLaws
namespace Go.Proofs.Ytidgbapgedegbaa.inletTells
open Go.ChangeShapes Go.WideShapes Go.ChangeAt Go.RowKit
open Go.ChangeMaps (open_string shut_string)
set_option linter.unusedVariables false
theorem own : ownKnob Try.prog.godebug = none := by kernel_rfl
theorem laidOut : laidOutB Try.prog = true := by kernel_rfl
theorem i64r {n : Int} (h : (Lit.int .i64 n).wf = true) : -9223372036854775808 ≤ n ∧ n < 9223372036854775808 := by
  have m0 : IntKind.min .i64 = -9223372036854775808 := by decide
  have m1 : IntKind.max .i64 = 9223372036854775807 := by decide
  simp only [Lit.wf, Bool.and_eq_true, decide_eq_true_eq, m0, m1] at h
  omega
theorem u8r {n : Int} (h : (Lit.int .u8 n).wf = true) : ∃ k : Nat, n = k ∧ k < 256 := by
  have m0 : IntKind.min .u8 = 0 := by decide
  have m1 : IntKind.max .u8 = 255 := by decide
  simp only [Lit.wf, Bool.and_eq_true, decide_eq_true_eq, m0, m1] at h
  exact ⟨n.toNat, by omega, by omega⟩
theorem u16r {n : Int} (h : (Lit.int .u16 n).wf = true) : ∃ k : Nat, n = k ∧ k < 65536 := by
  have m0 : IntKind.min .u16 = 0 := by decide
  have m1 : IntKind.max .u16 = 65535 := by decide
  simp only [Lit.wf, Bool.and_eq_true, decide_eq_true_eq, m0, m1] at h
  exact ⟨n.toNat, by omega, by omega⟩
theorem u32r {n : Int} (h : (Lit.int .u32 n).wf = true) : 0 ≤ n ∧ n < 4294967296 := by
  have m0 : IntKind.min .u32 = 0 := by decide
  have m1 : IntKind.max .u32 = 4294967295 := by decide
  simp only [Lit.wf, Bool.and_eq_true, decide_eq_true_eq, m0, m1] at h
  omega
theorem u64r {n : Int} (h : (Lit.int .u64 n).wf = true) : 0 ≤ n ∧ n < 18446744073709551616 := by
  have m0 : IntKind.min .u64 = 0 := by decide
  have m1 : IntKind.max .u64 = 18446744073709551615 := by decide
  simp only [Lit.wf, Bool.and_eq_true, decide_eq_true_eq, m0, m1] at h
  omega
theorem elemM : AS.ElemOk Try.prog 58 [.int .i64, .int .i64, .int .i64, .int .u16] := AS.elemOk_struct Try.underlying58 (by kernel_rfl) fun i p hp => by
  match i, hp with
  | 0, hp => cases hp; exact ⟨_, rfl, rfl, AS.elemOk_int Try.underlying3 (by kernel_rfl)⟩
  | 1, hp => cases hp; exact ⟨_, rfl, rfl, AS.elemOk_int Try.underlying3 (by kernel_rfl)⟩
  | 2, hp => cases hp; exact ⟨_, rfl, rfl, AS.elemOk_int Try.underlying3 (by kernel_rfl)⟩
  | 3, hp => cases hp; exact ⟨_, rfl, rfl, AS.elemOk_int Try.underlying56 (by kernel_rfl)⟩
  | n + 4, hp => simp at hp
theorem elemA : AS.ElemOk Try.prog 60 [.int .u8, .int .i64, .int .i64, .int .i64, .int .i64, .int .u16, .str] := AS.elemOk_nest (pss := [[.int .u8], [.int .i64], [.int .i64, .int .i64, .int .i64, .int .u16], [.str]]) Try.underlying60 (by kernel_rfl) fun i p hp => by
  match i, hp with
  | 0, hp => cases hp; exact ⟨_, rfl, rfl, AS.elemOk_int Try.underlying5 (by kernel_rfl)⟩
  | 1, hp => cases hp; exact ⟨_, rfl, rfl, AS.elemOk_int Try.underlying3 (by kernel_rfl)⟩
  | 2, hp => cases hp; exact ⟨_, rfl, rfl, elemM⟩
  | 3, hp => cases hp; exact ⟨_, rfl, rfl, AS.elemOk_string Try.underlying9 (by kernel_rfl)⟩
  | n + 4, hp => simp at hp
theorem oksC {p : AS.Prim} {ps : List AS.Prim} {r : List Value} (h : AS.Oks (p :: ps) r) : ∃ v t, r = v :: t ∧ p.ok v ∧ AS.Oks ps t := by
  cases r with
  | nil => exact h.elim
  | cons v t => exact ⟨v, t, rfl, h.1, h.2⟩
theorem oksN {r : List Value} (h : AS.Oks [] r) : r = [] := by
  cases r with
  | nil => rfl
  | cons v t => exact h.elim
theorem readA {rows : List (List Value)} (h : ∀ r ∈ rows, AS.Oks [.int .u8, .int .i64, .int .i64, .int .i64, .int .i64, .int .u16, .str] r) : ∃ fs : List Ac, fs.length = rows.length ∧ rows.flatten = AS.encs acc fs ∧ ∀ x ∈ fs, AcOk x := by
  obtain ⟨l, h1, h2, h3⟩ := AS.rows_as acc AcOk (fun r hr => by
    obtain ⟨v0, t0, rfl, ⟨n0, rfl, w0⟩, g0⟩ := oksC hr
    obtain ⟨v1, t1, rfl, ⟨n1, rfl, w1⟩, g1⟩ := oksC g0
    obtain ⟨v2, t2, rfl, ⟨n2, rfl, w2⟩, g2⟩ := oksC g1
    obtain ⟨v3, t3, rfl, ⟨n3, rfl, w3⟩, g3⟩ := oksC g2
    obtain ⟨v4, t4, rfl, ⟨n4, rfl, w4⟩, g4⟩ := oksC g3
    obtain ⟨v5, t5, rfl, ⟨n5, rfl, w5⟩, g5⟩ := oksC g4
    obtain ⟨v6, t6, rfl, ⟨s, rfl, _⟩, g6⟩ := oksC g5
    obtain rfl := oksN g6
    obtain ⟨k, rfl, hk⟩ := u8r w0
    obtain ⟨m, rfl, hm⟩ := u16r w5
    exact ⟨⟨k, n1, ⟨n2, n3, n4, (m : Int)⟩, s⟩, rfl, hk, i64r w1, (i64r w2).2, m, rfl, hm⟩) rows h
  exact ⟨l, h1, h2, h3⟩
set_option maxRecDepth 100000 in
theorem lifted (os : Os) (started : os.Started) (H : Type) (enc : TypeId × Value → H) :
    ReturnsInHanded {} Try.checked os 7 .any (Rows.inletTellsSpec.pre6 enc Try.prog Try.f7 Rows.inletTellsRow.domain false) (Rows.inletTellsSpec.post enc Try.prog Try.f7 false true false false) := by
  refine returnsInHanded_of_change_sized (C := Try.checked) own started (by kernel_rfl) Try.func7
    (ChangeSpec.witness6 (enc := enc) (C := Try.checked) false ⟨#[], #[.int .i64 0, .bool false, .int .u64 0, .slice none 0 0], []⟩ 8 (by kernel_rfl) (by kernel_rfl) (by kernel_rfl) (by kernel_rfl)) ?_
  intro W base args ds gs before hval0 hW hcnd hsz0 _
  have hsz : (DataW.weightsEach Try.prog (Try.f7.params.toList ++ Rows.inletTellsSpec.plain.varTypes Try.prog) (ds ++ gs)).all (· ≤ reachBytes) = true := hsz0
  have hval : ∀ (j : Nat) t v, Try.f7.params[j]? = some t → args[j]? = some v → Value.okWide Try.prog W .any base t v := hval0
  have hW' := hW
  obtain ⟨p, q, hA0, hV, rfl, hfz, hnd⟩ := hW
  have hA : DataW.TrodAll enc Try.prog W 0 (fun _ => true) true Try.f7.params.toList args.toList ds p := hA0
  rw [Try.params7] at hA hval hsz
  obtain ⟨v0, vs0, d0, ds0, p0, q0, hargs, rfl, rfl, h0, r0⟩ := trodAll_cons hA
  obtain ⟨v1, vs1, d1, ds1, p1, q1, rfl, rfl, rfl, h1, r1⟩ := trodAll_cons r0
  obtain ⟨v2, vs2, d2, ds2, p2, q2, rfl, rfl, rfl, h2, r2⟩ := trodAll_cons r1
  obtain ⟨v3, vs3, d3, ds3, p3, q3, rfl, rfl, rfl, h3, r3⟩ := trodAll_cons r2
  obtain ⟨rfl, rfl, rfl⟩ := trodAll_nil r3
  obtain rfl : args = #[v0, v1, v2, v3] := by cases args; simp_all
  obtain ⟨rfl, rfl⟩ := trodVars_none hV
  obtain ⟨x0, rfl, rfl, rfl, w0⟩ := open_int Try.underlying3 (hval 0 3 v0 rfl rfl) h0
  obtain ⟨x1, rfl, rfl, rfl⟩ := open_bool Try.underlying4 (hval 1 4 v1 rfl rfl) h1
  obtain ⟨x2, rfl, rfl, rfl, w2⟩ := open_int Try.underlying50 (hval 2 50 v2 rfl rfl) h2
  have lt3 : ∀ x ∈ p3, x.block < W.heap.size := by obtain ⟨m, hm⟩ := h3; exact DataW.trod_lt m _ _ _ hm
  obtain ⟨rows3, k3, w3⟩ := AS.open_rows Try.underlying51 elemA (hval 3 51 v3 rfl rfl) h3
  obtain ⟨x3, n3, f3, b3⟩ := readA k3
  rw [← n3, f3] at w3
  have g0 := AS.Args.plain (AS.Args.nil (P := Try.prog) (w := W)) (AS.Plain.int .i64 x0)
  have g1 := AS.Args.plain (g0) (AS.Plain.bool x1)
  have g2 := AS.Args.plain (g1) (AS.Plain.int .u64 x2)
  obtain ⟨ρ3, A3, u3, g3, e3, s3, l3, c3⟩ := AS.Args.rowV (g2) w3 (by decide)
  have hw := (itells_ok A3 x0 x1 x2 u3 x3 s3 l3 b3 : AS.wF T (.func (.func 7) #[] #[]) [.int .i64 x0, .bool x1, .int .u64 x2, u3] A3 (fun v _ => v = .bool true))
  refine (g3.calls tab (Checked.mixed Try.checked) hw).mono fun e W' ⟨he, bel⟩ => ?_
  subst he
  exact ⟨_, rfl, _, _, _, [], _, [], hW', trodAll_mk1 (shut_bool Try.underlying4 _), (trodAll_cons_mk (shut_int Try.underlying3 w0) (trodAll_cons_mk (shut_bool Try.underlying4 _) (trodAll_cons_mk (shut_int Try.underlying50 w2) (trodAll_cons_mk (Below.trod laidOut (by kernel_rfl) (of_decide_eq_true (by kernel_rfl)) h3 bel lt3) trodAll_mk0)))), rfl, bel.frame _, fun h => by cases h⟩
theorem over : Rows.inletTellsRow.holds Try.pinned (OpenSpec.ofChange Rows.inletTellsSpec) :=
  OpenClaim.holds_of_wide 7 Try.f7 rfl rfl rfl rfl rfl rfl rfl ⟨rfl, rfl, rfl, rfl, rfl⟩ rfl rfl rfl rfl rfl (by kernel_rfl) Try.func7 (by kernel_rfl)
    (of_decide_eq_true (by kernel_rfl)) (by unfold Func.isWrapper; first | (rw [if_pos (by decide +kernel)]; kernel_rfl) | (rw [if_neg (by decide +kernel)]; exact ⟨rfl, rfl⟩))
    (fun os started H enc _ => lifted os started H enc)
theorem proved : Rows.InletTellsSaid := over
#print axioms proved
end Go.Proofs.Ytidgbapgedegbaa.inletTells
namespace Go.Proofs.Ytidgbapgedegbaa
/-- The row, under a short name, for the claim. -/
theorem inletTells_holds : Rows.InletTellsSaid := inletTells.proved
end Go.Proofs.Ytidgbapgedegbaa
