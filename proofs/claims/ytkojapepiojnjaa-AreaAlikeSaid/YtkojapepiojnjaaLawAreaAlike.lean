/- What is proved: the law AreaAlike answers yes at every input, and the input reads behind the call as it did before. No conditions. -/
import Derived.Test.YtkojapepiojnjaaRows
import Derived.Test.YtkojapepiojnjaaQj
import Derived.Test.YtkojapepiojnjaaAsZG
import Derived.WalkKit
import Derived.ProofKit
import Derived.OpenShut
import Derived.ShutString
import Derived.ChangeOld
import Derived.Below
import Derived.Carry
import Derived.SizedLaws
namespace Go.Proofs.Ytkojapepiojnjaa.areaAlike
open Go.ChangeShapes Go.WideShapes Go.ChangeAt Go.RowKit
open Go.ChangeMaps (open_string shut_string)
set_option linter.unusedVariables false
theorem own : ownKnob Try.prog.godebug = none := by kernel_rfl
theorem laidOut : laidOutB Try.prog = true := by kernel_rfl
set_option maxRecDepth 100000 in
theorem ran12 : AS.isTrue (AS.callN (AS.tabOf Try.prog) (400 + 1) (.func (.func 12) #[] #[]) [] AS.A0) = true := by decide +kernel
theorem tab : AS.TabOk Try.prog T := AS.tabYes_ok fun f hf => by
  rw [List.mem_singleton] at hf
  subst hf
  exact AS.closed_yes (Checked.mixed Try.checked) 400 12 ran12
theorem elemD : AS.ElemOk Try.prog 53 [.int .u8, .str] := AS.elemOk_struct Try.underlying53 (by kernel_rfl) fun i p hp => by
  match i, hp with
  | 0, hp => cases hp; exact ⟨_, rfl, rfl, AS.elemOk_int Try.underlying5 (by kernel_rfl)⟩
  | 1, hp => cases hp; exact ⟨_, rfl, rfl, AS.elemOk_string Try.underlying9 (by kernel_rfl)⟩
  | n + 2, hp => simp at hp
theorem nat8 {n : Int} (h : (Lit.int .u8 n).wf = true) : ∃ k : Nat, n = k ∧ k < 256 := by
  have m0 : IntKind.min .u8 = 0 := by decide
  have m1 : IntKind.max .u8 = 255 := by decide
  simp only [Lit.wf, Bool.and_eq_true, decide_eq_true_eq, m0, m1] at h
  exact ⟨n.toNat, by omega, by omega⟩
theorem readD {rows : List (List Value)} (h : ∀ r ∈ rows, AS.Oks [.int .u8, .str] r) : ∃ ds : List Dr, ds.length = rows.length ∧ rows.flatten = dcells ds ∧ ∀ x ∈ ds, x.kind < 256 := by
  obtain ⟨l, h1, h2, h3⟩ := AS.rows_as (fun d : Dr => [.int .u8 (d.kind : Int), .string d.body]) (fun d => d.kind < 256) (fun r hr => by
    match r, hr with
    | [v, w], hr =>
      obtain ⟨n, rfl, hn⟩ := hr.1
      obtain ⟨s, rfl, _⟩ := hr.2.1
      obtain ⟨k, rfl, hk⟩ := nat8 hn
      exact ⟨⟨k, s⟩, rfl, hk⟩) rows h
  exact ⟨l, h1, h2, h3⟩
set_option maxRecDepth 100000 in
theorem lifted (os : Os) (started : os.Started) (H : Type) (enc : TypeId × Value → H) :
    ReturnsInHanded {} Try.checked os 7 .any (Rows.areaAlikeSpec.pre6 enc Try.prog Try.f7 Rows.areaAlikeRow.domain false) (Rows.areaAlikeSpec.post enc Try.prog Try.f7 false true false false) := by
  refine returnsInHanded_of_change_sized (C := Try.checked) own started (by kernel_rfl) Try.func7
    (ChangeSpec.witness6 (enc := enc) (C := Try.checked) false ⟨#[], #[.slice none 0 0, .slice none 0 0, .string ByteArray.empty], []⟩ 8 (by kernel_rfl) (by kernel_rfl) (by kernel_rfl) (by kernel_rfl)) ?_
  intro W base args ds gs before hval0 hW hcnd hsz0 _
  have hsz : (DataW.weightsEach Try.prog (Try.f7.params.toList ++ Rows.areaAlikeSpec.plain.varTypes Try.prog) (ds ++ gs)).all (· ≤ reachBytes) = true := hsz0
  have hval : ∀ (j : Nat) t v, Try.f7.params[j]? = some t → args[j]? = some v → Value.okWide Try.prog W .any base t v := hval0
  have hW' := hW
  obtain ⟨p, q, hA0, hV, rfl, hfz, hnd⟩ := hW
  have hA : DataW.TrodAll enc Try.prog W 0 (fun _ => true) true Try.f7.params.toList args.toList ds p := hA0
  rw [Try.params7] at hA hval hsz
  obtain ⟨v0, vs0, d0, ds0, p0, q0, hargs, rfl, rfl, h0, r0⟩ := trodAll_cons hA
  obtain ⟨v1, vs1, d1, ds1, p1, q1, rfl, rfl, rfl, h1, r1⟩ := trodAll_cons r0
  obtain ⟨v2, vs2, d2, ds2, p2, q2, rfl, rfl, rfl, h2, r2⟩ := trodAll_cons r1
  obtain ⟨rfl, rfl, rfl⟩ := trodAll_nil r2
  obtain rfl : args = #[v0, v1, v2] := by cases args; simp_all
  obtain ⟨rfl, rfl⟩ := trodVars_none hV
  have lt0 : ∀ x ∈ p0, x.block < W.heap.size := by obtain ⟨m, hm⟩ := h0; exact DataW.trod_lt m _ _ _ hm
  obtain ⟨rows0, k0, w0⟩ := AS.open_rows Try.underlying39 elemD (hval 0 39 v0 rfl rfl) h0
  obtain ⟨x0, n0, f0, b0⟩ := readD k0
  rw [← n0, f0] at w0
  have lt1 : ∀ x ∈ p1, x.block < W.heap.size := by obtain ⟨m, hm⟩ := h1; exact DataW.trod_lt m _ _ _ hm
  obtain ⟨rows1, k1, w1⟩ := AS.open_rows Try.underlying39 elemD (hval 1 39 v1 rfl rfl) h1
  obtain ⟨x1, n1, f1, b1⟩ := readD k1
  rw [← n1, f1] at w1
  obtain ⟨x2, rfl, rfl, rfl, w2⟩ := open_string Try.underlying9 (hval 2 9 v2 rfl rfl) h2
  have y2 : x2.size ≤ 140737488351232 := by
    have z := sized_string hsz (j := 2) (t := 9) rfl rfl
    rw [Array.length_toList] at z
    exact z
  obtain ⟨ρ0, A0, u0, g0, e0, s0, l0, c0⟩ := AS.Args.rowV (AS.Args.nil (P := Try.prog) (w := W)) w0 (by decide)
  obtain ⟨ρ1, A1, u1, g1, e1, s1, l1, c1⟩ := AS.Args.rowV (g0) w1 (by decide)
  have s0 := s0.ext e1 fun _ _ q => q
  have l0 := fun j hj => Nat.lt_of_lt_of_le (l0 j hj) e1.size
  have g2 := AS.Args.plain (g1) (AS.Plain.string x2)
  have hw := alike_ok x0 x1 x2 (by omega) u0 u1 A1 s0 s1 b0 b1
  refine (g2.calls tab (Checked.mixed Try.checked) hw).mono fun e W' ⟨he, bel⟩ => ?_
  subst he
  exact ⟨_, rfl, _, _, _, [], _, [], hW', trodAll_mk1 (shut_bool Try.underlying4 _), (trodAll_cons_mk (Below.trod laidOut (by kernel_rfl) (of_decide_eq_true (by kernel_rfl)) h0 bel lt0) (trodAll_cons_mk (Below.trod laidOut (by kernel_rfl) (of_decide_eq_true (by kernel_rfl)) h1 bel lt1) (trodAll_cons_mk (shut_string Try.underlying9 w2) trodAll_mk0))), rfl, bel.frame _, fun h => by cases h⟩
theorem over : Rows.areaAlikeRow.holds Try.pinned (OpenSpec.ofChange Rows.areaAlikeSpec) :=
  OpenClaim.holds_of_wide 7 Try.f7 rfl rfl rfl rfl rfl rfl rfl ⟨rfl, rfl, rfl, rfl, rfl⟩ rfl rfl rfl rfl rfl (by kernel_rfl) Try.func7 (by kernel_rfl)
    (of_decide_eq_true (by kernel_rfl)) (by unfold Func.isWrapper; first | (rw [if_pos (by decide +kernel)]; kernel_rfl) | (rw [if_neg (by decide +kernel)]; exact ⟨rfl, rfl⟩))
    (fun os started H enc _ => lifted os started H enc)
theorem proved : Rows.AreaAlikeSaid := over
#print axioms proved
end Go.Proofs.Ytkojapepiojnjaa.areaAlike
namespace Go.Proofs.Ytkojapepiojnjaa
/-- The row, under a short name, for the claim. -/
theorem areaAlike_holds : Rows.AreaAlikeSaid := areaAlike.proved
end Go.Proofs.Ytkojapepiojnjaa
