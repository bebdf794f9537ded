/- What is proved: the law SchedAgain answers yes at every input, and the input reads behind the call as it did before. No conditions. -/
import Derived.Test.YtbhhmnokddkhmaaRows
import Derived.Test.YtbhhmnokddkhmaaTi
import Derived.Test.YtbhhmnokddkhmaaAsZG
import Derived.WalkKit
import Derived.ProofKit
import Derived.OpenShut
import Derived.ShutString
import Derived.ChangeOld
import Derived.Below
import Derived.Carry
import Derived.SizedLaws
namespace Go.Proofs.Ytbhhmnokddkhmaa.schedAgain
open Go.ChangeShapes Go.WideShapes Go.ChangeAt Go.RowKit
open Go.ChangeMaps (open_string shut_string)
set_option linter.unusedVariables false
theorem own : ownKnob Try.prog.godebug = none := by kernel_rfl
theorem laidOut : laidOutB Try.prog = true := by kernel_rfl
set_option maxRecDepth 100000 in
theorem ran6 : AS.isTrue (AS.callN (AS.tabOf Try.prog) (400 + 1) (.func (.func 6) #[] #[]) [] AS.A0) = true := by decide +kernel
theorem tab : AS.TabOk Try.prog T := AS.tabYes_ok fun f hf => by
  rw [List.mem_singleton] at hf
  subst hf
  exact AS.closed_yes (Checked.mixed Try.checked) 400 6 ran6
theorem len4 {α : Type} {l : List α} (h : l.length = 4) : ∃ a b c d, l = [a, b, c, d] := by
  cases l with
  | nil => simp at h
  | cons a l => cases l with
    | nil => simp at h
    | cons b l => cases l with
      | nil => simp at h
      | cons c l => cases l with
        | nil => simp at h
        | cons d l => cases l with
          | nil => exact ⟨a, b, c, d, rfl⟩
          | cons e l => simp at h
theorem elemL : AS.ElemOk Try.prog 25 [.int .i64, .bool, .bool, .int .i64] := AS.elemOk_struct Try.underlying25 (by kernel_rfl) fun i p hp => by
  match i, hp with
  | 0, hp => cases hp; exact ⟨_, rfl, rfl, AS.elemOk_int Try.underlying3 (by kernel_rfl)⟩
  | 1, hp => cases hp; exact ⟨_, rfl, rfl, AS.elemOk_bool Try.underlying4 (by kernel_rfl)⟩
  | 2, hp => cases hp; exact ⟨_, rfl, rfl, AS.elemOk_bool Try.underlying4 (by kernel_rfl)⟩
  | 3, hp => cases hp; exact ⟨_, rfl, rfl, AS.elemOk_int Try.underlying3 (by kernel_rfl)⟩
  | n + 4, hp => simp at hp
theorem readL {rows : List (List Value)} (h : ∀ r ∈ rows, AS.Oks [.int .i64, .bool, .bool, .int .i64] r) : ∃ ls : List La, ls.length = rows.length ∧ rows.flatten = lcells ls ∧ True := by
  obtain ⟨l, h1, h2, h3⟩ := AS.rows_as La.cells (fun _ => True) (fun r hr => by
    have hl := hr.length
    obtain ⟨a, b, c, d, rfl⟩ := len4 hl
    have h1 : AS.Prim.ok (.int .i64) a := hr.1
    have h2 : AS.Prim.ok .bool b := hr.2.1
    have h3 : AS.Prim.ok .bool c := hr.2.2.1
    have h4 : AS.Prim.ok (.int .i64) d := hr.2.2.2.1
    obtain ⟨n, h1, _⟩ := h1
    obtain ⟨u, h2⟩ := h2
    obtain ⟨k, h3⟩ := h3
    obtain ⟨m, h4, _⟩ := h4
    exact ⟨⟨n, u, k, m⟩, by rw [h1, h2, h3, h4]; rfl, trivial⟩) rows h
  exact ⟨l, h1, h2, trivial⟩
theorem readB {rows : List (List Value)} (h : ∀ r ∈ rows, AS.Oks [.bool] r) : ∃ l : List Bool, l.length = rows.length ∧ rows.flatten = l.map .bool ∧ True := by
  obtain ⟨l, h1, h2, _⟩ := AS.rows_as (fun b : Bool => [.bool b]) (fun _ => True) (fun r hr => by
    match r, hr with
    | [v], hr =>
      have h1 : AS.Prim.ok .bool v := hr.1
      obtain ⟨u, h1⟩ := h1
      exact ⟨u, by rw [h1], trivial⟩) rows h
  exact ⟨l, h1, by rw [h2]; simp [List.map_eq_flatMap], trivial⟩
set_option maxRecDepth 100000 in
theorem lifted (os : Os) (started : os.Started) (H : Type) (enc : TypeId × Value → H) :
    ReturnsInHanded {} Try.checked os 4 .any (Rows.schedAgainSpec.pre6 enc Try.prog Try.f4 Rows.schedAgainRow.domain false) (Rows.schedAgainSpec.post enc Try.prog Try.f4 false true false false) := by
  refine returnsInHanded_of_change_sized (C := Try.checked) own started (by kernel_rfl) Try.func4
    (ChangeSpec.witness6 (enc := enc) (C := Try.checked) false ⟨#[], #[.slice none 0 0, .slice none 0 0, .int .i64 0, .int .i64 0], []⟩ 8 (by kernel_rfl) (by kernel_rfl) (by kernel_rfl) (by kernel_rfl)) ?_
  intro W base args ds gs before hval0 hW hcnd hsz0 _
  have hsz : (DataW.weightsEach Try.prog (Try.f4.params.toList ++ Rows.schedAgainSpec.plain.varTypes Try.prog) (ds ++ gs)).all (· ≤ reachBytes) = true := hsz0
  have hval : ∀ (j : Nat) t v, Try.f4.params[j]? = some t → args[j]? = some v → Value.okWide Try.prog W .any base t v := hval0
  have hW' := hW
  obtain ⟨p, q, hA0, hV, rfl, hfz, hnd⟩ := hW
  have hA : DataW.TrodAll enc Try.prog W 0 (fun _ => true) true Try.f4.params.toList args.toList ds p := hA0
  rw [Try.params4] at hA hval hsz
  obtain ⟨v0, vs0, d0, ds0, p0, q0, hargs, rfl, rfl, h0, r0⟩ := trodAll_cons hA
  obtain ⟨v1, vs1, d1, ds1, p1, q1, rfl, rfl, rfl, h1, r1⟩ := trodAll_cons r0
  obtain ⟨v2, vs2, d2, ds2, p2, q2, rfl, rfl, rfl, h2, r2⟩ := trodAll_cons r1
  obtain ⟨v3, vs3, d3, ds3, p3, q3, rfl, rfl, rfl, h3, r3⟩ := trodAll_cons r2
  obtain ⟨rfl, rfl, rfl⟩ := trodAll_nil r3
  obtain rfl : args = #[v0, v1, v2, v3] := by cases args; simp_all
  obtain ⟨rfl, rfl⟩ := trodVars_none hV
  have lt0 : ∀ x ∈ p0, x.block < W.heap.size := by obtain ⟨m, hm⟩ := h0; exact DataW.trod_lt m _ _ _ hm
  obtain ⟨rows0, k0, w0⟩ := AS.open_rows Try.underlying22 elemL (hval 0 22 v0 rfl rfl) h0
  obtain ⟨x0, n0, f0, b0⟩ := readL k0
  rw [← n0, f0] at w0
  have lt1 : ∀ x ∈ p1, x.block < W.heap.size := by obtain ⟨m, hm⟩ := h1; exact DataW.trod_lt m _ _ _ hm
  obtain ⟨rows1, k1, w1⟩ := AS.open_rows Try.underlying28 (AS.elemOk_bool Try.underlying4 (by kernel_rfl)) (hval 1 28 v1 rfl rfl) h1
  obtain ⟨x1, n1, f1, b1⟩ := readB k1
  rw [← n1, f1] at w1
  obtain ⟨x2, rfl, rfl, rfl, w2⟩ := open_int Try.underlying3 (hval 2 3 v2 rfl rfl) h2
  obtain ⟨x3, rfl, rfl, rfl, w3⟩ := open_int Try.underlying3 (hval 3 3 v3 rfl rfl) h3
  obtain ⟨ρ0, A0, u0, g0, e0, s0, l0, c0⟩ := AS.Args.rowV (AS.Args.nil (P := Try.prog) (w := W)) w0 (by decide)
  obtain ⟨ρ1, A1, u1, g1, e1, s1, l1, c1⟩ := AS.Args.rowV (g0) w1 (by decide)
  have s0 := s0.ext e1 fun _ _ q => q
  have l0 := fun j hj => Nat.lt_of_lt_of_le (l0 j hj) e1.size
  have g2 := AS.Args.plain (g1) (AS.Plain.int .i64 x2)
  have g3 := AS.Args.plain (g2) (AS.Plain.int .i64 x3)
  have hw := again_law x0 x1 x2 x3 u0 u1 A1 s0 c0 s1 l1
  refine (g3.calls tab (Checked.mixed Try.checked) hw).mono fun e W' ⟨he, bel⟩ => ?_
  subst he
  exact ⟨_, rfl, _, _, _, [], _, [], hW', trodAll_mk1 (shut_bool Try.underlying4 _), (trodAll_cons_mk (Below.trod laidOut (by kernel_rfl) (of_decide_eq_true (by kernel_rfl)) h0 bel lt0) (trodAll_cons_mk (Below.trod laidOut (by kernel_rfl) (of_decide_eq_true (by kernel_rfl)) h1 bel lt1) (trodAll_cons_mk (shut_int Try.underlying3 w2) (trodAll_cons_mk (shut_int Try.underlying3 w3) trodAll_mk0)))), rfl, bel.frame _, fun h => by cases h⟩
theorem over : Rows.schedAgainRow.holds Try.pinned (OpenSpec.ofChange Rows.schedAgainSpec) :=
  OpenClaim.holds_of_wide 4 Try.f4 rfl rfl rfl rfl rfl rfl rfl ⟨rfl, rfl, rfl, rfl, rfl⟩ rfl rfl rfl rfl rfl (by kernel_rfl) Try.func4 (by kernel_rfl)
    (of_decide_eq_true (by kernel_rfl)) (by unfold Func.isWrapper; first | (rw [if_pos (by decide +kernel)]; kernel_rfl) | (rw [if_neg (by decide +kernel)]; exact ⟨rfl, rfl⟩))
    (fun os started H enc _ => lifted os started H enc)
theorem proved : Rows.SchedAgainSaid := over
#print axioms proved
end Go.Proofs.Ytbhhmnokddkhmaa.schedAgain
namespace Go.Proofs.Ytbhhmnokddkhmaa
/-- The row, under a short name, for the claim. -/
theorem schedAgain_holds : Rows.SchedAgainSaid := schedAgain.proved
end Go.Proofs.Ytbhhmnokddkhmaa
