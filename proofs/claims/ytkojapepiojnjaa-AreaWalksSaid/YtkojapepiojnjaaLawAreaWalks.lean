/- What is proved: the law AreaWalks answers yes at every input, and the input reads behind the call as it did before. No conditions. -/
import Derived.Test.YtkojapepiojnjaaRows
import Derived.Test.YtkojapepiojnjaaQo
import Derived.Test.YtkojapepiojnjaaAsZG
import Derived.WalkKit
import Derived.ProofKit
import Derived.OpenShut
import Derived.ShutString
import Derived.ChangeOld
import Derived.Below
import Derived.Carry
import Derived.SizedLaws
import Derived.WideKeyPair
namespace Go.Proofs.Ytkojapepiojnjaa.areaWalks
open Go.ChangeShapes Go.WideShapes Go.ChangeAt Go.RowKit
open Go.ChangeMaps (open_string shut_string)
set_option linter.unusedVariables false
theorem own : ownKnob Try.prog.godebug = none := by kernel_rfl
theorem laidOut : laidOutB Try.prog = true := by kernel_rfl
set_option maxRecDepth 100000 in
theorem ran12 : AS.isTrue (AS.callN (AS.tabOf Try.prog) (400 + 1) (.func (.func 12) #[] #[]) [] AS.A0) = true := by decide +kernel
theorem tab : AS.TabOk Try.prog T := AS.tabYes_ok fun f hf => by
  rw [List.mem_singleton] at hf
  subst hf
  exact AS.closed_yes (Checked.mixed Try.checked) 400 12 ran12
theorem len2 {α : Type} {l : List α} (h : l.length = 2) : ∃ a b, l = [a, b] := by
  cases l with
  | nil => simp at h
  | cons a l => cases l with
    | nil => simp at h
    | cons b l => cases l with
      | nil => exact ⟨a, b, rfl⟩
      | cons c l => simp at h
theorem elemI : AS.ElemOk Try.prog 24 [.int .i64, .str] := AS.elemOk_struct Try.underlying24 (by kernel_rfl) fun i p hp => by
  match i, hp with
  | 0, hp => cases hp; exact ⟨_, rfl, rfl, AS.elemOk_int Try.underlying3 (by kernel_rfl)⟩
  | 1, hp => cases hp; exact ⟨_, rfl, rfl, AS.elemOk_string Try.underlying9 (by kernel_rfl)⟩
  | n + 2, hp => simp at hp
theorem readI {rows : List (List Value)} (h : ∀ r ∈ rows, AS.Oks [.int .i64, .str] r) : ∃ its : List It, its.length = rows.length ∧ rows.flatten = icells its ∧ True := by
  obtain ⟨l, h1, h2, h3⟩ := AS.rows_as (fun x : It => [.int .i64 x.kind, .string x.body]) (fun _ => True) (fun r hr => by
    have hl := hr.length
    obtain ⟨v, w, rfl⟩ := len2 hl
    have h1 : AS.Prim.ok (.int .i64) v := hr.1
    have h2 : AS.Prim.ok .str w := hr.2.1
    obtain ⟨n, h1, _⟩ := h1
    obtain ⟨s, h2, _⟩ := h2
    exact ⟨⟨n, s⟩, by rw [h1, h2], trivial⟩) rows h
  exact ⟨l, h1, h2, trivial⟩
theorem nat8 {n : Int} (h : (Lit.int .u8 n).wf = true) : ∃ k : Nat, n = k ∧ k < 256 := by
  have m0 : IntKind.min .u8 = 0 := by decide
  have m1 : IntKind.max .u8 = 255 := by decide
  simp only [Lit.wf, Bool.and_eq_true, decide_eq_true_eq, m0, m1] at h
  exact ⟨n.toNat, by omega, by omega⟩
theorem arr32 : Go.WideMaps.ArrKey Try.prog 32 5 2 := ⟨Try.underlying32, by kernel_rfl, by kernel_rfl, by kernel_rfl⟩
set_option maxRecDepth 100000 in
theorem lifted (os : Os) (started : os.Started) (H : Type) (enc : TypeId × Value → H) :
    ReturnsInHanded {} Try.checked os 4 .any (Rows.areaWalksSpec.pre6 enc Try.prog Try.f4 Rows.areaWalksRow.domain false) (Rows.areaWalksSpec.post enc Try.prog Try.f4 false true false false) := by
  refine returnsInHanded_of_change_sized (C := Try.checked) own started (by kernel_rfl) Try.func4
    (ChangeSpec.witness6 (enc := enc) (C := Try.checked) false ⟨#[], #[.string ByteArray.empty, .slice none 0 0, .agg #[.int .u8 0, .int .u8 0]], []⟩ 8 (by kernel_rfl) (by kernel_rfl) (by kernel_rfl) (by kernel_rfl)) ?_
  intro W base args ds gs before hval0 hW hcnd hsz0 _
  have hsz : (DataW.weightsEach Try.prog (Try.f4.params.toList ++ Rows.areaWalksSpec.plain.varTypes Try.prog) (ds ++ gs)).all (· ≤ reachBytes) = true := hsz0
  have hval : ∀ (j : Nat) t v, Try.f4.params[j]? = some t → args[j]? = some v → Value.okWide Try.prog W .any base t v := hval0
  have hW' := hW
  obtain ⟨p, q, hA0, hV, rfl, hfz, hnd⟩ := hW
  have hA : DataW.TrodAll enc Try.prog W 0 (fun _ => true) true Try.f4.params.toList args.toList ds p := hA0
  rw [Try.params4] at hA hval hsz
  obtain ⟨v0, vs0, d0, ds0, p0, q0, hargs, rfl, rfl, h0, r0⟩ := trodAll_cons hA
  obtain ⟨v1, vs1, d1, ds1, p1, q1, rfl, rfl, rfl, h1, r1⟩ := trodAll_cons r0
  obtain ⟨v2, vs2, d2, ds2, p2, q2, rfl, rfl, rfl, h2, r2⟩ := trodAll_cons r1
  obtain ⟨rfl, rfl, rfl⟩ := trodAll_nil r2
  obtain rfl : args = #[v0, v1, v2] := by cases args; simp_all
  obtain ⟨rfl, rfl⟩ := trodVars_none hV
  obtain ⟨x0, rfl, rfl, rfl, w0⟩ := open_string Try.underlying9 (hval 0 9 v0 rfl rfl) h0
  have y0 : x0.size ≤ 140737488351232 := by
    have z := sized_string hsz (j := 0) (t := 9) rfl rfl
    rw [Array.length_toList] at z
    exact z
  have lt1 : ∀ x ∈ p1, x.block < W.heap.size := by obtain ⟨m, hm⟩ := h1; exact DataW.trod_lt m _ _ _ hm
  obtain ⟨rows1, k1, w1⟩ := AS.open_rows Try.underlying22 elemI (hval 1 22 v1 rfl rfl) h1
  obtain ⟨x1, n1, f1, b1⟩ := readI k1
  rw [← n1, f1] at w1
  obtain ⟨x2a, x2b, rfl, rfl, rfl, w2a, w2b⟩ := Go.WideMaps.open_pair arr32 Try.underlying5 (hval 2 32 v2 rfl rfl) h2
  have g0 := AS.Args.plain (AS.Args.nil (P := Try.prog) (w := W)) (AS.Plain.string x0)
  obtain ⟨ρ1, A1, u1, g1, e1, s1, l1, c1⟩ := AS.Args.rowV (g0) w1 (by decide)
  have g2 := AS.Args.agg (g1) (l := [.int .u8 x2a, .int .u8 x2b]) (fun v hv => by
    simp only [List.mem_cons, List.not_mem_nil, or_false] at hv
    rcases hv with hv | hv <;> (subst hv; exact AS.Plain.int _ _))
  have hw := (by obtain ⟨k, hk, hk2⟩ := nat8 w2a; obtain ⟨j, hj, hj2⟩ := nat8 w2b; subst hk; subst hj; exact walks_ok x0 (by omega) x1 k j hk2 hj2 u1 A1 s1 c1 : AS.wF T (.func (.func 4) #[] #[]) [.string x0, u1, .agg ⟨[.int .u8 x2a, .int .u8 x2b]⟩] A1 (fun v _ => v = .bool true))
  refine (g2.calls tab (Checked.mixed Try.checked) hw).mono fun e W' ⟨he, bel⟩ => ?_
  subst he
  exact ⟨_, rfl, _, _, _, [], _, [], hW', trodAll_mk1 (shut_bool Try.underlying4 _), (trodAll_cons_mk (shut_string Try.underlying9 w0) (trodAll_cons_mk (Below.trod laidOut (by kernel_rfl) (of_decide_eq_true (by kernel_rfl)) h1 bel lt1) (trodAll_cons_mk (Go.WideMaps.shut_pair arr32 Try.underlying5 w2a w2b) trodAll_mk0))), rfl, bel.frame _, fun h => by cases h⟩
theorem over : Rows.areaWalksRow.holds Try.pinned (OpenSpec.ofChange Rows.areaWalksSpec) :=
  OpenClaim.holds_of_wide 4 Try.f4 rfl rfl rfl rfl rfl rfl rfl ⟨rfl, rfl, rfl, rfl, rfl⟩ rfl rfl rfl rfl rfl (by kernel_rfl) Try.func4 (by kernel_rfl)
    (of_decide_eq_true (by kernel_rfl)) (by unfold Func.isWrapper; first | (rw [if_pos (by decide +kernel)]; kernel_rfl) | (rw [if_neg (by decide +kernel)]; exact ⟨rfl, rfl⟩))
    (fun os started H enc _ => lifted os started H enc)
theorem proved : Rows.AreaWalksSaid := over
#print axioms proved
end Go.Proofs.Ytkojapepiojnjaa.areaWalks
namespace Go.Proofs.Ytkojapepiojnjaa
/-- The row, under a short name, for the claim. -/
theorem areaWalks_holds : Rows.AreaWalksSaid := areaWalks.proved
end Go.Proofs.Ytkojapepiojnjaa
