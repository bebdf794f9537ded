/- What is proved: the law OutletOnce answers yes at every input, and the input reads behind the call as it did. No conditions. -/
import Derived.Test.YtiilphienfadmaaRows
import Derived.Test.YtiilphienfadmaaPe
import Derived.Test.YtiilphienfadmaaAsZG
import Derived.WalkKit
import Derived.ProofKit
import Derived.OpenShut
import Derived.ShutString
import Derived.ChangeOld
import Derived.Below
import Derived.Carry
import Derived.SizedLaws
namespace Go.Proofs.Ytiilphienfadmaa.outletOnce
open Go.ChangeShapes Go.WideShapes Go.ChangeAt Go.RowKit
set_option linter.unusedVariables false
theorem own : ownKnob Try.prog.godebug = none := by kernel_rfl
theorem laidOut : laidOutB Try.prog = true := by kernel_rfl
set_option maxRecDepth 100000 in
theorem ran : AS.isTrue (AS.callN (AS.tabOf Try.prog) (400 + 1) (.func (.func 7) #[] #[]) [] AS.A0) = true := by decide +kernel
theorem tab : AS.TabOk Try.prog T := AS.tabYes_ok fun f hf => by
  rw [List.mem_singleton] at hf
  subst hf
  exact AS.closed_yes (Checked.mixed Try.checked) 400 7 ran
theorem read0 {rows : List (List Value)} (h : ∀ r ∈ rows, AS.Oks [.str] r) : ∃ ss : List ByteArray, ss.length = rows.length ∧ rows.flatten = strs ss := by
  obtain ⟨l, h1, h2, _⟩ := AS.rows_as (fun s : ByteArray => [.string s]) (fun _ => True) (fun r hr => by
    match r, hr with
    | [v], hr => obtain ⟨s, rfl, _⟩ := hr.1; exact ⟨s, rfl, trivial⟩) rows h
  exact ⟨l, h1, by rw [h2]; simp [strs, List.map_eq_flatMap]⟩
theorem read1 {rows : List (List Value)} (h : ∀ r ∈ rows, AS.Oks [.int .u16] r) : ∃ ks : List Nat, ks.length = rows.length ∧ rows.flatten = u16s ks := by
  obtain ⟨l, h1, h2, _⟩ := AS.rows_as (fun n : Nat => [.int .u16 (n : Int)]) (fun _ => True) (fun r hr => by
    match r, hr with
    | [v], hr =>
      obtain ⟨n, rfl, hn⟩ := hr.1
      have h0 : 0 ≤ n := by
        have m0 : IntKind.min .u16 = 0 := by decide
        simp only [Lit.wf, Bool.and_eq_true, decide_eq_true_eq, m0] at hn
        exact hn.1
      exact ⟨n.toNat, by simp [Int.toNat_of_nonneg h0], trivial⟩) rows h
  exact ⟨l, h1, by rw [h2]; simp [u16s, List.map_eq_flatMap]⟩
set_option maxRecDepth 100000 in
theorem lifted (os : Os) (started : os.Started) (H : Type) (enc : TypeId × Value → H) :
    ReturnsInHanded {} Try.checked os 3 .any (Rows.outletOnceSpec.pre6 enc Try.prog Try.f3 Rows.outletOnceRow.domain false) (Rows.outletOnceSpec.post enc Try.prog Try.f3 false true false false) := by
  refine returnsInHanded_of_change_sized (C := Try.checked) own started (by kernel_rfl) Try.func3
    (ChangeSpec.witness6 (enc := enc) (C := Try.checked) false ⟨#[], #[.slice none 0 0, .slice none 0 0], []⟩ 8 (by kernel_rfl) (by kernel_rfl) (by kernel_rfl) (by kernel_rfl)) ?_
  intro W base args ds gs before hval0 hW hcnd hsz0 _
  have hval : ∀ (j : Nat) t v, Try.f3.params[j]? = some t → args[j]? = some v → Value.okWide Try.prog W .any base t v := hval0
  have hW' := hW
  obtain ⟨p, q, hA0, hV, rfl, hfz, hnd⟩ := hW
  have hA : DataW.TrodAll enc Try.prog W 0 (fun _ => true) true Try.f3.params.toList args.toList ds p := hA0
  rw [Try.params3] at hA hval
  obtain ⟨v0, vs0, d0, ds0, p0, q0, hargs, rfl, rfl, h0, r0⟩ := trodAll_cons hA
  obtain ⟨v1, vs1, d1, ds1, p1, q1, rfl, rfl, rfl, h1, r1⟩ := trodAll_cons r0
  obtain ⟨rfl, rfl, rfl⟩ := trodAll_nil r1
  obtain rfl : args = #[v0, v1] := by cases args; simp_all
  obtain ⟨rfl, rfl⟩ := trodVars_none hV
  have lt0 : ∀ x ∈ p0, x.block < W.heap.size := by obtain ⟨m, hm⟩ := h0; exact DataW.trod_lt m _ _ _ hm
  have lt1 : ∀ x ∈ p1, x.block < W.heap.size := by obtain ⟨m, hm⟩ := h1; exact DataW.trod_lt m _ _ _ hm
  obtain ⟨rows0, k0, w0⟩ := AS.open_rows Try.underlying22 (AS.elemOk_string Try.underlying9 (by kernel_rfl)) (hval 0 22 v0 rfl rfl) h0
  obtain ⟨rows1, k1, w1⟩ := AS.open_rows Try.underlying23 (AS.elemOk_int Try.underlying30 (by kernel_rfl)) (hval 1 23 v1 rfl rfl) h1
  obtain ⟨x0, n0, f0⟩ := read0 k0
  obtain ⟨x1, n1, f1⟩ := read1 k1
  rw [← n0, f0] at w0
  rw [← n1, f1] at w1
  obtain ⟨ρ0, A1, u0, g0, e0, s0, l0⟩ := AS.Args.nil.row w0 (by decide)
  obtain ⟨ρ1, A2, u1, g1, e1, s1, l1⟩ := g0.row w1 (by decide)
  have hw := once_ok x0 x1 u0 u1 A2 (s0.ext e1 fun _ _ q => q) s1 (fun j hj => Nat.lt_of_lt_of_le (l0 j hj) e1.size) l1
  refine (g1.calls tab (Checked.mixed Try.checked) hw).mono fun e W' ⟨he, bel⟩ => ?_
  subst he
  exact ⟨_, rfl, _, _, _, [], _, [], hW', trodAll_mk1 (shut_bool Try.underlying4 _), trodAll_cons_mk (Below.trod laidOut (by kernel_rfl) (of_decide_eq_true (by kernel_rfl)) h0 bel lt0) (trodAll_cons_mk (Below.trod laidOut (by kernel_rfl) (of_decide_eq_true (by kernel_rfl)) h1 bel lt1) trodAll_mk0), rfl, bel.frame _, fun h => by cases h⟩
theorem over : Rows.outletOnceRow.holds Try.pinned (OpenSpec.ofChange Rows.outletOnceSpec) :=
  OpenClaim.holds_of_wide 3 Try.f3 rfl rfl rfl rfl rfl rfl rfl ⟨rfl, rfl, rfl, rfl, rfl⟩ rfl rfl rfl rfl rfl (by kernel_rfl) Try.func3 (by kernel_rfl)
    (of_decide_eq_true (by kernel_rfl)) (by unfold Func.isWrapper; first | (rw [if_pos (by decide +kernel)]; kernel_rfl) | (rw [if_neg (by decide +kernel)]; exact ⟨rfl, rfl⟩))
    (fun os started H enc _ => lifted os started H enc)
theorem proved : Rows.OutletOnceSaid := over
#print axioms proved
end Go.Proofs.Ytiilphienfadmaa.outletOnce
namespace Go.Proofs.Ytiilphienfadmaa
/-- The row, under a short name, for the claim. -/
theorem outletOnce_holds : Rows.OutletOnceSaid := outletOnce.proved
end Go.Proofs.Ytiilphienfadmaa
