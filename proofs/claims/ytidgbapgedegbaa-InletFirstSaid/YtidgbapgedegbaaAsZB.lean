import Derived.Test.YtidgbapgedegbaaAsZA
import Derived.Below
namespace Go.AS
open Go Go.RowKit
set_option linter.unusedSimpArgs false
set_option linter.unusedVariables false

/-- The program's functions, in our words. -/
def tabOf (P : Program) : FTab := fun f => match P.funcs[f]? with
  | some F => if F.name == "runtime.NumGoroutine" then none else compileF P F
  | none => none

theorem tabOf_ok (P : Program) : TabOk P (tabOf P) := by
  intro f fn h
  unfold tabOf at h
  split at h
  · rename_i F hF
    split at h
    · cases h
    · rename_i hn
      exact ⟨F, hF, by simpa using hn, compileF_body h, .inl h⟩
  · cases h

def A0 : AHeap := ⟨0, .leaf⟩

def isTrue : Option (Value × AHeap) → Bool
  | some (.bool true, _) => true
  | _ => false

theorem isTrue_spec {r : Option (Value × AHeap)} (h : isTrue r = true) : ∃ A, r = some (.bool true, A) := by
  unfold isTrue at h
  split at h
  · exact ⟨_, rfl⟩
  · cases h

/-- A memory whose blocks are only read: what a call leaves of the machine's. -/
theorem Tr.below {C : Comp} {ρ ρ' : Ren} {A A' : AHeap} {w w' : World} (T : Tr C ρ A w ρ' A' w') (h : ∀ b, passive (A.get b)) : Below w.heap.size w w' :=
  ⟨T.os, T.tape, T.output, T.hsize, fun k hk => T.frame k hk fun b e _ _ _ => h b⟩

/-- A function without arguments that answers yes says so wherever it is called. -/
theorem closed_yes {P : Program} (hmix : P.follows .mixedOrders = true) (n f : Nat) (h : isTrue (callN (tabOf P) (n + 1) (.func (.func f) #[] #[]) [] A0) = true) : SaysYes P f := by
  intro w
  obtain ⟨A', hA⟩ := isTrue_spec h
  obtain ⟨_, h2⟩ := callN_fn_sound (tabOf_ok P) hmix (callN_sound (tabOf_ok P) hmix n) hA
  have hget : ∀ b, A0.get b = none := fun b => by unfold AHeap.get; rfl
  obtain ⟨ρ', vc, w', h3, h4, h5⟩ := h2 (fun _ => none) w [] .nil ⟨fun b e x he => (by cases he), fun b b' e e' x x' _ he => (by cases he)⟩ (fun _ _ _ => rfl)
  cases h4
  have hb := h5.below fun b => by rw [hget]; trivial
  exact ⟨w', h3, hb.os, hb.tape, hb.output, hb.size, hb.block⟩

/-- The program's functions, some of them known to say yes. -/
def tabYes (P : Program) (yes : List Nat) : FTab := fun f => if yes.contains f then (match P.funcs[f]? with
  | some F => if F.name == "runtime.NumGoroutine" then none else if F.body.isNone then none else some sayYes
  | none => none) else tabOf P f

theorem tabYes_ok {P : Program} {yes : List Nat} (h : ∀ f ∈ yes, SaysYes P f) : TabOk P (tabYes P yes) := by
  intro f fn hf
  unfold tabYes at hf
  split at hf
  · rename_i hy
    split at hf
    · rename_i F hF
      split at hf
      · cases hf
      · rename_i hn
        split at hf
        · cases hf
        · rename_i hb
          cases hf
          exact ⟨F, hF, by simpa using hn, Bool.eq_false_iff.2 hb, .inr ⟨rfl, h f (by simpa using hy)⟩⟩
    · cases hf
  · exact tabOf_ok P f fn hf

/-- A function without arguments that answers yes. -/
theorem closed_calls {P : Program} (hmix : P.follows .mixedOrders = true) (n f : Nat) (h : isTrue (callN (tabOf P) (n + 1) (.func (.func f) #[] #[]) [] A0) = true) (w : World) :
    Calls P f #[] w fun e w' => e = .returned (.bool true) ∧ Below w.heap.size w w' := by
  obtain ⟨A', hA⟩ := isTrue_spec h
  obtain ⟨_, h2⟩ := callN_fn_sound (tabOf_ok P) hmix (callN_sound (tabOf_ok P) hmix n) hA
  have hget : ∀ b, A0.get b = none := fun b => by unfold AHeap.get; rfl
  obtain ⟨ρ', vc, w', h3, h4, h5⟩ := h2 (fun _ => none) w [] .nil ⟨fun b e x he => (by cases he), fun b b' e e' x x' _ he => (by cases he)⟩ (fun _ _ _ => rfl)
  cases h4
  intro cs
  obtain ⟨fr, k1, k2, k3⟩ := h3 cs
  exact ⟨.returned (.bool true), w', fr, ⟨rfl, h5.below fun b => by rw [hget]; trivial⟩, k1, k2, k3⟩

end Go.AS
