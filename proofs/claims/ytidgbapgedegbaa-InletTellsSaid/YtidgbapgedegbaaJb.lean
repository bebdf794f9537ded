/- The reference's hole: plain laws. -/
import Derived.Test.YtidgbapgedegbaaIc
namespace Go.Proofs.Ytidgbapgedegbaa
open Go Go.AS
set_option maxRecDepth 100000
set_option linter.unusedSimpArgs false
set_option linter.unusedVariables false

def hv : Option UInt8 → Int
  | none => -1
  | some b => (b.toNat : Int)
def hcl (room base : Nat) (f : Bytes) : List Value := (List.range room).map fun (i : Nat) => .int .i64 (hv (f ((base : Int) + (i : Int))))
theorem hcl_len (room base : Nat) (f : Bytes) : (hcl room base f).length = room := by simp [hcl]
theorem hcl_at (room base : Nat) (f : Bytes) {i : Nat} (h : i < room) : (hcl room base f)[i]? = some (.int .i64 (hv (f ((base : Int) + (i : Int))))) := by
  simp [hcl, h]
theorem hcl_congr {room base base' : Nat} {f f' : Bytes} (h : ∀ i : Nat, i < room → f ((base : Int) + (i : Int)) = f' ((base' : Int) + (i : Int))) : hcl room base f = hcl room base' f' := by
  refine List.ext_getElem (by simp [hcl]) fun i h1 h2 => ?_
  rw [hcl_len] at h1
  simp [hcl, h i h1]
theorem hv_neg (o : Option UInt8) : (hv o < 0) ↔ o = none := by
  cases o with
  | none => simp [hv]
  | some b => simp [hv]
theorem cntB_step (base i : Nat) (f : Bytes) : ∀ (t : List UInt8) (off : Int), cntB (i + 1) base f off t = cntB i base f off t + (if off ≤ (base : Int) + (i : Int) ∧ (base : Int) + (i : Int) - off < (t.length : Int) ∧ f ((base : Int) + (i : Int)) = none then 1 else 0)
  | [], off => by
    rw [if_neg (by simp only [List.length_nil]; omega)]; rfl
  | c :: t, off => by
    simp only [cntB, cntB_step base i f t (off + 1), List.length_cons]
    by_cases e : off = (base : Int) + (i : Int)
    · subst e
      by_cases hn : f ((base : Int) + (i : Int)) = none
      · rw [if_pos ⟨by omega, by omega, hn⟩, if_neg (by omega), if_neg (by omega), if_pos ⟨by omega, by omega, hn⟩]; omega
      · rw [if_neg (fun q => hn q.2.2), if_neg (fun q => hn q.2.2), if_neg (fun q => hn q.2.2), if_neg (fun q => hn q.2.2)]; omega
    · have h1 : ((base : Int) ≤ off ∧ off < (base : Int) + ((i + 1 : Nat) : Int) ∧ f off = none) ↔ ((base : Int) ≤ off ∧ off < (base : Int) + (i : Int) ∧ f off = none) := by
        constructor
        · rintro ⟨a, b, c⟩; exact ⟨a, by omega, c⟩
        · rintro ⟨a, b, c⟩; exact ⟨a, by omega, c⟩
      have h2 : (off + 1 ≤ (base : Int) + (i : Int) ∧ (base : Int) + (i : Int) - (off + 1) < (t.length : Int) ∧ f ((base : Int) + (i : Int)) = none) ↔ (off ≤ (base : Int) + (i : Int) ∧ (base : Int) + (i : Int) - off < ((t.length + 1 : Nat) : Int) ∧ f ((base : Int) + (i : Int)) = none) := by
        constructor
        · rintro ⟨a, b, c⟩; exact ⟨by omega, by omega, c⟩
        · rintro ⟨a, b, c⟩; exact ⟨by omega, by omega, c⟩
      simp only [h1, h2]
      omega
theorem cntB_0 (base : Nat) (f : Bytes) : ∀ (t : List UInt8) (off : Int), cntB 0 base f off t = 0
  | [], off => rfl
  | c :: t, off => by rw [cntB, cntB_0, if_neg (by omega)]
theorem cntB_away (room base : Nat) (f : Bytes) : ∀ (t : List UInt8) (off : Int), (base : Int) + room ≤ off ∨ off + t.length ≤ base → cntB room base f off t = 0
  | [], off, _ => rfl
  | c :: t, off, h => by
    simp only [List.length_cons] at h
    rw [cntB, cntB_away room base f t (off + 1) (by omega), if_neg (by omega)]
theorem putB_0 (base : Nat) (off : Int) (t : List UInt8) (f : Bytes) : putB 0 base off t f = f := funext fun k => by
  unfold putB
  cases hk : f k with
  | some b => rfl
  | none => simp only; rw [if_neg (by omega)]
theorem putB_away (room base : Nat) (off : Int) (t : List UInt8) (f : Bytes) (h : (base : Int) + room ≤ off ∨ off + t.length ≤ base) : putB room base off t f = f := funext fun k => by
  unfold putB
  cases hk : f k with
  | some b => rfl
  | none =>
    simp only
    by_cases c : (base : Int) ≤ k ∧ k < (base : Int) + room ∧ off ≤ k
    · rw [if_pos c, List.getElem?_eq_none (by omega)]
    · rw [if_neg c]
/-- One place more. -/
theorem putB_more (room base i : Nat) (off : Int) (t : List UInt8) (f : Bytes) (hi : i < room) :
    (∀ h : off ≤ (base : Int) + (i : Int) ∧ (base : Int) + (i : Int) - off < (t.length : Int) ∧ f ((base : Int) + (i : Int)) = none, hcl room base (putB (i + 1) base off t f) = (hcl room base (putB i base off t f)).set i (.int .i64 (((t[((base : Int) + (i : Int) - off).toNat]'(by omega)).toNat : Nat) : Int))) ∧
    (¬ (off ≤ (base : Int) + (i : Int) ∧ (base : Int) + (i : Int) - off < (t.length : Int) ∧ f ((base : Int) + (i : Int)) = none) → hcl room base (putB (i + 1) base off t f) = hcl room base (putB i base off t f)) := by
  have other : ∀ k : Nat, k ≠ i → putB (i + 1) base off t f ((base : Int) + (k : Int)) = putB i base off t f ((base : Int) + (k : Int)) := fun k hk => by
    unfold putB
    cases hf : f ((base : Int) + (k : Int)) with
    | some b => rfl
    | none =>
      simp only
      by_cases c : k < i
      · by_cases c2 : off ≤ (base : Int) + (k : Int)
        · rw [if_pos (by omega), if_pos (by omega)]
        · rw [if_neg (by omega), if_neg (by omega)]
      · rw [if_neg (by omega), if_neg (by omega)]
  constructor
  · intro h
    obtain ⟨h1, h2, h3⟩ := h
    refine List.ext_getElem (by simp [hcl]) fun k k1 k2 => ?_
    rw [hcl_len] at k1
    rw [List.getElem_set]
    by_cases e : i = k
    · subst e
      rw [if_pos rfl]
      have hx : putB (i + 1) base off t f ((base : Int) + (i : Int)) = some (t[((base : Int) + (i : Int) - off).toNat]'(by omega)) := by
        unfold putB
        rw [h3]
        simp only
        rw [if_pos (by omega), List.getElem?_eq_getElem (by omega)]
      simp [hcl, hx, hv]
    · rw [if_neg e]
      simp [hcl, other k (fun q => e q.symm)]
  · intro h
    refine hcl_congr fun k hk => ?_
    by_cases e : k = i
    · subst e
      unfold putB
      cases hf : f ((base : Int) + (k : Int)) with
      | some b => rfl
      | none =>
        simp only
        rw [if_neg (c := (base : Int) ≤ (base : Int) + (k : Int) ∧ (base : Int) + (k : Int) < (base : Int) + (k : Nat) ∧ off ≤ (base : Int) + (k : Int)) (by omega)]
        by_cases c : off ≤ (base : Int) + (k : Int)
        · rw [if_pos (by omega), List.getElem?_eq_none]
          have : ¬ ((base : Int) + (k : Int) - off < (t.length : Int)) := fun q => h ⟨c, q, hf⟩
          omega
        · rw [if_neg (by omega)]
    · exact other k e
theorem putB_i (base i : Nat) (off : Int) (t : List UInt8) (f : Bytes) : putB i base off t f ((base : Int) + (i : Int)) = f ((base : Int) + (i : Int)) := by
  unfold putB
  cases hf : f ((base : Int) + (i : Int)) with
  | some b => rfl
  | none => simp only; rw [if_neg (by omega)]
/-- A row that loses its front. -/
theorem hcl_skip (room base n : Nat) (f : Bytes) (hdom : ∀ k b, f k = some b → (base : Int) ≤ k ∧ k < (base : Int) + room) : (hcl room base f).drop (min n room) ++ List.replicate (min n room) (.int .i64 (-1)) = hcl room (base + n) (cutB f (base + n)) := by
  refine List.ext_getElem? fun i => ?_
  have hl : ((hcl room base f).drop (min n room)).length = room - min n room := by rw [List.length_drop, hcl_len]
  by_cases c : i < room
  · rw [hcl_at _ _ _ c]
    have hcut : cutB f (base + n) (((base + n : Nat) : Int) + (i : Int)) = f (((base + n : Nat) : Int) + (i : Int)) := by
      unfold cutB; rw [if_neg (by omega)]
    rw [hcut]
    by_cases c2 : i < room - min n room
    · rw [List.getElem?_append_left (by omega), List.getElem?_drop, hcl_at _ _ _ (by omega)]
      congr 4; omega
    · rw [List.getElem?_append_right (by omega), List.getElem?_replicate, if_pos (by omega)]
      have : f (((base + n : Nat) : Int) + (i : Int)) = none := by
        cases hf : f (((base + n : Nat) : Int) + (i : Int)) with
        | none => rfl
        | some b => have := hdom _ _ hf; omega
      rw [this]; rfl
  · rw [List.getElem?_eq_none (l := hcl room (base + n) (cutB f (base + n))) (by rw [hcl_len]; omega), List.getElem?_eq_none]
    rw [List.length_append, hl, List.length_replicate]; omega
end Go.Proofs.Ytidgbapgedegbaa
