/- The cells of an argument of any plain type: structs in structs, and arrays, too. -/
import Derived.Test.YtigknpfjhegkgaaGreatM3
import Derived.OpenShut
set_option linter.unusedSimpArgs false
set_option linter.unusedVariables false
namespace Go.AS
open Go
theorem oks_append : ∀ {ps qs : List Prim} {xs ys : List Value}, Oks ps xs → Oks qs ys → Oks (ps ++ qs) (xs ++ ys)
  | [], _, [], _, _, h => h
  | _ :: _, _, _ :: _, _, h, k => ⟨h.1, oks_append h.2 k⟩
  | [], _, _ :: _, _, h, _ => h.elim
  | _ :: _, _, [], _, h, _ => h.elim
def shapeFs (sh : TypeId → Option (List Prim)) : Nat → List Field → Option (List Prim)
  | _, [] => some []
  | o, f :: r => if f.offset = o then match sh f.type with | some ps => (shapeFs sh (o + ps.length) r).map (ps ++ ·) | none => none else none
def times {α : Type} : Nat → List α → List α
  | 0, _ => []
  | n + 1, l => l ++ times n l
theorem times_len {α : Type} (l : List α) : ∀ n, (times n l).length = n * l.length
  | 0 => by simp [times]
  | n + 1 => by rw [times, List.length_append, times_len l n, Nat.succ_mul, Nat.add_comm]
/-- The cells of a type without pointers. -/
def shapeOf (P : Program) : Nat → TypeId → Option (List Prim)
  | 0, _ => none
  | n + 1, t => match P.underlying t with
    | some .string => if P.cellsOf t = 1 then some [.str] else none
    | some (.int k) => if P.cellsOf t = 1 then some [.int k] else none
    | some .bool => if P.cellsOf t = 1 then some [.bool] else none
    | some (.struct fs) => match shapeFs (shapeOf P n) 0 fs.toList with
      | some ps => if P.cellsOf t = ps.length then some ps else none
      | none => none
    | some (.array m e) => match shapeOf P n e with
      | some ps => if P.cellsOf t = m * ps.length then some (times m ps) else none
      | none => none
    | _ => none
theorem oks_fields {P : Program} {sh : TypeId → Option (List Prim)} (ih : ∀ t ps, sh t = some ps → ElemOk P t ps) {H : Type} {enc : TypeId × Value → H} {w : World} {base : Nat} {sp : Nat → Bool} {held : Bool} {n : Nat} {cs : List Value} :
    ∀ (fs : List Field) (o : Nat) (ps : List Prim), shapeFs sh o fs = some ps → cs.length = o + ps.length → (∀ f ∈ fs, ∃ x, DataW.trod enc P w base sp held n f.type ((cs.drop f.offset).take (P.cellsOf f.type)) = some x) → Oks ps (cs.drop o)
  | [], o, ps, h, hl, _ => by
    cases h
    rw [List.drop_of_length_le (by simp at hl; omega)]
    trivial
  | f :: r, o, ps, h, hl, hx => by
    simp only [shapeFs] at h
    split at h
    · rename_i ho
      split at h
      · rename_i p1 h1
        cases h2 : shapeFs sh (o + p1.length) r with
        | none => rw [h2] at h; cases h
        | some p2 =>
          rw [h2] at h
          obtain rfl : p1 ++ p2 = ps := Option.some.inj h
          have e1 := ih _ _ h1
          obtain ⟨x, hx1⟩ := hx f (List.mem_cons_self ..)
          have k1 := e1.2 enc w base sp held n _ _ hx1
          rw [ho, e1.1] at k1
          have k2 := oks_fields ih r (o + p1.length) p2 h2 (by simp at hl; omega) fun g hg => hx g (List.mem_cons_of_mem _ hg)
          have := oks_append k1 k2
          rwa [← List.drop_drop, List.take_append_drop] at this
      · cases h
    · cases h
theorem oks_times {P : Program} {e : TypeId} {ps : List Prim} (he : ElemOk P e ps) {H : Type} {enc : TypeId × Value → H} {w : World} {base : Nat} {sp : Nat → Bool} {held : Bool} {n : Nat} {cs : List Value} :
    ∀ (k o : Nat), cs.length = (o + k) * ps.length → (∀ i, o ≤ i → i < o + k → ∃ x, DataW.trod enc P w base sp held n e ((cs.drop (i * P.cellsOf e)).take (P.cellsOf e)) = some x) → Oks (times k ps) (cs.drop (o * ps.length))
  | 0, o, hl, _ => by
    rw [List.drop_of_length_le (by rw [hl]; exact Nat.le_refl _)]
    trivial
  | k + 1, o, hl, hx => by
    obtain ⟨x, h1⟩ := hx o (Nat.le_refl _) (by omega)
    have k1 := he.2 enc w base sp held n _ _ h1
    rw [he.1] at k1
    have k2 := oks_times he k (o + 1) (by rw [hl]; congr 1; omega) fun i hi hi2 => hx i (by omega) (by omega)
    have := oks_append k1 k2
    rwa [Nat.succ_mul, ← List.drop_drop, List.take_append_drop] at this
theorem shapeOf_ok {P : Program} : ∀ (n : Nat) (t : TypeId) (ps : List Prim), shapeOf P n t = some ps → ElemOk P t ps
  | 0, _, _, h => by cases h
  | n + 1, t, ps, h => by
    unfold shapeOf at h
    split at h
    · rename_i hu
      split at h
      · rename_i hc; cases h; exact elemOk_string hu hc
      · cases h
    · rename_i k hu
      split at h
      · rename_i hc; cases h; exact elemOk_int hu hc
      · cases h
    · rename_i hu
      split at h
      · rename_i hc; cases h; exact elemOk_bool hu hc
      · cases h
    · rename_i fs hu
      split at h
      · rename_i ps' hp
        split at h
        · rename_i hc
          cases h
          refine ⟨hc, fun enc w base sp held fuel cs x hd => ?_⟩
          obtain ⟨xs, m, _, _, hl, hx, hi⟩ := DataW.trod_struct hu hd
          have := oks_fields (fun t ps => shapeOf_ok n t ps) (enc := enc) (w := w) (base := base) (sp := sp) (held := held) (n := m) (cs := cs) fs.toList 0 ps hp (by omega) fun f hf => by
            obtain ⟨i, hi1, hi2⟩ := List.getElem_of_mem hf
            have hi3 : fs[i]? = some f := by rw [← Array.getElem?_toList, List.getElem?_eq_getElem hi1, hi2]
            have h4 := hi i f hi3
            have hlt : i < xs.length := by rw [hx]; simpa using hi1
            rw [List.getElem?_eq_getElem hlt] at h4
            exact ⟨_, h4⟩
          simpa using this
        · cases h
      · cases h
    · rename_i m e hu
      split at h
      · rename_i ps' hp
        split at h
        · rename_i hc
          cases h
          refine ⟨by rw [hc, times_len], fun enc w base sp held fuel cs x hd => ?_⟩
          obtain ⟨xs, k, _, _, hl, hx, hi⟩ := DataW.trod_array hu hd
          have := oks_times (shapeOf_ok n e ps' hp) (enc := enc) (w := w) (base := base) (sp := sp) (held := held) (n := k) (cs := cs) m 0 (by rw [hl, hc, Nat.zero_add]) fun i _ hlt => by
            have h4 := hi i (by omega)
            rw [List.getElem?_eq_getElem (by omega)] at h4
            exact ⟨_, h4⟩
          simpa using this
        · cases h
      · cases h
    · cases h
end Go.AS
