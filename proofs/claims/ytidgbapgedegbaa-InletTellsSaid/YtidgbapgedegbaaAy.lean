/- An element that is a struct with structs in it. -/
import Derived.Test.YtidgbapgedegbaaM3
namespace Go.AS
open Go Go.RowKit
set_option linter.unusedVariables false
theorem oks_append : ∀ {ps qs : List Prim} {l m : List Value}, Oks ps l → Oks qs m → Oks (ps ++ qs) (l ++ m)
  | [], _, [], _, _, h => h
  | p :: ps, _, v :: l, _, h1, h2 => ⟨h1.1, oks_append h1.2 h2⟩
  | [], _, _ :: _, _, h, _ => h.elim
  | _ :: _, _, [], _, h, _ => h.elim
theorem oks_flat : ∀ {pss : List (List Prim)} {cs : List Value}, cs.length = pss.flatten.length → (∀ i ps, pss[i]? = some ps → Oks ps ((cs.drop (pss.take i).flatten.length).take ps.length)) → Oks pss.flatten cs
  | [], cs, hl, _ => by
    have : cs = [] := List.length_eq_zero_iff.1 hl
    subst this; trivial
  | ps :: pss, cs, hl, h => by
    have h0 := h 0 ps rfl
    simp only [List.take_zero, List.flatten_nil, List.length_nil, List.drop_zero] at h0
    have ih := oks_flat (pss := pss) (cs := cs.drop ps.length) (by rw [List.length_drop, hl, List.flatten_cons, List.length_append]; omega) fun i qs hi => by
      have := h (i + 1) qs (by simpa using hi)
      rw [List.take_succ_cons, List.flatten_cons, List.length_append, ← List.drop_drop] at this
      exact this
    have := oks_append h0 ih
    rwa [List.take_append_drop] at this
theorem elemOk_nest {P : Program} {e : TypeId} {fs : Array Field} {pss : List (List Prim)} (he : P.underlying e = some (.struct fs)) (hc : P.cellsOf e = pss.flatten.length)
    (hf : ∀ (i : Nat) ps, pss[i]? = some ps → ∃ f, fs[i]? = some f ∧ f.offset = (pss.take i).flatten.length ∧ ElemOk P f.type ps) : ElemOk P e pss.flatten := by
  refine ⟨hc, fun enc w base sp held fuel cs x h => ?_⟩
  obtain ⟨xs, n, _, _, hl, hx, hi⟩ := DataW.trod_struct he h
  refine oks_flat (by omega) fun i ps hp => ?_
  obtain ⟨f, h1, h2, h3⟩ := hf i ps hp
  have hlt : i < xs.length := by rw [hx]; exact (Array.getElem?_eq_some_iff.1 h1).1
  have h4 := hi i f h1
  rw [List.getElem?_eq_getElem hlt] at h4
  have h5 := h3.2 enc w base sp held n _ _ h4
  rw [h2, h3.1] at h5
  exact h5
end Go.AS
