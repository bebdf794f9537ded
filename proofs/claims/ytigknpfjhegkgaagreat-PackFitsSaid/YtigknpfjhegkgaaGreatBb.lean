/- Places that are turned around: the plain law. -/
import Derived.Test.YtigknpfjhegkgaaGreatBa
import Derived.KernelRfl
namespace Go.Proofs.YtigknpfjhegkgaaGreat
open Go
def swap1 (l : List Nat) (i j : Nat) : List Nat := (l.set i (l.getD j 0)).set j (l.getD i 0)
theorem swap1_len (l : List Nat) (i j : Nat) : (swap1 l i j).length = l.length := by simp [swap1]
def swp : List Nat → Nat → Nat → Nat → List Nat
  | l, _, _, 0 => l
  | l, a, b, n + 1 => swp (swap1 l a b) (a + 1) (b + 1) n
theorem swp_len : ∀ (n : Nat) (l : List Nat) (a b : Nat), (swp l a b n).length = l.length
  | 0, _, _, _ => rfl
  | n + 1, l, a, b => by rw [swp, swp_len n, swap1_len]
theorem swap1_app (x U w V z : List Nat) (u v : Nat) : swap1 (x ++ (u :: U ++ (w ++ (v :: V ++ z)))) x.length (x.length + (U.length + 1) + w.length) = x ++ (v :: U ++ (w ++ (u :: V ++ z))) := by
  have g1 : (x ++ (u :: U ++ (w ++ (v :: V ++ z)))).getD x.length 0 = u := by
    rw [List.getD_eq_getElem?_getD, List.getElem?_append_right (Nat.le_refl _), Nat.sub_self]; rfl
  have g2 : (x ++ (u :: U ++ (w ++ (v :: V ++ z)))).getD (x.length + (U.length + 1) + w.length) 0 = v := by
    rw [List.getD_eq_getElem?_getD, List.getElem?_append_right (by omega), List.getElem?_append_right (by simp only [List.length_cons]; omega), List.getElem?_append_right (by simp only [List.length_cons]; omega)]
    simp only [List.length_cons]
    rw [show x.length + (U.length + 1) + w.length - x.length - (U.length + 1) - w.length = 0 by omega]; rfl
  unfold swap1
  rw [g1, g2]
  rw [List.set_append_right _ _ (Nat.le_refl _), Nat.sub_self]
  show (x ++ (v :: (U ++ (w ++ (v :: V ++ z))))).set _ u = _
  rw [List.set_append_right _ _ (by omega)]
  congr 1
  rw [show x.length + (U.length + 1) + w.length - x.length = (U.length + w.length) + 1 by omega, List.set_cons_succ]
  show v :: _ = v :: (U ++ (w ++ (u :: (V ++ z))))
  congr 1
  rw [List.set_append_right _ _ (by omega), show U.length + w.length - U.length = w.length by omega, List.set_append_right _ _ (Nat.le_refl _), Nat.sub_self]
  rfl
/-- As many of both, changed for each other. -/
theorem swp_app : ∀ (U V x w z : List Nat), U.length = V.length → swp (x ++ (U ++ (w ++ (V ++ z)))) x.length (x.length + U.length + w.length) U.length = x ++ (V ++ (w ++ (U ++ z)))
  | [], V, x, w, z, h => by
    obtain rfl : V = [] := List.length_eq_zero_iff.1 h.symm
    rfl
  | u :: U, [], x, w, z, h => by simp at h
  | u :: U, v :: V, x, w, z, h => by
    have hl : U.length = V.length := by simpa using h
    have ih := swp_app U V (x ++ [v]) (w ++ [u]) z hl
    show swp (swap1 (x ++ (u :: U ++ (w ++ (v :: V ++ z)))) x.length (x.length + (U.length + 1) + w.length)) (x.length + 1) (x.length + (U.length + 1) + w.length + 1) U.length = _
    rw [swap1_app]
    have e1 : (x ++ [v]).length = x.length + 1 := by simp
    have e2 : (w ++ [u]).length = w.length + 1 := by simp
    rw [e1, e2, show x.length + 1 + U.length + (w.length + 1) = x.length + (U.length + 1) + w.length + 1 by omega] at ih
    have a1 : (x ++ [v]) ++ (U ++ ((w ++ [u]) ++ (V ++ z))) = x ++ (v :: U ++ (w ++ (u :: V ++ z))) := by simp
    have a2 : (x ++ [v]) ++ (V ++ ((w ++ [u]) ++ (U ++ z))) = x ++ (v :: V ++ (w ++ (u :: U ++ z))) := by simp
    rw [a1, a2] at ih
    exact ih
/-- What is turned around: U and V between D and E. -/
def Turn (l : List Nat) (t : List Nat) (m i j : Nat) : Prop := ∃ D U V E, l = D ++ (U ++ (V ++ E)) ∧ t = D ++ (V ++ (U ++ E)) ∧ U.length = i ∧ V.length = j ∧ D.length + i = m
theorem turn_more {l t : List Nat} {m i j : Nat} (h : Turn l t m i j) (hij : j < i) : Turn (swp l (m - i) m j) t m (i - j) j := by
  obtain ⟨D, U, V, E, rfl, rfl, hu, hv, hm⟩ := h
  have hU : U = U.take j ++ U.drop j := (List.take_append_drop j U).symm
  have h1 : (U.take j).length = j := by rw [List.length_take]; omega
  have h2 : (U.drop j).length = i - j := by rw [List.length_drop]; omega
  generalize U.take j = U1 at hU h1
  generalize U.drop j = U2 at hU h2
  subst hU
  have := swp_app U1 V D U2 E (by omega)
  refine ⟨D ++ V, U2, U1, E, ?_, by simp, h2, h1, by simp; omega⟩
  rw [show m - i = D.length by omega, show m = D.length + U1.length + U2.length by omega, ← h1]
  simpa using this
theorem turn_less {l t : List Nat} {m i j : Nat} (h : Turn l t m i j) (hij : i < j) : Turn (swp l (m - i) (m + j - i) i) t m i (j - i) := by
  obtain ⟨D, U, V, E, rfl, rfl, hu, hv, hm⟩ := h
  have hV : V = V.take (j - i) ++ V.drop (j - i) := (List.take_append_drop (j - i) V).symm
  have h1 : (V.take (j - i)).length = j - i := by rw [List.length_take]; omega
  have h2 : (V.drop (j - i)).length = i := by rw [List.length_drop]; omega
  generalize V.take (j - i) = V1 at hV h1
  generalize V.drop (j - i) = V2 at hV h2
  subst hV
  have := swp_app U V2 D V1 E (by omega)
  refine ⟨D, V2, V1, U ++ E, ?_, by simp, h2, h1, hm⟩
  rw [show m - i = D.length by omega, show m + j - i = D.length + U.length + V1.length by omega, ← hu]
  simpa using this
theorem turn_same {l t : List Nat} {m i : Nat} (h : Turn l t m i i) : swp l (m - i) m i = t := by
  obtain ⟨D, U, V, E, rfl, rfl, hu, hv, hm⟩ := h
  have := swp_app U V D [] E (by omega)
  rw [show m - i = D.length by omega, show m = D.length + U.length + ([] : List Nat).length by simp; omega, ← hu]
  simpa using this
theorem turn_len {l t : List Nat} {m i j : Nat} (h : Turn l t m i j) : t.length = l.length ∧ m + j ≤ l.length ∧ i ≤ m := by
  obtain ⟨D, U, V, E, rfl, rfl, hu, hv, hm⟩ := h
  simp only [List.length_append]; omega
end Go.Proofs.YtigknpfjhegkgaaGreat
