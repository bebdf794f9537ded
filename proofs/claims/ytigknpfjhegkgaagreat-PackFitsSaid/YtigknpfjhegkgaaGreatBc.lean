/- The merge that turns the middle around: the plain law. -/
import Derived.Test.YtigknpfjhegkgaaGreatBb
import Derived.KernelRfl
namespace Go.Proofs.YtigknpfjhegkgaaGreat
open Go
theorem Ord.at {r : Nat → Int} {l : List Nat} (h : Ord r l) {i j : Nat} (hij : i < j) (hj : j < l.length) : Be r (l[i]'(by omega)) l[j] := (List.pairwise_iff_getElem.1 h) i j _ hj hij
theorem mem_take {l : List Nat} {n x : Nat} (h : x ∈ l.take n) : ∃ k, ∃ (hk : k < l.length), k < n ∧ l[k] = x := by
  obtain ⟨k, hk, e⟩ := List.mem_iff_getElem.1 h
  rw [List.length_take] at hk
  exact ⟨k, by omega, by omega, by rw [← e, List.getElem_take]⟩
theorem mem_drop {l : List Nat} {n x : Nat} (h : x ∈ l.drop n) : ∃ k, ∃ (hk : k < l.length), n ≤ k ∧ l[k] = x := by
  obtain ⟨k, hk, e⟩ := List.mem_iff_getElem.1 h
  rw [List.length_drop] at hk
  exact ⟨n + k, by omega, by omega, by rw [← e, List.getElem_drop]⟩
/-- Where the one row is cut and where the other one, so that the fronts stand ahead of the ends. -/
theorem sym_cross {r : Nat → Int} {A B : List Nat} (ha : Ord r A) (hb : Ord r B) {i j : Nat} (h : i = 0 ∨ j = B.length ∨ ∃ (h1 : i - 1 < A.length) (h2 : j < B.length), Be r A[i - 1] B[j]) : ∀ x ∈ A.take i, ∀ y ∈ B.drop j, Be r x y := by
  intro x hx y hy
  obtain ⟨k, hk, hki, rfl⟩ := mem_take hx
  obtain ⟨k', hk', hkj, rfl⟩ := mem_drop hy
  rcases h with h | h | ⟨h1, h2, h3⟩
  · omega
  · omega
  · have g1 : A[k] = A[i - 1] ∨ Be r A[k] A[i - 1] := by
      rcases Nat.lt_or_ge k (i - 1) with q | q
      · exact .inr (ha.at q h1)
      · have : k = i - 1 := by omega
        subst this; exact .inl rfl
    have g2 : B[j] = B[k'] ∨ Be r B[j] B[k'] := by
      rcases Nat.lt_or_ge j k' with q | q
      · exact .inr (hb.at q hk')
      · have : j = k' := by omega
        subst this; exact .inl rfl
    rcases g1 with g1 | g1 <;> rcases g2 with g2 | g2
    · rw [g1, ← g2]; exact h3
    · rw [g1]; exact h3.trans g2
    · rw [← g2]; exact g1.trans h3
    · exact (g1.trans h3).trans g2
/-- What is merged: the places of l from a to m, and from m to b. -/
structure Halves (r : Nat → Int) (l : List Nat) (a m b : Nat) (x A B z : List Nat) : Prop where
  eq : l = x ++ (A ++ (B ++ z))
  la : x.length = a
  lm : a + A.length = m
  lb : m + B.length = b
  oA : Ord r A
  oB : Ord r B
  up : ∀ u ∈ A, ∀ v ∈ B, u < v
theorem Halves.atA {r : Nat → Int} {l : List Nat} {a m b : Nat} {x A B z : List Nat} (h : Halves r l a m b x A B z) {k : Nat} (h1 : a ≤ k) (h2 : k < m) : ∃ hk : k - a < A.length, l[k]? = some A[k - a] := by
  have := h.lm
  refine ⟨by omega, ?_⟩
  rw [h.eq, List.getElem?_append_right (by rw [h.la]; omega), h.la, List.getElem?_append_left (by omega), List.getElem?_eq_getElem (by omega)]
theorem Halves.atB {r : Nat → Int} {l : List Nat} {a m b : Nat} {x A B z : List Nat} (h : Halves r l a m b x A B z) {k : Nat} (h1 : m ≤ k) (h2 : k < b) : ∃ hk : k - m < B.length, l[k]? = some B[k - m] := by
  have := h.lm
  have := h.lb
  refine ⟨by omega, ?_⟩
  have hk : k - m < B.length := by omega
  rw [h.eq, List.getElem?_append_right (by rw [h.la]; omega), h.la, List.getElem?_append_right (by omega), List.getElem?_append_left (by omega), show k - a - A.length = k - m by omega, List.getElem?_eq_getElem hk]
/-- One of the right half against one of the left half: the ranks tell. -/
theorem Halves.cmp {r : Nat → Int} {l : List Nat} {a m b : Nat} {x A B z : List Nat} (h : Halves r l a m b x A B z) {i j : Nat} (h1 : a ≤ i) (h2 : i < m) (h3 : m ≤ j) (h4 : j < b) : ∃ u v, l[i]? = some u ∧ l[j]? = some v ∧ u ∈ A ∧ v ∈ B ∧ u < v ∧ (Be r v u ↔ r v < r u) ∧ (Be r u v ↔ ¬ r v < r u) := by
  obtain ⟨ki, ei⟩ := h.atA h1 h2
  obtain ⟨kj, ej⟩ := h.atB h3 h4
  have hu := List.getElem_mem ki
  have hv := List.getElem_mem kj
  have lt := h.up _ hu _ hv
  exact ⟨_, _, ei, ej, hu, hv, lt, Be.of_lt lt, Be.of_lt' lt⟩
/-- The rows that a middle, found by search, cuts into: what the whole is then. -/
theorem Halves.cut {r : Nat → Int} {l : List Nat} {a m b : Nat} {x A B z : List Nat} (h : Halves r l a m b x A B z) {s e : Nat} (hs1 : a ≤ s) (hs2 : s ≤ m) (he1 : m ≤ e) (he2 : e ≤ b)
    (c1 : s = a ∨ e = b ∨ ∃ u v, l[s - 1]? = some u ∧ l[e]? = some v ∧ a < s ∧ e < b ∧ Be r u v) (c2 : s = m ∨ e = m ∨ ∃ u v, l[e - 1]? = some u ∧ l[s]? = some v ∧ m < e ∧ s < m ∧ Be r u v) :
    ∃ A1 A2 B1 B2, A = A1 ++ A2 ∧ B = B1 ++ B2 ∧ a + A1.length = s ∧ m + B1.length = e ∧ (∀ u ∈ A1, ∀ v ∈ B2, Be r u v) ∧ (∀ u ∈ B1, ∀ v ∈ A2, Be r u v) := by
  have := h.lm
  have := h.lb
  refine ⟨A.take (s - a), A.drop (s - a), B.take (e - m), B.drop (e - m), (List.take_append_drop _ _).symm, (List.take_append_drop _ _).symm, by rw [List.length_take]; omega, by rw [List.length_take]; omega, ?_, ?_⟩
  · refine sym_cross h.oA h.oB ?_
    rcases c1 with c | c | ⟨u, v, eu, ev, q1, q2, q3⟩
    · exact .inl (by omega)
    · exact .inr (.inl (by omega))
    · obtain ⟨ki, ei⟩ := h.atA (k := s - 1) (by omega) (by omega)
      obtain ⟨kj, ej⟩ := h.atB (k := e) (by omega) (by omega)
      rw [ei] at eu; rw [ej] at ev
      cases eu; cases ev
      have e1 : s - 1 - a = s - a - 1 := by omega
      refine .inr (.inr ⟨by omega, by omega, ?_⟩)
      simpa only [e1] using q3
  · refine sym_cross h.oB h.oA ?_
    rcases c2 with c | c | ⟨u, v, eu, ev, q1, q2, q3⟩
    · exact .inr (.inl (by omega))
    · exact .inl (by omega)
    · obtain ⟨ki, ei⟩ := h.atA (k := s) (by omega) (by omega)
      obtain ⟨kj, ej⟩ := h.atB (k := e - 1) (by omega) (by omega)
      rw [ej] at eu; rw [ei] at ev
      cases eu; cases ev
      have e1 : e - 1 - m = e - m - 1 := by omega
      refine .inr (.inr ⟨by omega, by omega, ?_⟩)
      simpa only [e1] using q3
end Go.Proofs.YtigknpfjhegkgaaGreat
