/- Places in the order of their ranks: the plain law. -/
import Derived.KernelRfl
namespace Go.Proofs.YtigknpfjhegkgaaGreat
open Go
/-- One place ahead of another: a lower rank, or the same rank and ahead. -/
def Be (r : Nat → Int) (x y : Nat) : Prop := r x < r y ∨ (r x = r y ∧ x < y)
theorem Be.trans {r : Nat → Int} {x y z : Nat} (h : Be r x y) (k : Be r y z) : Be r x z := by
  unfold Be at *; omega
theorem Be.asymm {r : Nat → Int} {x y : Nat} (h : Be r x y) : ¬ Be r y x := by
  unfold Be at *; omega
theorem Be.tri {r : Nat → Int} (x y : Nat) (h : x ≠ y) : Be r x y ∨ Be r y x := by
  unfold Be; omega
/-- The ranks alone tell, where the one stands ahead. -/
theorem Be.of_lt {r : Nat → Int} {x y : Nat} (h : x < y) : Be r y x ↔ r y < r x := by
  unfold Be; omega
theorem Be.of_lt' {r : Nat → Int} {x y : Nat} (h : x < y) : Be r x y ↔ ¬ r y < r x := by
  unfold Be; omega
def Ord (r : Nat → Int) (l : List Nat) : Prop := l.Pairwise (Be r)
/-- Rows of the same places, both in order, are one row. -/
theorem Ord.unique {r : Nat → Int} : ∀ {l k : List Nat}, Ord r l → Ord r k → l.Perm k → l = k
  | [], k, _, _, h => by rw [h.nil_eq]
  | x :: l, [], _, _, h => by have := h.length_eq; simp at this
  | x :: l, y :: k, hl, hk, h => by
    have hl' := List.pairwise_cons.1 hl
    have hk' := List.pairwise_cons.1 hk
    have hxy : x = y := by
      rcases Nat.decEq x y with q | q
      · have m1 : y ∈ x :: l := h.symm.subset (List.mem_cons_self ..)
        have m2 : x ∈ y :: k := h.subset (List.mem_cons_self ..)
        rcases List.mem_cons.1 m1 with e | e
        · exact absurd e.symm q
        rcases List.mem_cons.1 m2 with f | f
        · exact absurd f q
        exact absurd (hk'.1 x f) (hl'.1 y e).asymm
      · exact q
    subst hxy
    rw [Ord.unique hl'.2 hk'.2 ((List.perm_cons x).1 h)]
theorem Ord.app {r : Nat → Int} {l k : List Nat} (hl : Ord r l) (hk : Ord r k) (h : ∀ x ∈ l, ∀ y ∈ k, Be r x y) : Ord r (l ++ k) := List.pairwise_append.2 ⟨hl, hk, h⟩
theorem Ord.left {r : Nat → Int} {l k : List Nat} (h : Ord r (l ++ k)) : Ord r l := (List.pairwise_append.1 h).1
theorem Ord.right {r : Nat → Int} {l k : List Nat} (h : Ord r (l ++ k)) : Ord r k := (List.pairwise_append.1 h).2.1
theorem Ord.cross {r : Nat → Int} {l k : List Nat} (h : Ord r (l ++ k)) : ∀ x ∈ l, ∀ y ∈ k, Be r x y := (List.pairwise_append.1 h).2.2
/-- A row in order, of what is in it. -/
def IsOrd (r : Nat → Int) (l k : List Nat) : Prop := k.Perm l ∧ Ord r k
/-- Two rows in order, the one ahead of the other. -/
theorem IsOrd.app {r : Nat → Int} {a b a' b' : List Nat} (ha : IsOrd r a a') (hb : IsOrd r b b') (h : ∀ x ∈ a, ∀ y ∈ b, Be r x y) : IsOrd r (a ++ b) (a' ++ b') :=
  ⟨ha.1.append hb.1, ha.2.app hb.2 fun x hx y hy => h x (ha.1.subset hx) y (hb.1.subset hy)⟩
/-- What a merge that turns the middle around leads to. -/
theorem sym_merge {r : Nat → Int} {a1 a2 b1 b2 c d : List Nat} (ha : Ord r (a1 ++ a2)) (hb : Ord r (b1 ++ b2)) (h1 : ∀ x ∈ a1, ∀ y ∈ b2, Be r x y) (h2 : ∀ x ∈ b1, ∀ y ∈ a2, Be r x y)
    (hc : IsOrd r (a1 ++ b1) c) (hd : IsOrd r (a2 ++ b2) d) : IsOrd r ((a1 ++ a2) ++ (b1 ++ b2)) (c ++ d) := by
  have h := hc.app hd fun x hx y hy => by
    rcases List.mem_append.1 hx with q | q <;> rcases List.mem_append.1 hy with p | p
    · exact ha.cross x q y p
    · exact h1 x q y p
    · exact h2 x q y p
    · exact hb.cross x q y p
  refine ⟨h.1.trans ?_, h.2⟩
  rw [List.append_assoc, List.append_assoc]
  refine List.Perm.append_left a1 ?_
  rw [← List.append_assoc, ← List.append_assoc]
  exact List.Perm.append_right b2 List.perm_append_comm
/-- Something put into a row in order. -/
theorem put_in {r : Nat → Int} {a b : List Nat} {x : Nat} (h : Ord r (a ++ b)) (h1 : ∀ y ∈ a, Be r y x) (h2 : ∀ y ∈ b, Be r x y) : IsOrd r ((a ++ b) ++ [x]) (a ++ x :: b) := by
  refine ⟨?_, h.left.app (List.pairwise_cons.2 ⟨h2, h.right⟩) fun y hy z hz => ?_⟩
  · rw [List.append_assoc]
    refine List.Perm.append_left a ?_
    exact (List.perm_append_comm (l₁ := [x]) (l₂ := b))
  · rcases List.mem_cons.1 hz with rfl | q
    · exact h1 y hy
    · exact h.cross y hy z q
/-- The ranks' passes, one behind the other, give a row in order. -/
theorem passes_ord (r : Nat → Int) (l : List Nat) (hl : l.Pairwise (· < ·)) : ∀ (n : Nat) (k : Int), (∀ x ∈ l, k ≤ r x ∧ r x < k + n) → IsOrd r l ((List.range n).flatMap fun i => l.filter fun x => decide (r x = k + (i : Nat)))
  | 0, k, h => by
    have : l = [] := by
      cases l with
      | nil => rfl
      | cons x l => have := h x (List.mem_cons_self ..); omega
    subst this
    exact ⟨by simp, by simp [Ord]⟩
  | n + 1, k, h => by
    rw [List.range_succ, List.flatMap_append]
    have ih := passes_ord r (l.filter fun x => decide (r x < k + n)) (hl.filter _) n k (by
      intro x hx
      have := h x ((List.mem_filter.1 hx).1)
      have := (List.mem_filter.1 hx).2
      simp only [decide_eq_true_eq] at this
      omega)
    have e : ((List.range n).flatMap fun i => (l.filter fun x => decide (r x < k + n)).filter fun x => decide (r x = k + (i : Nat))) = ((List.range n).flatMap fun i => l.filter fun x => decide (r x = k + (i : Nat))) := by
      have g : ∀ m, m ≤ n → ((List.range m).flatMap fun i => (l.filter fun x => decide (r x < k + n)).filter fun x => decide (r x = k + (i : Nat))) = ((List.range m).flatMap fun i => l.filter fun x => decide (r x = k + (i : Nat))) := by
        intro m
        induction m with
        | zero => intro _; rfl
        | succ m ihm =>
          intro hm
          rw [List.range_succ, List.flatMap_append, List.flatMap_append, ihm (by omega)]
          congr 1
          simp only [List.flatMap_cons, List.flatMap_nil, List.append_nil, List.filter_filter]
          refine List.filter_congr fun x _ => ?_
          by_cases q : r x = k + (m : Nat)
          · have : r x < k + n := by omega
            simp [q]; omega
          · simp [q]
      exact g n (Nat.le_refl n)
    rw [e] at ih
    have f : (List.flatMap (fun i => l.filter fun x => decide (r x = k + (i : Nat))) [n]) = l.filter fun x => decide (r x = k + (n : Nat)) := by simp
    rw [f]
    have same : IsOrd r (l.filter fun x => decide (r x = k + (n : Nat))) (l.filter fun x => decide (r x = k + (n : Nat))) := by
      refine ⟨List.Perm.refl _, ?_⟩
      refine List.Pairwise.imp_of_mem ?_ (hl.filter _)
      intro x y hx hy q
      have a := (List.mem_filter.1 hx).2
      have b := (List.mem_filter.1 hy).2
      simp only [decide_eq_true_eq] at a b
      exact .inr ⟨by omega, q⟩
    have all := ih.app same fun x hx y hy => by
      have a := (List.mem_filter.1 hx).2
      have b := (List.mem_filter.1 hy).2
      simp only [decide_eq_true_eq] at a b
      exact .inl (by omega)
    refine ⟨all.1.trans ?_, all.2⟩
    have hsplit : l.filter (fun x => decide (r x = k + (n : Nat))) = l.filter (fun x => !decide (r x < k + n)) := by
      refine List.filter_congr fun x hx => ?_
      have := h x hx
      by_cases q : r x < k + n
      · simp [q]; omega
      · have : r x = k + n := by omega
        simp [this]
    rw [hsplit]
    exact List.filter_append_perm _ l
end Go.Proofs.YtigknpfjhegkgaaGreat
