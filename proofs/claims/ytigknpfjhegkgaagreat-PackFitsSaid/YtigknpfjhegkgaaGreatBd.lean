/- What is taken out of a row of places as far as there is room, and what is left. -/
import Derived.Test.YtigknpfjhegkgaaGreatBa
namespace Go.Proofs.YtigknpfjhegkgaaGreat

set_option linter.unusedSimpArgs false
set_option linter.unusedVariables false
def fitP (s : Nat → Nat) : List Nat → Int → List Nat
  | [], _ => []
  | i :: t, r => if (s i : Int) ≤ r then i :: fitP s t (r - (s i : Int)) else fitP s t r
def sumP (s : Nat → Nat) : List Nat → Int
  | [] => 0
  | i :: t => (s i : Int) + sumP s t
theorem sumP_app (s : Nat → Nat) : ∀ a b, sumP s (a ++ b) = sumP s a + sumP s b
  | [], b => by simp [sumP]
  | i :: a, b => by simp only [List.cons_append, sumP, sumP_app s a b]; omega
theorem sumP_pos (s : Nat → Nat) : ∀ a, 0 ≤ sumP s a
  | [] => by simp [sumP]
  | i :: a => by have := sumP_pos s a; simp only [sumP]; omega
theorem fitP_app (s : Nat → Nat) : ∀ a b r, fitP s (a ++ b) r = fitP s a r ++ fitP s b (r - sumP s (fitP s a r))
  | [], b, r => by simp [fitP, sumP]
  | i :: a, b, r => by
    simp only [List.cons_append, fitP]
    split
    · rw [fitP_app s a b, List.cons_append, sumP]
      congr 3; omega
    · exact fitP_app s a b r
theorem fitP_snoc (s : Nat → Nat) (a : List Nat) (i : Nat) (r : Int) : fitP s (a ++ [i]) r = fitP s a r ++ (if (s i : Int) ≤ r - sumP s (fitP s a r) then [i] else []) := by
  rw [fitP_app]
  simp only [fitP]
theorem fitP_sub (s : Nat → Nat) : ∀ a r, (fitP s a r).Sublist a
  | [], r => by simp [fitP]
  | i :: a, r => by
    simp only [fitP]
    split
    · exact (fitP_sub s a _).cons_cons i
    · exact (fitP_sub s a _).cons i
theorem fitP_sum (s : Nat → Nat) : ∀ a r, sumP s (fitP s a r) ≤ max 0 r
  | [], r => by simp only [fitP, sumP]; omega
  | i :: a, r => by
    simp only [fitP]
    split
    · have := fitP_sum s a (r - (s i : Int))
      simp only [sumP]; omega
    · exact fitP_sum s a r
theorem fitP_all (s : Nat → Nat) : ∀ a r, sumP s a ≤ r → fitP s a r = a
  | [], r, _ => rfl
  | i :: a, r, h => by
    simp only [sumP] at h
    have := sumP_pos s a
    simp only [fitP]
    rw [if_pos (by omega), fitP_all s a _ (by omega)]
theorem sumP_filter (s : Nat → Nat) (p : Nat → Bool) : ∀ a, sumP s (a.filter p) ≤ sumP s a
  | [] => by simp [sumP]
  | i :: a => by
    have := sumP_filter s p a
    rw [List.filter_cons]
    split <;> simp only [sumP] <;> omega
/-- What was left would not have fitted. -/
theorem fitP_most {q : Nat → Int} (s : Nat → Nat) {L : List Nat} (ho : Ord q L) (r : Int) {i : Nat} (hi : i ∈ L) (hn : i ∉ fitP s L r) : r - sumP s ((fitP s L r).filter fun k => decide (q k ≤ q i)) < (s i : Int) := by
  obtain ⟨a, b, rfl⟩ := List.append_of_mem hi
  rw [fitP_app] at hn ⊢
  have h1 : ¬ (s i : Int) ≤ r - sumP s (fitP s a r) := by
    intro h
    refine hn (List.mem_append_right _ ?_)
    simp only [fitP]
    rw [if_pos h]
    exact List.mem_cons_self ..
  rw [List.filter_append, sumP_app]
  have h2 : (fitP s a r).filter (fun k => decide (q k ≤ q i)) = fitP s a r := by
    rw [List.filter_eq_self]
    intro x hx
    have := ho.cross x ((fitP_sub s a r).subset hx) i (List.mem_cons_self ..)
    unfold Be at this
    exact decide_eq_true (by omega)
  rw [h2]
  have := sumP_pos s ((fitP s (i :: b) (r - sumP s (fitP s a r))).filter fun k => decide (q k ≤ q i))
  omega
theorem nodup_perm {l k : List Nat} (hl : l.Nodup) (hk : k.Nodup) (h : ∀ x, x ∈ l ↔ x ∈ k) : l.Perm k := by
  refine List.perm_iff_count.2 fun a => ?_
  by_cases q : a ∈ l
  · rw [hl.count, hk.count, if_pos q, if_pos ((h a).1 q)]
  · rw [hl.count, hk.count, if_neg q, if_neg (fun z => q ((h a).2 z))]
/-- What is taken and what is left are all. -/
theorem part_perm {T P : List Nat} (hT : T.Nodup) (hP : P.Nodup) (h : ∀ x ∈ T, x ∈ P) : (T ++ P.filter fun i => !decide (i ∈ T)).Perm P := by
  refine List.Perm.trans ?_ (List.filter_append_perm (fun i => decide (i ∈ T)) P)
  refine List.Perm.append_right _ (nodup_perm hT (hP.filter _) fun x => ?_)
  rw [List.mem_filter]
  exact ⟨fun q => ⟨h x q, decide_eq_true q⟩, fun q => of_decide_eq_true q.2⟩
end Go.Proofs.YtigknpfjhegkgaaGreat
