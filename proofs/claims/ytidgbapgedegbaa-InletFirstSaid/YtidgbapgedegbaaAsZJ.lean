import Derived.Test.YtidgbapgedegbaaAsZI
namespace Go.AS
open Go
set_option linter.unusedSimpArgs false
set_option linter.unusedVariables false

theorem sliceVA_val {A : AHeap} {sz : Nat} {x : Value} {lo hi mx : Option Value} {v : Value} (h : sliceVA A sz x lo hi mx = some v) : ∃ a n c, v = .slice a n c := by
  unfold sliceVA at h
  (repeat' split at h) <;> first | (cases h; exact ⟨_, _, _, rfl⟩) | cases h

/-! ## One thing put between others: append(append(v[:i:i], x), v[i:]...) -/
theorem SliceAt.read_from {A : AHeap} {sz n l : Nat} {v v' : Value} {cs : List Value} (h : SliceAt A sz v' (n - l) (cs.drop (l * sz))) : AS.lenA v' = some (n - l) ∧ AS.firstA A sz (n - l) v' = some (cs.drop (l * sz)) := by
  refine ⟨h.read.lenA, ?_⟩
  rw [h.read.firstA (Nat.le_refl _), List.take_of_length_le]
  rw [h.read.length]; exact Nat.le_refl _

theorem SliceAt.ins {A : AHeap} {sz n i q bytes : Nat} {v : Value} {cs x : List Value} {k1 k2 k3 : IntKind} {ro : Bool} {opq : Nat} (h : SliceAt A sz v n cs) (hsz : sz ≠ 0) (hi : i ≤ n) (hn : n < 1000000) (hq : A.get q = some (.cells x ro opq)) (hx : x.length = sz) (ho : x.all oneCell = true) (hcs : cs.all oneCell = true) (hb : bytes ≤ 8192) :
    ∃ v1 v2 A2 v3 v4 A4, sliceVA A sz v none (some (.int k1 (i : Int))) (some (.int k2 (i : Int))) = some v1 ∧ appA A sz bytes v1 (.slice (some ⟨q, 0, none⟩) 1 1) = some (v2, A2) ∧
      sliceVA A2 sz v (some (.int k3 (i : Int))) none none = some v3 ∧ sliceVA A sz v (some (.int k3 (i : Int))) none none = some v3 ∧
      appA A2 sz bytes v2 v3 = some (v4, A4) ∧ SliceAt A4 sz v4 (n + 1) (cs.take (i * sz) ++ x ++ cs.drop (i * sz)) ∧ Ext (Own v) A A2 ∧ Ext (Own v) A A4 ∧ (∀ j, Own v4 j → A.size ≤ j) := by
  have hcl := h.read.length
  have him : i * sz ≤ n * sz := Nat.mul_le_mul_right _ hi
  have hf1 : AS.firstA A sz 1 (.slice (some ⟨q, 0, none⟩) 1 1) = some x := by
    simp only [AS.firstA, rdCells, hq]
    rw [if_neg (by omega), if_neg (by decide), if_pos (by omega), List.drop_zero, Nat.one_mul, List.take_of_length_le (by omega)]
  have hguard : (!(fitsA (i + 1) bytes) || decide (sz = 0) || (isStr (.slice (some ⟨q, 0, none⟩) 1 1) && sz != 1)) = false := by
    have : i + 1 ≤ 4294967296 := by omega
    simp [fitsA, this, hb, hsz, isStr]
  -- the case where the old block stays
  have main : ∀ v1, sliceVA A sz v none (some (.int k1 (i : Int))) (some (.int k2 (i : Int))) = some v1 → appA A sz bytes v1 (.slice (some ⟨q, 0, none⟩) 1 1) = some (.slice (some ⟨A.size, 0, none⟩) (i + 1) OPEN, A.alloc (.cells (cs.take (i * sz) ++ x) false sz)) →
      (∀ A2 : AHeap, Ext NoB A A2 → sliceVA A2 sz v (some (.int k3 (i : Int))) none none = sliceVA A sz v (some (.int k3 (i : Int))) none none) →
      ∃ v1 v2 A2 v3 v4 A4, sliceVA A sz v none (some (.int k1 (i : Int))) (some (.int k2 (i : Int))) = some v1 ∧ appA A sz bytes v1 (.slice (some ⟨q, 0, none⟩) 1 1) = some (v2, A2) ∧
      sliceVA A2 sz v (some (.int k3 (i : Int))) none none = some v3 ∧ sliceVA A sz v (some (.int k3 (i : Int))) none none = some v3 ∧
      appA A2 sz bytes v2 v3 = some (v4, A4) ∧ SliceAt A4 sz v4 (n + 1) (cs.take (i * sz) ++ x ++ cs.drop (i * sz)) ∧ Ext (Own v) A A2 ∧ Ext (Own v) A A4 ∧ (∀ j, Own v4 j → A.size ≤ j) := by
    intro v1 e1 e2 e3
    have ex : Ext NoB A (A.alloc (.cells (cs.take (i * sz) ++ x) false sz)) := Ext.alloc
    obtain ⟨v3, f1, f2, f3⟩ := h.from (k1 := k3) hsz hi
    have f2' := (f2.ext ex fun _ _ q => q)
    obtain ⟨r1, r2⟩ := SliceAt.read_from (v := v) f2'
    have s2 : SliceAt (A.alloc (.cells (cs.take (i * sz) ++ x) false sz)) sz (.slice (some ⟨A.size, 0, none⟩) (i + 1) OPEN) (i + 1) (cs.take (i * sz) ++ x) := by
      have hl : (cs.take (i * sz) ++ x).length = (i + 1) * sz := by rw [List.length_append, List.length_take, hx, Nat.add_mul, Nat.one_mul]; omega
      refine .inr ⟨A.size, 0, OPEN, cs.take (i * sz) ++ x, sz, rfl, by rw [AHeap.get_alloc, if_pos rfl], by rw [hl]; omega, ?_, .inl ⟨rfl, rfl, by rw [hl]; omega⟩⟩
      rw [List.drop_zero, List.take_of_length_le (l := cs.take (i * sz) ++ x) (by rw [hl]; omega)]
    obtain ⟨v4, A4, a1, a2, a3, a4⟩ := s2.append (x := v3) (m := n - i) (new := cs.drop (i * sz)) (bytes := bytes) hsz r1 r2 (List.all_eq_true.2 fun y hy => List.all_eq_true.1 hcs y (List.mem_of_mem_drop hy)) (by rw [List.length_drop, Nat.sub_mul]; omega) (by omega) hb (fun q => by
      obtain ⟨a, c, rfl⟩ := f2.read.val; cases q)
    refine ⟨v1, _, _, v3, v4, A4, e1, e2, by rw [e3 _ ex]; exact f1, f1, a1, ?_, ex.mono fun _ _ q => q.elim, ?_, ?_⟩
    · have := a2
      rw [show i + 1 + (n - i) = n + 1 by omega] at this
      exact this
    · refine (ex.mono fun _ _ q => q.elim).trans2 a3 fun j hj q => ?_
      obtain ⟨_, _, _, q⟩ := q; cases q; omega
    · intro j hj
      rcases a4 j hj with k | k
      · obtain ⟨_, _, _, k⟩ := k; cases k; exact Nat.le_refl _
      · have := ex.size; omega
  have hbb : ∀ len cap, i ≤ cap → bndsA len cap none (some (.int k1 (i : Int))) (some (.int k2 (i : Int))) = some (0, i, i) := fun len cap hc => by
    delta bndsA; simp [bnd_nat, hc]
  have hin : i < OPEN := Nat.lt_of_le_of_lt hi (Nat.lt_trans hn (by decide))
  rcases h with ⟨h1, h2, h3⟩ | ⟨d, o, c, bs, opn, h1, h2, h3, h4, h5⟩
  · subst h1; subst h2; subst h3
    have : i = 0 := by omega
    subst this
    have hone : x.all oneCell = true := ho
    refine main (.slice none 0 0) (by simp only [sliceVA, hbb 0 0 (Nat.le_refl _)]) ?_ fun A2 _ => rfl
    unfold appA
    simp only [AS.lenA, hguard, Bool.false_eq_true, if_false, hf1, hone, if_true]
    simp [growA]
  · subst h1
    have gr : ∀ c', c' = i → appA A sz bytes (.slice (some ⟨d, o, none⟩) i c') (.slice (some ⟨q, 0, none⟩) 1 1) = some (.slice (some ⟨A.size, 0, none⟩) (i + 1) OPEN, A.alloc (.cells (cs.take (i * sz) ++ x) false sz)) := by
      rintro c' rfl
      have fo : AS.firstA A sz c' (.slice (some ⟨d, o, none⟩) c' c') = some (cs.take (c' * sz)) := by
        simp only [AS.firstA]
        by_cases z : c' * sz = 0
        · rw [if_pos z, z]; simp
        · rw [if_neg z, if_neg fun q => by rw [q] at hin; exact absurd hin (by decide)]
          simp only [rdCells, h2]
          rw [if_pos (by omega), h4, List.take_take, Nat.min_eq_left him]
      unfold appA
      simp only [AS.lenA, hguard, Bool.false_eq_true, if_false, hf1, if_pos hin, if_neg (show ¬ c' + 1 ≤ c' by omega), fo]
      simp [growA]
    have cong : ∀ A2 : AHeap, Ext NoB A A2 → sliceVA A2 sz (.slice (some ⟨d, o, none⟩) n c) (some (.int k3 (i : Int))) none none = sliceVA A sz (.slice (some ⟨d, o, none⟩) n c) (some (.int k3 (i : Int))) none none := fun A2 e => by
      have := e.get h2 fun q => q
      simp only [sliceVA, h2, this]
    rcases h5 with ⟨q1, q2, q3⟩ | ⟨q1, q2⟩ | ⟨q1, q2, q3, q4⟩
    · subst q1; subst q2
      refine main (.slice (some ⟨d, if i = 0 then o else o + 0 * opn, none⟩) (i - 0) (i - 0)) ?_ ?_ cong
      · simp only [sliceVA, if_true, h2, hbb n n hi, if_neg (show ¬ OPEN ≤ i - 0 by omega)]
        rw [if_neg (by simp [hsz])]
      · have : (if i = 0 then o else o + 0 * opn) = o := by split <;> omega
        rw [this, Nat.sub_zero]
        exact gr i rfl
    · subst q1
      have c1 : c ≠ OPEN := by omega
      have c2 : c ≠ ENDCAP := fun q => by rw [q] at q2; exact absurd q2 (by decide)
      refine main (.slice (some ⟨d, if i = 0 then o else o + 0 * sz, none⟩) (i - 0) (i - 0)) ?_ ?_ cong
      · simp only [sliceVA, if_neg c1, if_neg c2, if_neg (show ¬ OPEN ≤ c by omega), hbb c c hi, if_neg (show ¬ OPEN ≤ i - 0 by omega)]
      · have : (if i = 0 then o else o + 0 * sz) = o := by split <;> omega
        rw [this, Nat.sub_zero]
        exact gr i rfl
    · subst q1; subst q2; subst q3; subst q4
      have : i = 0 := by omega
      subst this
      have hcs0 : cs = [] := by rw [h4]; simp
      subst hcs0
      have b0 : bndsA 0 0 none (some (.int k1 ((0 : Nat) : Int))) (some (.int k2 ((0 : Nat) : Int))) = some (0, 0, 0) := hbb 0 0 (Nat.le_refl _)
      have b1 : bndsA 0 0 (some (.int k3 ((0 : Nat) : Int))) none none = some (0, 0, 0) := by
        have hbn : bnd (.int k3 ((0 : Nat) : Int)) 0 = some 0 := bnd_nat k3 0 0 (Nat.le_refl _)
        delta bndsA; simp only [hbn]
      refine ⟨.slice (some ⟨d, bs.length, none⟩) 0 ENDCAP, .slice (some ⟨A.size, 0, none⟩) 1 OPEN, (A.set d .dead).alloc (.cells ([] ++ x) false opn), .slice (some ⟨d, bs.length, none⟩) 0 ENDCAP, .slice (some ⟨A.size, 0, none⟩) 1 OPEN, (A.set d .dead).alloc (.cells ([] ++ x) false opn), ?_, ?_, ?_, ?_, ?_, ?_, ?_, ?_, ?_⟩
      · simp only [sliceVA, if_neg (show ¬ ENDCAP = OPEN by decide), if_true, b0]
      · unfold appA
        simp only [AS.lenA, hguard, Bool.false_eq_true, if_false, hf1, if_neg (show ¬ ENDCAP < OPEN by decide), if_neg (show ¬ ENDCAP = OPEN by decide), h2]
        simp [growA, ho, AHeap.size_set]
      · simp only [sliceVA, if_neg (show ¬ ENDCAP = OPEN by decide), if_true, b1]
      · simp only [sliceVA, if_neg (show ¬ ENDCAP = OPEN by decide), if_true, b1]
      · unfold appA
        have hg2 : (!(fitsA (1 + 0) bytes) || decide (opn = 0) || (isStr (.slice (some ⟨d, bs.length, none⟩) 0 ENDCAP) && opn != 1)) = false := by
          simp [fitsA, hb, hsz, isStr]
        simp only [AS.lenA, hg2, Bool.false_eq_true, if_false, AS.firstA, Nat.zero_mul, if_true]
      · refine .inr ⟨A.size, 0, OPEN, x, opn, by simp, ?_, by rw [hx]; omega, ?_, .inl ⟨rfl, rfl, by rw [hx]; omega⟩⟩
        · rw [AHeap.get_alloc]; simp
        · simp; rw [List.take_of_length_le (by omega)]
      · exact (Ext.set ⟨_, _, _, rfl⟩).trans Ext.alloc
      · exact (Ext.set ⟨_, _, _, rfl⟩).trans Ext.alloc
      · rintro j ⟨_, _, _, q⟩; cases q; exact Nat.le_refl _
end Go.AS
