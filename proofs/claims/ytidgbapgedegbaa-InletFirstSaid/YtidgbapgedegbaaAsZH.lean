import Derived.Test.YtidgbapgedegbaaAsZF
namespace Go.AS
open Go
set_option linter.unusedSimpArgs false
set_option linter.unusedVariables false

/-! ## Rows of things in memory, read and written one by one -/
section
variable {α : Type}

def encs (enc : α → List Value) (l : List α) : List Value := l.flatMap enc

theorem encs_nil (enc : α → List Value) : encs enc [] = [] := rfl
theorem encs_cons (enc : α → List Value) (x : α) (l : List α) : encs enc (x :: l) = enc x ++ encs enc l := rfl
theorem encs_append (enc : α → List Value) (a b : List α) : encs enc (a ++ b) = encs enc a ++ encs enc b := by simp [encs]
theorem encs_len {enc : α → List Value} {sz : Nat} (h : ∀ x, (enc x).length = sz) : ∀ l : List α, (encs enc l).length = l.length * sz
  | [] => by simp [encs]
  | x :: l => by rw [encs_cons, List.length_append, h, encs_len h l, List.length_cons, Nat.add_mul, Nat.one_mul, Nat.add_comm]
theorem encs_one {enc : α → List Value} (h : ∀ x, (enc x).all oneCell = true) : ∀ l : List α, (encs enc l).all oneCell = true
  | [] => rfl
  | x :: l => by rw [encs_cons, List.all_append, h, encs_one h l]; rfl

theorem lay_mid (vs : List Value) : ∀ (a b c : List Value), vs.length = b.length → lay (a ++ b ++ c) a.length vs = a ++ vs ++ c := by
  induction vs with
  | nil => intro a b c h; cases b with | nil => rfl | cons _ _ => simp at h
  | cons v vs ih =>
    intro a b c h
    cases b with
    | nil => simp at h
    | cons x b =>
      show lay ((a ++ (x :: b) ++ c).set a.length v) (a.length + 1) vs = _
      have e : (a ++ (x :: b) ++ c).set a.length v = (a ++ [v]) ++ b ++ c := by simp
      have e2 : a.length + 1 = (a ++ [v]).length := by simp
      rw [e, e2, ih (a ++ [v]) b c (by simpa using h)]
      simp

/-- A row that lies in a block, from o on. -/
def DataAt (enc : α → List Value) (A : AHeap) (d o bl opn : Nat) (l : List α) : Prop :=
  ∃ pre post, A.get d = some (.cells (pre ++ encs enc l ++ post) false opn) ∧ pre.length = o ∧ (pre ++ encs enc l ++ post).length = bl

theorem DataAt.lt {enc : α → List Value} {A : AHeap} {d o bl opn : Nat} {l : List α} (h : DataAt enc A d o bl opn l) : d < A.size := by
  obtain ⟨pre, post, h1, _⟩ := h; exact AHeap.get_lt h1

theorem DataAt.ext {enc : α → List Value} {A A' : AHeap} {d o bl opn : Nat} {l : List α} {S : Nat → Prop} (h : DataAt enc A d o bl opn l) (e : Ext S A A') (hs : ¬ S d) : DataAt enc A' d o bl opn l := by
  obtain ⟨pre, post, h1, h2, h3⟩ := h; exact ⟨pre, post, e.get h1 hs, h2, h3⟩

theorem DataAt.get {enc : α → List Value} {sz : Nat} (hz : ∀ x, (enc x).length = sz) {A : AHeap} {d o bl opn i : Nat} {l1 l2 : List α} {x : α} (h : DataAt enc A d o bl opn (l1 ++ x :: l2)) (hi : i = l1.length) : rdCells A d (o + i * sz) sz = some (enc x) := by
  obtain ⟨pre, post, h1, h2, h3⟩ := h
  subst hi; subst h2
  have e : pre ++ encs enc (l1 ++ x :: l2) ++ post = (pre ++ encs enc l1) ++ (enc x ++ (encs enc l2 ++ post)) := by simp [encs_append, encs_cons]
  have el : (pre ++ encs enc l1).length = pre.length + l1.length * sz := by rw [List.length_append, encs_len hz]
  rw [e] at h1
  simp only [rdCells, h1]
  rw [← el, List.drop_left]
  have := hz x
  rw [if_pos (by simp only [List.length_append]; omega), ← this, List.take_left]

theorem DataAt.get2 {enc : α → List Value} {sz : Nat} (hz : ∀ x, (enc x).length = sz) {A : AHeap} {d o bl opn i : Nat} {l1 l2 : List α} {x : α} (h : DataAt enc A d o bl opn (l1 ++ x :: l2)) (hi : i = l1.length) : ∃ bs, A.get d = some (.cells bs false opn) ∧ o + (i * sz + sz) ≤ bs.length ∧ (bs.drop (o + i * sz)).take sz = enc x := by
  have h1 := h.get hz hi
  obtain ⟨pre, post, h2, _⟩ := h
  simp only [rdCells, h2] at h1
  split at h1
  · rename_i hle
    exact ⟨_, h2, by omega, Option.some.inj h1⟩
  · cases h1

theorem DataAt.put {enc : α → List Value} {sz : Nat} (hz : ∀ x, (enc x).length = sz) (ho : ∀ x, (enc x).all oneCell = true) {A : AHeap} {d o bl opn i : Nat} {l1 l2 : List α} {x : α} (h : DataAt enc A d o bl opn (l1 ++ x :: l2)) (hi : i = l1.length) (y : α) :
    ∃ A', wrCells A d (o + i * sz) (enc y) = some A' ∧ DataAt enc A' d o bl opn (l1 ++ y :: l2) ∧ Ext (fun j => j = d) A A' ∧ A'.size = A.size := by
  obtain ⟨pre, post, h1, h2, h3⟩ := h
  subst hi; subst h2
  have e : pre ++ encs enc (l1 ++ x :: l2) ++ post = (pre ++ encs enc l1) ++ enc x ++ (encs enc l2 ++ post) := by simp [encs_append, encs_cons]
  have e' : pre ++ encs enc (l1 ++ y :: l2) ++ post = (pre ++ encs enc l1) ++ enc y ++ (encs enc l2 ++ post) := by simp [encs_append, encs_cons]
  have el : (pre ++ encs enc l1).length = pre.length + l1.length * sz := by rw [List.length_append, encs_len hz]
  have z1 := hz x
  have z2 := hz y
  rw [e] at h1 h3
  refine ⟨A.set d (.cells ((pre ++ encs enc l1) ++ enc y ++ (encs enc l2 ++ post)) false opn), ?_, ⟨pre, post, ?_, rfl, ?_⟩, Ext.set rfl, rfl⟩
  · simp only [wrCells, h1]
    rw [← el, lay_mid _ _ _ _ (by omega), if_pos]
    rw [Bool.and_eq_true, ho]
    refine ⟨decide_eq_true ?_, rfl⟩
    simp only [List.length_append]; omega
  · rw [e', AHeap.get_set _ _ _ _ (AHeap.get_lt h1), if_pos rfl]
  · rw [e', ← h3]; simp only [List.length_append]; omega

/-- A slice that holds something, as a row; and back. -/
theorem SliceAt.data {enc : α → List Value} {sz : Nat} (hz : ∀ x, (enc x).length = sz) (hs0 : 0 < sz) {A : AHeap} {v : Value} {l : List α} (h : SliceAt A sz v l.length (encs enc l)) (hne : 0 < l.length) :
    ∃ d o c bl opn, v = .slice (some ⟨d, o, none⟩) l.length c ∧ DataAt enc A d o bl opn l ∧ ∀ A' (l' : List α), l'.length = l.length → DataAt enc A' d o bl opn l' → SliceAt A' sz v l'.length (encs enc l') := by
  rcases h with ⟨h1, h2, h3⟩ | ⟨d, o, c, bs, opn, h1, h2, h3, h4, h5⟩
  · omega
  · refine ⟨d, o, c, bs.length, opn, h1, ⟨bs.take o, bs.drop (o + l.length * sz), ?_, ?_, ?_⟩, ?_⟩
    · rw [h2]; congr 2
      rw [h4, List.append_assoc, ← List.drop_drop, List.take_append_drop, List.take_append_drop]
    · rw [List.length_take]; omega
    · simp only [List.length_append, List.length_take, List.length_drop, encs_len hz]; omega
    · rintro A' l' hl ⟨pre, post, k1, k2, k3⟩
      refine .inr ⟨d, o, c, _, opn, by rw [hl]; exact h1, k1, ?_, ?_, ?_⟩
      · simp only [List.length_append, encs_len hz]; omega
      · subst k2
        rw [List.append_assoc, List.drop_left, ← encs_len hz l', List.take_left]
      · rw [hl, k3]; exact h5

theorem DataAt.read {enc : α → List Value} {sz : Nat} (hz : ∀ x, (enc x).length = sz) {A : AHeap} {d o bl opn c : Nat} {l : List α} (h : DataAt enc A d o bl opn l) (hc : c ≠ ENDCAP) : ReadAt A sz (.slice (some ⟨d, o, none⟩) l.length c) l.length (encs enc l) := by
  obtain ⟨pre, post, h1, h2, h3⟩ := h
  subst h2
  refine .inr (.inl ⟨d, _, c, _, false, opn, rfl, h1, ?_, ?_, fun q => absurd q hc⟩)
  · simp only [List.length_append, encs_len hz]; omega
  · rw [List.append_assoc, List.drop_left, ← encs_len hz l, List.take_left]

/-- A slice's rest: x[l:]. -/
theorem SliceAt.from {A : AHeap} {sz n l : Nat} {v : Value} {cs : List Value} {k1 : IntKind} (h : SliceAt A sz v n cs) (hsz : sz ≠ 0) (hl : l ≤ n) :
    ∃ v', sliceVA A sz v (some (.int k1 (l : Int))) none none = some v' ∧ SliceAt A sz v' (n - l) (cs.drop (l * sz)) ∧ ∀ j, Own v' j → Own v j := by
  have hb : ∀ cap, n ≤ cap → bndsA n cap (some (.int k1 (l : Int))) none none = some (l, n, cap) := fun cap hc => by
    delta bndsA; simp [bnd_nat, hc, hl]
  have hm : l * sz ≤ n * sz := Nat.mul_le_mul_right _ hl
  have hm2 : (n - l) * sz = n * sz - l * sz := by rw [Nat.sub_mul]
  rcases h with ⟨h1, h2, h3⟩ | ⟨d, o, c, bs, opn, h1, h2, h3, h4, h5⟩
  · subst h1; subst h2; subst h3
    have : l = 0 := by omega
    subst this
    exact ⟨_, by simp only [sliceVA, hb 0 (Nat.le_refl _)], .inl ⟨rfl, rfl, by simp⟩, fun j hj => hj⟩
  · subst h1
    rcases h5 with ⟨q1, q2, q3⟩ | ⟨q1, q2⟩ | ⟨q1, q2, q3, q4⟩
    · subst q1; subst q2
      by_cases hlast : l = 0 ∨ o + l * opn < bs.length
      · refine ⟨.slice (some ⟨d, o + l * opn, none⟩) (n - l) OPEN, ?_, .inr ⟨d, _, OPEN, bs, opn, rfl, h2, by omega, ?_, .inl ⟨rfl, rfl, by omega⟩⟩, ?_⟩
        · simp only [sliceVA, if_true, h2, hb n (Nat.le_refl _)]
          rw [if_neg (by simp [hsz]), if_pos (by simpa using hlast)]
        · rw [h4, List.drop_take, List.drop_drop, hm2]
        · rintro j ⟨o', n', c', q⟩; cases q; exact ⟨_, _, _, rfl⟩
      · have hln : l = n := by
          have : ¬ l < n := fun q => by
            have := Nat.mul_le_mul_right opn (show l + 1 ≤ n by omega)
            rw [Nat.add_mul, Nat.one_mul] at this
            omega
          omega
        subst hln
        refine ⟨.slice (some ⟨d, o + l * opn, none⟩) 0 ENDCAP, ?_, .inr ⟨d, o + l * opn, ENDCAP, bs, opn, by simp, h2, by simp; omega, ?_, .inr (.inr ⟨rfl, by simp, rfl, by omega⟩)⟩, ?_⟩
        · simp only [sliceVA, if_true, h2, hb l (Nat.le_refl _)]
          rw [if_neg (by simp [hsz]), if_neg (by simpa using hlast), if_pos (by simp; omega)]
        · rw [h4, List.drop_take, Nat.sub_self]; simp
        · rintro j ⟨o', n', c', q⟩; cases q; exact ⟨_, _, _, rfl⟩
    · subst q1
      have c1 : c ≠ OPEN := by omega
      have c2 : c ≠ ENDCAP := fun q => by rw [q] at q2; exact absurd q2 (by decide)
      refine ⟨.slice (some ⟨d, if c = l then o else o + l * sz, none⟩) (c - l) (c - l), ?_, .inr ⟨d, _, c - l, bs, opn, rfl, h2, ?_, ?_, .inr (.inl ⟨rfl, by omega⟩)⟩, ?_⟩
      · simp only [sliceVA, if_neg c1, if_neg c2, if_neg (show ¬ OPEN ≤ c by omega), hb c (Nat.le_refl _), if_neg (show ¬ OPEN ≤ c - l by omega)]
      · split <;> omega
      · split
        · rename_i q; subst q
          rw [h4, List.drop_take, Nat.sub_self]; simp
        · rw [h4, List.drop_take, List.drop_drop, hm2]
      · rintro j ⟨o', n', c', q⟩; cases q; exact ⟨_, _, _, rfl⟩
    · subst q1; subst q2
      have : l = 0 := by omega
      subst this
      have hb0 := hb 0 (Nat.le_refl _)
      refine ⟨.slice (some ⟨d, o, none⟩) 0 ENDCAP, ?_, .inr ⟨d, o, ENDCAP, bs, opn, rfl, h2, h3, by simpa using h4, .inr (.inr ⟨rfl, rfl, q3, q4⟩)⟩, fun j hj => hj⟩
      have hb00 : bndsA 0 0 (some (.int k1 ((0 : Nat) : Int))) none none = some (0, 0, 0) := hb0
      simp only [sliceVA, if_neg (show ¬ ENDCAP = OPEN by decide), if_true, hb00]
end
end Go.AS
