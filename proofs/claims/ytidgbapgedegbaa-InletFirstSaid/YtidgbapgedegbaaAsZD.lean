import Derived.Test.YtidgbapgedegbaaAsZC
namespace Go.AS
open Go
set_option linter.unusedSimpArgs false
set_option linter.unusedVariables false

/-! ## Words for open statements: what a memory keeps, what a slice holds -/

/-- The memory A' has what A had, but for the blocks in S. -/
structure Ext (S : Nat → Prop) (A A' : AHeap) : Prop where
  size : A.size ≤ A'.size
  keep : ∀ b, b < A.size → ¬ S b → A'.get b = A.get b

def NoB : Nat → Prop := fun _ => False

theorem Ext.refl {S : Nat → Prop} {A : AHeap} : Ext S A A := ⟨Nat.le_refl _, fun _ _ _ => rfl⟩
theorem Ext.trans {S : Nat → Prop} {A A1 A2 : AHeap} (h : Ext S A A1) (k : Ext S A1 A2) : Ext S A A2 :=
  ⟨Nat.le_trans h.size k.size, fun b hb hs => by rw [k.keep b (Nat.lt_of_lt_of_le hb h.size) hs, h.keep b hb hs]⟩
theorem Ext.mono {S S' : Nat → Prop} {A A' : AHeap} (h : Ext S A A') (hs : ∀ b, b < A.size → S b → S' b) : Ext S' A A' :=
  ⟨h.size, fun b hb hn => h.keep b hb fun q => hn (hs b hb q)⟩
theorem Ext.alloc {S : Nat → Prop} {A : AHeap} {x : ABlk} : Ext S A (A.alloc x) :=
  ⟨by simp, fun b hb _ => by rw [AHeap.get_alloc, if_neg (by omega)]⟩
theorem Ext.set {S : Nat → Prop} {A : AHeap} {b : Nat} {x : ABlk} (h : S b) : Ext S A (A.set b x) :=
  ⟨Nat.le_refl _, fun j hj hs => by
    have : j ≠ b := fun q => hs (by rw [q]; exact h)
    by_cases hb : b < A.size
    · rw [AHeap.get_set _ _ _ _ hb, if_neg this]
    · unfold AHeap.get AHeap.set; simp only [Trie.get_set, if_neg this]⟩
theorem Ext.get {S : Nat → Prop} {A A' : AHeap} (h : Ext S A A') {b : Nat} {x : ABlk} (hb : A.get b = some x) (hs : ¬ S b) : A'.get b = some x := by
  rw [h.keep b (AHeap.get_lt hb) hs]; exact hb

theorem get_set' (A : AHeap) (b j : Nat) (x : ABlk) : (A.set b x).get j = if j = b then (if b < A.size then some x else none) else A.get j := by
  by_cases hb : b < A.size
  · rw [AHeap.get_set _ _ _ _ hb, if_pos hb]
  · rw [if_neg hb]
    unfold AHeap.get AHeap.set
    simp only [Trie.get_set]
    by_cases hj : j = b
    · subst hj; rw [if_neg hb, if_pos rfl]
    · rw [if_neg hj, if_neg hj]

/-- The block that a slice lies in. -/
def Own (v : Value) (b : Nat) : Prop := ∃ o n c, v = .slice (some ⟨b, o, none⟩) n c

/-- A slice of n elements of sz cells each that may be appended to: cs are its cells. -/
def SliceAt (A : AHeap) (sz : Nat) (v : Value) (n : Nat) (cs : List Value) : Prop :=
  (v = .slice none 0 0 ∧ n = 0 ∧ cs = []) ∨
  ∃ d o c bs opn, v = .slice (some ⟨d, o, none⟩) n c ∧ A.get d = some (.cells bs false opn) ∧ o + n * sz ≤ bs.length ∧ cs = (bs.drop o).take (n * sz) ∧
    ((c = OPEN ∧ opn = sz ∧ bs.length = o + n * sz) ∨ (c = n ∧ n < OPEN) ∨ (c = ENDCAP ∧ n = 0 ∧ opn = sz ∧ bs.length = o))

/-- A slice that is read. -/
def ReadAt (A : AHeap) (sz : Nat) (v : Value) (n : Nat) (cs : List Value) : Prop :=
  (v = .slice none 0 0 ∧ n = 0 ∧ cs = []) ∨
  (∃ d o c bs ro opn, v = .slice (some ⟨d, o, none⟩) n c ∧ A.get d = some (.cells bs ro opn) ∧ o + n * sz ≤ bs.length ∧ cs = (bs.drop o).take (n * sz) ∧ (c = ENDCAP → n = 0)) ∨
  ∃ d o c, v = .slice (some ⟨d, o, none⟩) 0 c ∧ n = 0 ∧ cs = []

theorem SliceAt.read {A : AHeap} {sz n : Nat} {v : Value} {cs : List Value} (h : SliceAt A sz v n cs) : ReadAt A sz v n cs := by
  rcases h with h | ⟨d, o, c, bs, opn, h1, h2, h3, h4, h5⟩
  · exact .inl h
  · refine .inr (.inl ⟨d, o, c, bs, false, opn, h1, h2, h3, h4, fun hc => ?_⟩)
    rcases h5 with ⟨q, _⟩ | ⟨q, q2⟩ | ⟨_, q, _⟩
    · rw [q] at hc; exact absurd hc (by decide)
    · rw [q] at hc; rw [hc] at q2; exact absurd q2 (by decide)
    · exact q

theorem ReadAt.length {A : AHeap} {sz n : Nat} {v : Value} {cs : List Value} (h : ReadAt A sz v n cs) : cs.length = n * sz := by
  rcases h with ⟨_, h2, h3⟩ | ⟨d, o, c, bs, ro, opn, h1, h2, h3, h4, h5⟩ | ⟨d, o, c, h1, h2, h3⟩
  · rw [h2, h3]; simp
  · rw [h4, List.length_take, List.length_drop]; omega
  · rw [h2, h3]; simp

theorem ReadAt.ext {S : Nat → Prop} {A A' : AHeap} {sz n : Nat} {v : Value} {cs : List Value} (h : ReadAt A sz v n cs) (he : Ext S A A') (hs : ∀ b, Own v b → ¬ S b) : ReadAt A' sz v n cs := by
  rcases h with h | ⟨d, o, c, bs, ro, opn, h1, h2, h3, h4, h5⟩ | h
  · exact .inl h
  · exact .inr (.inl ⟨d, o, c, bs, ro, opn, h1, he.get h2 (hs d ⟨o, n, c, h1⟩), h3, h4, h5⟩)
  · exact .inr (.inr h)

theorem SliceAt.ext {S : Nat → Prop} {A A' : AHeap} {sz n : Nat} {v : Value} {cs : List Value} (h : SliceAt A sz v n cs) (he : Ext S A A') (hs : ∀ b, Own v b → ¬ S b) : SliceAt A' sz v n cs := by
  rcases h with h | ⟨d, o, c, bs, opn, h1, h2, h3, h4, h5⟩
  · exact .inl h
  · exact .inr ⟨d, o, c, bs, opn, h1, he.get h2 (hs d ⟨o, n, c, h1⟩), h3, h4, h5⟩

theorem SliceAt.own_lt {A : AHeap} {sz n : Nat} {v : Value} {cs : List Value} (h : SliceAt A sz v n cs) {b : Nat} (hb : Own v b) : b < A.size := by
  obtain ⟨o', n', c', hv⟩ := hb
  rcases h with h | ⟨d, o, c, bs, opn, h1, h2, _⟩
  · rw [h.1] at hv; cases hv
  · rw [h1] at hv; cases hv; exact AHeap.get_lt h2

theorem SliceAt.nil {A : AHeap} {sz : Nat} : SliceAt A sz (.slice none 0 0) 0 [] := .inl ⟨rfl, rfl, rfl⟩

/-- The value of a slice: its length. -/
theorem ReadAt.val {A : AHeap} {sz n : Nat} {v : Value} {cs : List Value} (h : ReadAt A sz v n cs) : ∃ a c, v = .slice a n c := by
  rcases h with ⟨h1, h2, _⟩ | ⟨d, o, c, bs, ro, opn, h1, _⟩ | ⟨d, o, c, h1, h2, _⟩
  · exact ⟨none, 0, by rw [h1, h2]⟩
  · exact ⟨_, _, h1⟩
  · exact ⟨_, c, by rw [h1, h2]⟩

theorem ReadAt.lenA {A : AHeap} {sz n : Nat} {v : Value} {cs : List Value} (h : ReadAt A sz v n cs) : AS.lenA v = some n := by
  obtain ⟨a, c, rfl⟩ := h.val; rfl

theorem ReadAt.firstA {A : AHeap} {sz n k : Nat} {v : Value} {cs : List Value} (h : ReadAt A sz v n cs) (hk : k ≤ n) : AS.firstA A sz k v = some (cs.take (k * sz)) := by
  have hle : k * sz ≤ n * sz := Nat.mul_le_mul_right _ hk
  rcases h with ⟨h1, h2, h3⟩ | ⟨d, o, c, bs, ro, opn, h1, h2, h3, h4, h5⟩ | ⟨d, o, c, h1, h2, h3⟩
  case inr.inr =>
    have hk0 : k = 0 := by omega
    rw [h1, h3, hk0]; simp [AS.firstA]
  · rw [h1, h3]; simp [AS.firstA]
  · rw [h1]
    simp only [AS.firstA]
    by_cases h0 : k * sz = 0
    · rw [if_pos h0, h0]; simp
    · rw [if_neg h0]
      have hc : c ≠ ENDCAP := fun q => by
        have := h5 q; subst this
        have : k = 0 := by omega
        subst this; simp at h0
      rw [if_neg hc]
      simp only [rdCells, h2]
      rw [if_pos (by omega), h4, List.take_take]
      congr 2; omega

/-- The address of an element, and what lies there. -/
theorem ReadAt.elem {A : AHeap} {sz n i : Nat} {v : Value} {cs : List Value} (h : ReadAt A sz v n cs) (hi : i < n) : ∃ d o c, v = .slice (some ⟨d, o, none⟩) n c ∧ rdCells A d (o + i * sz) sz = some ((cs.drop (i * sz)).take sz) := by
  have hle : i * sz + sz ≤ n * sz := by
    have := Nat.mul_le_mul_right sz (show i + 1 ≤ n by omega)
    rwa [Nat.add_mul, Nat.one_mul] at this
  rcases h with ⟨h1, h2, h3⟩ | ⟨d, o, c, bs, ro, opn, h1, h2, h3, h4, h5⟩ | ⟨_, _, _, _, h2, _⟩
  case inr.inr => omega
  · omega
  · refine ⟨d, o, c, h1, ?_⟩
    simp only [rdCells, h2]
    rw [if_pos (by omega), h4, List.drop_take, List.take_take, List.drop_drop]
    congr 2; omega

/-- The cell of an element of one cell. -/
theorem ReadAt.cell {A : AHeap} {n i : Nat} {v : Value} {cs : List Value} (h : ReadAt A 1 v n cs) (hi : i < n) : ∃ d o c bs ro opn, v = .slice (some ⟨d, o, none⟩) n c ∧ A.get d = some (.cells bs ro opn) ∧ bs[o + i]? = cs[i]? := by
  rcases h with ⟨h1, h2, h3⟩ | ⟨d, o, c, bs, ro, opn, h1, h2, h3, h4, h5⟩ | ⟨_, _, _, _, h2, _⟩
  case inr.inr => omega
  · omega
  · refine ⟨d, o, c, bs, ro, opn, h1, h2, ?_⟩
    rw [h4, List.getElem?_take_of_lt (by omega), List.getElem?_drop]

/-- An append. -/
theorem SliceAt.append {A : AHeap} {sz n m bytes : Nat} {v x : Value} {cs new : List Value} (h : SliceAt A sz v n cs) (hsz : sz ≠ 0) (hx : AS.lenA x = some m) (hn : AS.firstA A sz m x = some new) (hone : new.all oneCell = true) (hlen : new.length = m * sz)
    (hfit : n + m ≤ 4294967296) (hb : bytes ≤ 8192) (hstr : isStr x = true → sz = 1) :
    ∃ v' A', appA A sz bytes v x = some (v', A') ∧ SliceAt A' sz v' (n + m) (cs ++ new) ∧ Ext (Own v) A A' ∧ (∀ b, Own v' b → Own v b ∨ A.size ≤ b) := by
  have hguard : (!(fitsA (n + m) bytes) || decide (sz = 0) || (isStr x && sz != 1)) = false := by
    simp only [fitsA, hfit, hb, decide_true, Bool.and_self, Bool.not_true, hsz, decide_false, Bool.or_self, Bool.false_or, Bool.and_eq_false_iff]
    cases hs : isStr x with
    | false => exact .inl rfl
    | true => right; rw [hstr hs]; rfl
  have hgrow : ∀ (A1 : AHeap) (old : List Value), A1.size = A.size → old = cs → Ext (Own v) A A1 → ∃ v' A', some (growA A1 sz old new (n + m)) = some (v', A') ∧ SliceAt A' sz v' (n + m) (cs ++ new) ∧ Ext (Own v) A A' ∧ (∀ b, Own v' b → Own v b ∨ A.size ≤ b) := by
    intro A1 old h1 h2 h3
    subst h2
    have hcs := h.read.length
    refine ⟨_, _, rfl, .inr ⟨A1.size, 0, OPEN, old ++ new, sz, rfl, by rw [AHeap.get_alloc, if_pos rfl], ?_, ?_, .inl ⟨rfl, rfl, ?_⟩⟩, h3.trans Ext.alloc, ?_⟩
    · rw [List.length_append, hcs, hlen, Nat.add_mul]; omega
    · rw [List.drop_zero, List.take_of_length_le]; rw [List.length_append, hcs, hlen, Nat.add_mul]; omega
    · rw [List.length_append, hcs, hlen, Nat.add_mul]; omega
    · rintro b ⟨o, k, c, hv⟩
      cases hv
      exact .inr (by omega)
  by_cases hm : m = 0
  · subst hm
    have hnew : new = [] := List.length_eq_zero_iff.1 (by rw [hlen]; simp)
    subst hnew
    refine ⟨v, A, ?_, by simpa using h, Ext.refl, fun b hb => .inl hb⟩
    obtain ⟨a, c, hv⟩ := h.read.val
    rcases h with ⟨h1, h2, h3⟩ | ⟨d, o, c, bs, opn, h1, h2, h3, h4, h5⟩
    · subst h1; subst h2
      unfold appA
      simp only [hx, hguard, Bool.false_eq_true, if_false, hn, if_true]
    · subst h1
      unfold appA
      simp only [hx, hguard, Bool.false_eq_true, if_false, hn, if_true]
  · have hmsz : 0 < m * sz := Nat.mul_pos (by omega) (by omega)
    rcases h with ⟨h1, h2, h3⟩ | ⟨d, o, c, bs, opn, h1, h2, h3, h4, h5⟩
    · subst h1; subst h2; subst h3
      obtain ⟨v', A', k1, k2⟩ := hgrow A [] rfl rfl Ext.refl
      refine ⟨v', A', ?_, k2⟩
      rw [← k1]
      unfold appA
      simp only [hx, hguard, Bool.false_eq_true, if_false, hn, if_neg hm, hone, if_true]
      simp only [Nat.zero_add]
    · have hrd : AS.firstA A sz n v = some cs := by
        have := (SliceAt.read (.inr ⟨d, o, c, bs, opn, h1, h2, h3, h4, h5⟩)).firstA (Nat.le_refl n)
        rw [this, List.take_of_length_le]
        rw [h4, List.length_take]; omega
      subst h1
      rcases h5 with ⟨q1, q2, q3⟩ | ⟨q1, q2⟩ | ⟨q1, q2, q3, q4⟩
      · subst q1; subst q2
        have hold : bs.drop o = cs := by rw [h4, List.take_of_length_le]; rw [List.length_drop]; omega
        obtain ⟨v', A', k1, k2⟩ := hgrow (A.set d .dead) (bs.drop o) rfl hold (Ext.set ⟨o, n, OPEN, rfl⟩)
        refine ⟨v', A', ?_, k2⟩
        rw [← k1]
        unfold appA
        have hno : ¬ (o + (n + m) * opn ≤ o + n * opn) := by rw [Nat.add_mul]; omega
        simp only [hx, hguard, Bool.false_eq_true, if_false, hn, if_neg hm, if_neg (show ¬ OPEN < OPEN by omega), if_true, h2, bne_self_eq_false, hno, q3, decide_true, hone, Bool.and_self]
      · subst q1
        obtain ⟨v', A', k1, k2⟩ := hgrow A cs rfl rfl Ext.refl
        refine ⟨v', A', ?_, k2⟩
        rw [← k1]
        unfold appA
        simp only [hx, hguard, Bool.false_eq_true, if_false, hn, if_neg hm, if_pos q2, if_neg (show ¬ c + m ≤ c by omega), hrd]
      · subst q1; subst q2; subst q3
        have hold : bs.drop o = cs := by rw [h4, List.take_of_length_le]; rw [List.length_drop]; omega
        obtain ⟨v', A', k1, k2⟩ := hgrow (A.set d .dead) (bs.drop o) rfl hold (Ext.set ⟨o, 0, ENDCAP, rfl⟩)
        refine ⟨v', A', ?_, k2⟩
        rw [← k1]
        unfold appA
        simp only [hx, hguard, Bool.false_eq_true, if_false, hn, if_neg hm, if_neg (show ¬ ENDCAP < OPEN by decide), if_neg (show ¬ ENDCAP = OPEN by decide), if_true, h2, bne_self_eq_false, q4, decide_true, hone, Bool.and_self]

end Go.AS
