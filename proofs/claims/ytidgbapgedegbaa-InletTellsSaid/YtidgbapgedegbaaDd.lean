/- A path's chunks, and an inlet that takes them. -/
import Derived.Test.YtidgbapgedegbaaIc
import Derived.Test.YtidgbapgedegbaaDb
namespace Go.Proofs.Ytidgbapgedegbaa
open Go Go.AS
set_option maxRecDepth 100000
set_option linter.unusedSimpArgs false
set_option linter.unusedVariables false

/-- A chunk. -/
structure Ck where
  m : Mp
  t : List UInt8
def dsnF (idsn off : Int) : Int := IntKind.u64.wrap (IntKind.u64.wrap (idsn + 1) + IntKind.u64.wrap off)
def ssnF (at_ : Int) : Int := IntKind.u32.wrap (IntKind.i64.wrap (1 + at_))
def sumF (idsn : Int) (m : Mp) (l : List UInt8) : Nat := ofN (dsnF idsn m.off) (ssnF m.at_) m.len l
def rtF (idsn : Int) (m : Mp) (l : List UInt8) : Bool := rightN (dsnF idsn m.off) (ssnF m.at_) m.len l m.sum
def CkOk (sums : Bool) (idsn : Int) (at_ : Nat) (c : Ck) : Prop := c.m.at_ = at_ ∧ c.m.len = c.t.length ∧ 1 ≤ c.t.length ∧ c.t.length ≤ 40 ∧ 0 ≤ c.m.off ∧ c.m.off ≤ 2000 ∧ c.m.sum = (if sums = true then ((sumF idsn c.m c.t : Nat) : Int) else 0)
def size (cs : List Ck) : Nat := (cs.map fun c => c.t.length).sum
def Segs (sums : Bool) (idsn : Int) : Nat → List Ck → Prop
  | _, [] => True
  | a, c :: l => CkOk sums idsn a c ∧ Segs sums idsn (a + c.t.length) l
def pos (cs : List Ck) (k : Nat) : Nat := size (cs.take k)
theorem size_append (l m : List Ck) : size (l ++ m) = size l + size m := by simp [size]
theorem segs_append {sums : Bool} {idsn : Int} : ∀ {a : Nat} {l m : List Ck}, Segs sums idsn a (l ++ m) ↔ Segs sums idsn a l ∧ Segs sums idsn (a + size l) m
  | a, [], m => by simp [Segs, size]
  | a, c :: l, m => by
    have := segs_append (sums := sums) (idsn := idsn) (a := a + c.t.length) (l := l) (m := m)
    simp only [List.cons_append, Segs, this, and_assoc]
    rw [show size (c :: l) = c.t.length + size l by simp [size], Nat.add_assoc]
theorem segs_at {sums : Bool} {idsn : Int} {cs : List Ck} (h : Segs sums idsn 0 cs) {k : Nat} (hk : k < cs.length) : CkOk sums idsn (pos cs k) cs[k] := by
  have cut : cs = cs.take k ++ (cs[k] :: cs.drop (k + 1)) := by rw [← List.drop_eq_getElem_cons hk, List.take_append_drop]
  rw [cut] at h
  have := (segs_append.1 h).2.1
  rwa [Nat.zero_add] at this
theorem pos_succ {cs : List Ck} {k : Nat} (hk : k < cs.length) : pos cs (k + 1) = pos cs k + (cs[k]).t.length := by
  unfold pos
  rw [List.take_add_one, List.getElem?_eq_getElem hk, size_append]
  simp [size]
theorem pos_le {cs : List Ck} : ∀ {j k : Nat}, j ≤ k → pos cs j ≤ pos cs k
  | j, 0, h => by have : j = 0 := by omega
                  subst this; exact Nat.le_refl _
  | j, k + 1, h => by
    by_cases e : j = k + 1
    · subst e; exact Nat.le_refl _
    · have h1 := pos_le (cs := cs) (show j ≤ k by omega)
      by_cases hk : k < cs.length
      · rw [pos_succ hk]; omega
      · have : pos cs (k + 1) = pos cs k := by
          unfold pos
          rw [List.take_of_length_le (by omega), List.take_of_length_le (by omega)]
        omega
/-- Where a place in the stream lies. -/
theorem place_in {sums : Bool} {idsn : Int} {cs : List Ck} (h : Segs sums idsn 0 cs) {c k i j : Nat} (hc : c < cs.length) (hk : k < cs.length) (hi : i < (cs[c]).t.length) (hj : j < (cs[k]).t.length) (e : pos cs c + i = pos cs k + j) : c = k ∧ i = j := by
  have s1 := pos_succ hc
  have s2 := pos_succ hk
  rcases Nat.lt_trichotomy c k with q | q | q
  · have := pos_le (cs := cs) (show c + 1 ≤ k by omega)
    omega
  · subst q; exact ⟨rfl, by omega⟩
  · have := pos_le (cs := cs) (show k + 1 ≤ c by omega)
    omega
theorem ck_pos {sums : Bool} {idsn : Int} {cs : List Ck} (h : Segs sums idsn 0 cs) {c k : Nat} (hc : c < cs.length) (hlt : pos cs k ≤ pos cs c + 0 ∨ True) (hk : k ≤ cs.length) {i : Nat} (hi : i < (cs[c]).t.length) (hx : pos cs k ≤ pos cs c + i) : k ≤ c := by
  by_cases q : k ≤ c
  · exact q
  · have s1 := pos_succ hc
    have := pos_le (cs := cs) (show c + 1 ≤ k by omega)
    omega

/-- What an inlet has of them. -/
structure Inv (cs : List Ck) (k : Nat) (s : IS) : Prop where
  base : s.base = pos cs k
  le : k ≤ cs.length
  hf : ∀ x b, s.f x = some b → ∃ c, ∃ hc : c < cs.length, k ≤ c ∧ cs[c].m ∈ s.ms ∧ ∃ i, ∃ hi : i < (cs[c]).t.length, x = ((pos cs c + i : Nat) : Int) ∧ (cs[c]).t[i] = b
  hm : ∀ m ∈ s.ms, ∃ c, ∃ hc : c < cs.length, k ≤ c ∧ m = cs[c].m
theorem mem_ins {ms : List Mp} {m x : Mp} {p : Nat} : x ∈ ms.take p ++ m :: ms.drop p ↔ x = m ∨ x ∈ ms := by
  constructor
  · intro h
    rcases List.mem_append.1 h with q | q
    · exact .inr (List.mem_of_mem_take q)
    · rcases List.mem_cons.1 q with q | q
      · exact .inl q
      · exact .inr (List.mem_of_mem_drop q)
  · rintro (q | q)
    · subst q; simp
    · rw [← List.take_append_drop p ms] at q
      rcases List.mem_append.1 q with q | q
      · exact List.mem_append.2 (.inl q)
      · exact List.mem_append.2 (.inr (List.mem_cons_of_mem _ q))
theorem Inv.map {cs : List Ck} {k : Nat} {s : IS} (I : Inv cs k s) {sums : Bool} {idsn : Int} (h : Segs sums idsn 0 cs) {c p : Nat} (hc : c < cs.length) (hp : MayPut s.room s.base cs[c].m) : Inv cs k { s with ms := s.ms.take p ++ cs[c].m :: s.ms.drop p } := by
  have hk : k ≤ c := by
    have h1 := (segs_at h hc).1
    have h2 := hp.2.2.2.1
    have h3 := (segs_at h hc).2.2.1
    rw [h1, I.base] at h2
    exact ck_pos h hc (.inr trivial) I.le (i := 0) (by omega) (by omega)
  refine ⟨I.base, I.le, fun x b hx => ?_, fun m hm => ?_⟩
  · obtain ⟨c', hc', q1, q2, q3⟩ := I.hf x b hx
    exact ⟨c', hc', q1, mem_ins.2 (.inr q2), q3⟩
  · rcases mem_ins.1 hm with q | q
    · exact ⟨c, hc, hk, q⟩
    · exact I.hm m q
theorem findM_mem {ms : List Mp} {a : Int} {m : Mp} (h : findM ms a = some m) : m ∈ ms ∧ m.at_ = a := by
  unfold findM at h
  exact ⟨List.mem_of_find?_eq_some h, by simpa using List.find?_some h⟩
theorem findM_none {ms : List Mp} {a : Int} (h : findM ms a = none) : ∀ m ∈ ms, m.at_ ≠ a := by
  unfold findM at h
  rw [List.find?_eq_none] at h
  intro m hm
  simpa using h m hm
/-- A mapping that lies in the room is there, once it came. -/
theorem Inv.there {cs : List Ck} {k : Nat} {s : IS} (I : Inv cs k s) {sums : Bool} {idsn : Int} (h : Segs sums idsn 0 cs) {c : Nat} (hc : c < cs.length) (hr : 40 ≤ s.room) (h1 : s.base ≤ pos cs c) (h2 : pos cs c < s.base + s.room)
    (hno : ¬ (MayPut s.room s.base cs[c].m ∧ findM s.ms cs[c].m.at_ = none)) : cs[c].m ∈ s.ms := by
  obtain ⟨a1, a2, a3, a4, a5, a6, a7⟩ := segs_at h hc
  have may : MayPut s.room s.base cs[c].m := ⟨by omega, by omega, a5, by omega, by omega⟩
  cases hfm : findM s.ms cs[c].m.at_ with
  | none => exact absurd ⟨may, hfm⟩ hno
  | some m =>
    obtain ⟨q1, q2⟩ := findM_mem hfm
    obtain ⟨c', hc', _, q3⟩ := I.hm m q1
    have b := segs_at h hc'
    have e : pos cs c' + 0 = pos cs c + 0 := by
      have e1 := b.1
      rw [← q3, q2, a1] at e1
      omega
    have := (place_in h hc' hc (by have := b.2.2.1; omega) (by omega) e).1
    subst this
    rwa [q3] at q1
theorem Inv.put {cs : List Ck} {k : Nat} {s : IS} (I : Inv cs k s) {sums : Bool} {idsn : Int} (h : Segs sums idsn 0 cs) {c : Nat} (hc : c < cs.length) (hin : s.base ≤ pos cs c → pos cs c < s.base + s.room → cs[c].m ∈ s.ms) (a b : Nat) (hab : a ≤ b) (hb : b ≤ (cs[c]).t.length) :
    Inv cs k { s with f := putB s.room s.base ((pos cs c + a : Nat) : Int) (((cs[c]).t.drop a).take (b - a)) s.f } := by
  refine ⟨I.base, I.le, fun x y hx => ?_, I.hm⟩
  simp only [putB] at hx
  cases hfx : s.f x with
  | some z =>
    rw [hfx] at hx
    simp only [Option.some.injEq] at hx
    subst hx
    exact I.hf x _ hfx
  | none =>
    rw [hfx] at hx
    simp only at hx
    split at hx
    · rename_i hcond
      obtain ⟨c1, c2, c3⟩ := hcond
      have hlt := (List.getElem?_eq_some_iff.1 hx).1
      rw [List.length_take, List.length_drop] at hlt
      rw [List.getElem?_take_of_lt (by omega), List.getElem?_drop] at hx
      obtain ⟨hi, hv⟩ := List.getElem?_eq_some_iff.1 hx
      have ex : x = ((pos cs c + (a + (x - ((pos cs c + a : Nat) : Int)).toNat) : Nat) : Int) := by omega
      have hkc : k ≤ c := ck_pos h hc (.inr trivial) I.le hi (by rw [← I.base]; omega)
      have hpc := pos_le (cs := cs) hkc
      exact ⟨c, hc, hkc, hin (by rw [I.base]; exact hpc) (by omega), _, hi, ex, hv⟩
    · cases hx
/-- What is next. -/
theorem Inv.next {cs : List Ck} {k : Nat} {s : IS} (I : Inv cs k s) (h : Segs s.sums s.idsn 0 cs) : (nextV s (rtF s.idsn)).1 = 0 ∨ ∃ hk : k < cs.length, nextV s (rtF s.idsn) = (1, cs[k].m, cs[k].t) := by
  unfold nextV
  cases hfm : findM s.ms s.base with
  | none =>
    simp only
    cases hfb : s.f s.base with
    | none => simp
    | some b =>
      exfalso
      obtain ⟨c, hc, q1, q2, i, hi, q3, _⟩ := I.hf _ _ hfb
      have hp := pos_le (cs := cs) q1
      have : pos cs c = s.base := by rw [I.base] at q3 ⊢; omega
      exact findM_none hfm _ q2 (by rw [(segs_at h hc).1, this])
  | some m =>
    obtain ⟨q1, q2⟩ := findM_mem hfm
    obtain ⟨c, hc, q3, q4⟩ := I.hm m q1
    have hck := segs_at h hc
    have e1 : pos cs c = pos cs k := by
      have := hck.1
      rw [← q4, q2, I.base] at this
      omega
    have ck : c = k := by
      by_cases e : c = k
      · exact e
      · have := pos_le (cs := cs) (show k + 1 ≤ c by omega)
        have hkl : k < cs.length := by omega
        have h2 := (segs_at h hkl).2.2.1
        rw [pos_succ hkl] at this
        omega
    subst ck
    simp only
    cases hg : gatherB s.f s.base m.len.toNat with
    | none => simp
    | some l =>
      obtain ⟨g1, g2⟩ := gatherB_some _ _ _ _ hg
      have lenm : m.len.toNat = (cs[c]).t.length := by rw [q4, hck.2.1]; simp
      have el : l = (cs[c]).t := by
        refine List.ext_getElem (by rw [g1, lenm]) fun i h1 h2 => ?_
        obtain ⟨c', hc', r1, r2, i', hi', r3, r4⟩ := I.hf _ _ (g2 i h1)
        rw [I.base] at r3
        have := place_in h hc' hc hi' h2 (by omega)
        obtain ⟨rfl, rfl⟩ := this
        exact r4.symm
      subst el
      simp only
      refine .inr ⟨hc, ?_⟩
      cases hs : s.sums with
      | false => simp [q4]
      | true =>
        have : rtF s.idsn cs[c].m (cs[c]).t = true := by
          unfold rtF
          have h7 := hck.2.2.2.2.2.2
          rw [hs, if_pos rfl] at h7
          rw [h7]
          exact right_ok _ _ _ _
        simp [this, q4]
/-- One chunk is taken. -/
theorem Inv.skip {cs : List Ck} {k : Nat} {s : IS} (I : Inv cs k s) {sums : Bool} {idsn : Int} (h : Segs sums idsn 0 cs) (hk : k < cs.length) {to : Nat} (ht : to = s.base + (cs[k]).t.length) : Inv cs (k + 1) (skipS s to) := by
  have hto : to = pos cs (k + 1) := by rw [pos_succ hk, ht, I.base]
  refine ⟨hto, by omega, fun x b hx => ?_, fun m hm => ?_⟩
  · simp only [skipS, cutB] at hx
    split at hx
    · cases hx
    · rename_i hge
      obtain ⟨c, hc, q1, q2, i, hi, q3, q4⟩ := I.hf x b hx
      have hkc : k + 1 ≤ c := ck_pos h hc (.inr trivial) (by omega) hi (by omega)
      refine ⟨c, hc, hkc, ?_, i, hi, q3, q4⟩
      have := pos_le (cs := cs) hkc
      simp only [skipS, List.mem_filter, decide_eq_true_eq]
      exact ⟨q2, by rw [(segs_at h hc).1]; omega⟩
  · simp only [skipS, List.mem_filter, decide_eq_true_eq] at hm
    obtain ⟨c, hc, q1, q2⟩ := I.hm m hm.1
    refine ⟨c, hc, ?_, q2⟩
    have := hm.2
    rw [q2, (segs_at h hc).1] at this
    have h3 := (segs_at h hc).2.2.1
    exact ck_pos h hc (.inr trivial) (by omega) (i := 0) (by omega) (by omega)
/-- A chunk that came whole, where the inlet stands, is next. -/
theorem next_whole {s : IS} {rt : Mp → List UInt8 → Bool} {m : Mp} (hm : findM s.ms s.base = some m) (hl : ∀ i : Nat, i < m.len.toNat → (s.f (s.base + i)).isSome = true) (hb : ∀ l, s.sums = true → gatherB s.f s.base m.len.toNat = some l → rt m l = true) : (nextV s rt).1 = 1 := by
  have hg : ∃ l, gatherB s.f s.base m.len.toNat = some l := by
    generalize m.len.toNat = n at hl
    have key : ∀ (n : Nat) (off : Int), (∀ i : Nat, i < n → (s.f (off + i)).isSome = true) → ∃ l, gatherB s.f off n = some l := by
      intro n
      induction n with
      | zero => intro off _; exact ⟨[], rfl⟩
      | succ n ih =>
        intro off ho
        obtain ⟨b, hb⟩ := Option.isSome_iff_exists.1 (by simpa using ho 0 (by omega))
        obtain ⟨l, hl⟩ := ih (off + 1) fun i hi => by
          have := ho (i + 1) (by omega)
          rwa [show off + ((i + 1 : Nat) : Int) = off + 1 + (i : Int) by omega] at this
        exact ⟨b :: l, by simp only [gatherB, hb, hl]⟩
    exact key n _ hl
  obtain ⟨l, hg⟩ := hg
  unfold nextV
  simp only [hm, hg]
  cases hs : s.sums with
  | false => simp
  | true => simp [hb l hs hg]
end Go.Proofs.Ytidgbapgedegbaa
