/- An inlet into which all came, one chunk spoilt perhaps: what is next, and what Raw tells. -/
import Derived.Test.YtidgbapgedegbaaDl
namespace Go.Proofs.Ytidgbapgedegbaa
open Go Go.AS
set_option maxRecDepth 100000
set_option linter.unusedSimpArgs false
set_option linter.unusedVariables false

structure Tx (cs : List Ck) (tx : List (List UInt8)) : Prop where
  len : tx.length = cs.length
  at_ : ∀ k (hk : k < cs.length), (tx[k]'(by omega)).length = (cs[k]).t.length
theorem Tx.maps {cs : List Ck} {tx : List (List UInt8)} (h : Tx cs tx) : tx.map List.length = cs.map fun c => c.t.length := by
  refine List.ext_getElem (by simp [h.len]) fun i h1 h2 => ?_
  simp only [List.getElem_map]
  exact h.at_ i (by simpa using h2)
theorem Tx.pos {cs : List Ck} {tx : List (List UInt8)} (h : Tx cs tx) (k : Nat) : (tx.take k).flatten.length = pos cs k := by
  rw [List.length_flatten, List.map_take, h.maps, ← List.map_take]; rfl
theorem Tx.cut {cs : List Ck} {tx : List (List UInt8)} (h : Tx cs tx) {k : Nat} (hk : k < cs.length) : tx.flatten = (tx.take k).flatten ++ (tx[k]'(by rw [h.len]; exact hk) ++ (tx.drop (k + 1)).flatten) := by
  have : k < tx.length := by rw [h.len]; exact hk
  conv => lhs; rw [← List.take_append_drop k tx, List.drop_eq_getElem_cons this]
  rw [List.flatten_append, List.flatten_cons]
theorem Tx.flat_at {cs : List Ck} {tx : List (List UInt8)} (h : Tx cs tx) {k i : Nat} (hk : k < cs.length) (hi : i < (cs[k]).t.length) : tx.flatten[Go.Proofs.Ytidgbapgedegbaa.pos cs k + i]? = some ((tx[k]'(by rw [h.len]; exact hk))[i]'(by rw [h.at_ k hk]; exact hi)) := by
  have h1 := h.pos k
  rw [h.cut hk, List.getElem?_append_right (by omega), h1, Nat.add_sub_cancel_left, List.getElem?_append_left (by rw [h.at_ k hk]; exact hi), List.getElem?_eq_getElem]
theorem Tx.flat_len {cs : List Ck} {tx : List (List UInt8)} (h : Tx cs tx) : tx.flatten.length = Go.Proofs.Ytidgbapgedegbaa.pos cs cs.length := by
  have := h.pos cs.length
  rwa [List.take_of_length_le (by rw [h.len]; exact Nat.le_refl _)] at this
structure Sp (cs : List Ck) (tx : List (List UInt8)) (pr : Nat → Bool) (k j jm : Nat) (s : IS) : Prop where
  base : s.base = pos cs k
  f : ∀ x : Nat, s.f (x : Int) = if pos cs k ≤ x ∧ x < pos cs j then tx.flatten[x]? else none
  ms : ∀ m, m ∈ s.ms ↔ ∃ c, k ≤ c ∧ c < jm ∧ pr c = true ∧ ∃ hc : c < cs.length, m = cs[c].m
section
variable {cs : List Ck} {tx : List (List UInt8)} {pr : Nat → Bool} {s : IS} {sums : Bool} {idsn : Int}
theorem Sp.hasnt {k j jm : Nat} (I : Sp cs tx pr k j jm s) (seg : Segs sums idsn 0 cs) {c : Nat} (hc : c < cs.length) (h : jm ≤ c ∨ pr c = false) : findM s.ms (pos cs c) = none := by
  cases hf : findM s.ms (pos cs c) with
  | none => rfl
  | some m =>
    obtain ⟨q1, q2⟩ := findM_mem hf
    obtain ⟨c', h1, h2, h3, hc', h4⟩ := (I.ms m).1 q1
    have a := segs_at seg hc'
    have b := segs_at seg hc
    have e : pos cs c' + 0 = pos cs c + 0 := by
      have := a.1
      rw [← h4, q2] at this
      omega
    have := (place_in seg hc' hc (by have := a.2.2.1; omega) (by have := b.2.2.1; omega) e).1
    subst this
    rcases h with q | q
    · omega
    · rw [h3] at q; cases q
theorem Sp.has {k j jm : Nat} (I : Sp cs tx pr k j jm s) (seg : Segs sums idsn 0 cs) {c : Nat} (hc : c < cs.length) (h1 : k ≤ c) (h2 : c < jm) (h3 : pr c = true) : findM s.ms (pos cs c) = some cs[c].m := by
  have hm := (I.ms cs[c].m).2 ⟨c, h1, h2, h3, hc, rfl⟩
  cases hf : findM s.ms (pos cs c) with
  | none =>
    have := findM_none hf _ hm
    rw [(segs_at seg hc).1] at this
    exact absurd rfl this
  | some m =>
    obtain ⟨q1, q2⟩ := findM_mem hf
    obtain ⟨c', _, _, _, hc', h4⟩ := (I.ms m).1 q1
    have a := segs_at seg hc'
    have b := segs_at seg hc
    have e : pos cs c' + 0 = pos cs c + 0 := by
      have := a.1
      rw [← h4, q2] at this
      omega
    have := (place_in seg hc' hc (by have := a.2.2.1; omega) (by have := b.2.2.1; omega) e).1
    subst this
    rw [h4]
theorem Sp.map {j : Nat} (I : Sp cs tx pr 0 j j s) (hj : j < cs.length) (hpr : pr j = true) {p : Nat} : Sp cs tx pr 0 j (j + 1) { s with ms := s.ms.take p ++ cs[j].m :: s.ms.drop p } := by
  refine ⟨I.base, I.f, fun m => ?_⟩
  rw [mem_ins, I.ms m]
  constructor
  · rintro (rfl | ⟨c, h1, h2, h3⟩)
    · exact ⟨j, Nat.zero_le _, by omega, hpr, hj, rfl⟩
    · exact ⟨c, h1, by omega, h3⟩
  · rintro ⟨c, h1, h2, h3, hc, h4⟩
    by_cases e : c = j
    · subst e; exact .inl h4
    · exact .inr ⟨c, h1, by omega, h3, hc, h4⟩
theorem Sp.nomap {j : Nat} (I : Sp cs tx pr 0 j j s) (hpr : pr j = false) : Sp cs tx pr 0 j (j + 1) s := by
  refine ⟨I.base, I.f, fun m => ?_⟩
  rw [I.ms m]
  constructor
  · rintro ⟨c, h1, h2, h3⟩
    exact ⟨c, h1, by omega, h3⟩
  · rintro ⟨c, h1, h2, h3, h4⟩
    have : c ≠ j := fun q => by rw [q, hpr] at h3; cases h3
    exact ⟨c, h1, by omega, h3, h4⟩
theorem Sp.put {j : Nat} (I : Sp cs tx pr 0 j (j + 1) s) (T : Tx cs tx) (hj : j < cs.length) (hroom : pos cs cs.length ≤ s.room) : Sp cs tx pr 0 (j + 1) (j + 1) { s with f := putB s.room s.base ((pos cs j : Nat) : Int) (tx[j]'(by rw [T.len]; exact hj)) s.f } := by
  have hs := pos_succ hj
  have hp0 : pos cs 0 = 0 := by simp [pos, size]
  have hb := I.base
  have hle := pos_le (cs := cs) (show j + 1 ≤ cs.length by omega)
  refine ⟨I.base, fun x => ?_, I.ms⟩
  simp only [putB, I.f x]
  by_cases c1 : x < pos cs j
  · have c1' : x < tx.flatten.length := by rw [T.flat_len]; omega
    have e1 : pos cs 0 ≤ x ∧ x < pos cs j := ⟨by omega, c1⟩
    have e2 : pos cs 0 ≤ x ∧ x < pos cs (j + 1) := ⟨by omega, by omega⟩
    rw [if_pos e1, if_pos e2, List.getElem?_eq_getElem c1']
  · rw [if_neg (by omega)]
    simp only
    by_cases c2 : x < pos cs (j + 1)
    · obtain ⟨i, rfl⟩ : ∃ i, x = pos cs j + i := ⟨x - pos cs j, by omega⟩
      have e2 : (s.base : Int) ≤ ((pos cs j + i : Nat) : Int) ∧ ((pos cs j + i : Nat) : Int) < (s.base : Int) + s.room ∧ ((pos cs j : Nat) : Int) ≤ ((pos cs j + i : Nat) : Int) := by omega
      have e3 : pos cs 0 ≤ pos cs j + i ∧ pos cs j + i < pos cs (j + 1) := by omega
      rw [if_pos e2, if_pos e3, T.flat_at hj (by omega), show (((pos cs j + i : Nat) : Int) - ((pos cs j : Nat) : Int)).toNat = i by omega, List.getElem?_eq_getElem]
    · have e2 : ¬ (pos cs 0 ≤ x ∧ x < pos cs (j + 1)) := by omega
      rw [if_neg e2]
      by_cases c3 : (s.base : Int) ≤ (x : Int) ∧ (x : Int) < (s.base : Int) + s.room ∧ ((pos cs j : Nat) : Int) ≤ (x : Int)
      · rw [if_pos c3, List.getElem?_eq_none]
        rw [T.at_ j hj]; omega
      · rw [if_neg c3]
theorem Sp.gather {k : Nat} {jm : Nat} (I : Sp cs tx pr k cs.length jm s) (T : Tx cs tx) (hk : k < cs.length) : gatherB s.f s.base (cs[k]).t.length = some (tx[k]'(by rw [T.len]; exact hk)) := by
  have := gatherB_pre s.f (tx[k]'(by rw [T.len]; exact hk)) s.base fun i hi => by
    rw [T.at_ k hk] at hi
    have hs := pos_succ hk
    have hle := pos_le (cs := cs) (show k + 1 ≤ cs.length by omega)
    have hb := I.base
    rw [show (s.base : Int) + (i : Int) = ((pos cs k + i : Nat) : Int) by omega, I.f, if_pos (by omega), T.flat_at hk hi]
  rwa [T.at_ k hk] at this
theorem Sp.next {k jm : Nat} (I : Sp cs tx pr k cs.length jm s) (T : Tx cs tx) (seg : Segs sums idsn 0 cs) (hk : k < cs.length) (hjm : k < jm) (hpr : pr k = true) (rt : Mp → List UInt8 → Bool) : nextV s rt = if s.sums && !rt cs[k].m (tx[k]'(by rw [T.len]; exact hk)) then (2, cs[k].m, tx[k]'(by rw [T.len]; exact hk)) else (1, cs[k].m, tx[k]'(by rw [T.len]; exact hk)) := by
  have hf := I.has seg hk (Nat.le_refl _) hjm hpr
  have hl : cs[k].m.len.toNat = (cs[k]).t.length := by rw [(segs_at seg hk).2.1]; simp
  unfold nextV
  rw [I.base, hf]
  simp only
  have hg := I.gather T hk
  rw [I.base] at hg
  rw [hl, hg]
theorem Sp.bare {k jm : Nat} (I : Sp cs tx pr k cs.length jm s) (T : Tx cs tx) (seg : Segs sums idsn 0 cs) (hk : k < cs.length) (hpr : pr k = false) (rt : Mp → List UInt8 → Bool) : nextV s rt = (3, mp0, []) := by
  have hf := I.hasnt seg hk (.inr hpr)
  have hs := pos_succ hk
  have hle := pos_le (cs := cs) (show k + 1 ≤ cs.length by omega)
  have h1 := (segs_at seg hk).2.2.1
  have hx := I.f (pos cs k)
  rw [if_pos (by omega), show pos cs k = pos cs k + 0 from rfl, T.flat_at hk (by omega)] at hx
  unfold nextV
  rw [I.base, hf]
  simp only
  rw [show (pos cs k : Int) = ((pos cs k + 0 : Nat) : Int) from rfl, hx]
  rfl
theorem Sp.raw {k jm : Nat} (I : Sp cs tx pr k cs.length jm s) (T : Tx cs tx) (hk : k < cs.length) {l : List UInt8} (h1 : ∀ nx : Nat, NextIs s.base s.f nx → (l.length : Int) = max 0 (min (((cs[k]).t.length : Nat) : Int) ((nx : Int) - s.base))) (h2 : Pre s.f s.base l) : l = tx[k]'(by rw [T.len]; exact hk) := by
  have hs := pos_succ hk
  have hle := pos_le (cs := cs) (show k + 1 ≤ cs.length by omega)
  have hb := I.base
  have hl := h1 (pos cs cs.length) ⟨by omega, by rw [I.f, if_neg (by omega)], fun x hx1 hx2 => by
    rw [I.f, if_pos (by omega), List.getElem?_eq_getElem (by rw [T.flat_len]; exact hx2)]; rfl⟩
  have hlen : l.length = (cs[k]).t.length := by omega
  refine List.ext_getElem (by rw [hlen, T.at_ k hk]) fun i hi1 hi2 => ?_
  have := h2 i hi1
  rw [show (s.base : Int) + (i : Int) = ((pos cs k + i : Nat) : Int) by omega, I.f, if_pos (by omega), T.flat_at hk (by omega)] at this
  exact (Option.some.inj this).symm
theorem Sp.skip {k jm : Nat} (I : Sp cs tx pr k cs.length jm s) (seg : Segs sums idsn 0 cs) (hk : k < cs.length) {to : Nat} (ht : to = s.base + (cs[k]).t.length) : Sp cs tx pr (k + 1) cs.length jm (skipS s to) := by
  have hto : to = pos cs (k + 1) := by rw [pos_succ hk, ht, I.base]
  have hs := pos_succ hk
  refine ⟨hto, fun x => ?_, fun m => ?_⟩
  · simp only [skipS, cutB, I.f x]
    by_cases c : (x : Int) < (to : Int)
    · rw [if_pos c, if_neg (by omega)]
    · rw [if_neg c]
      by_cases c2 : x < pos cs cs.length
      · rw [if_pos (by omega), if_pos (by omega)]
      · rw [if_neg (by omega), if_neg (by omega)]
  · simp only [skipS, List.mem_filter, decide_eq_true_eq, I.ms m]
    constructor
    · rintro ⟨⟨c, q1, q2, q3, hc, q4⟩, q5⟩
      have hcp := segs_at seg hc
      refine ⟨c, ?_, q2, q3, hc, q4⟩
      rw [q4, hcp.1] at q5
      exact ck_pos seg hc (.inr trivial) (by omega) (i := 0) (by have := hcp.2.2.1; omega) (by omega)
    · rintro ⟨c, q1, q2, q3, hc, q4⟩
      refine ⟨⟨c, by omega, q2, q3, hc, q4⟩, ?_⟩
      have := pos_le (cs := cs) q1
      rw [q4, (segs_at seg hc).1]
      omega
theorem Sp.right {k j jm : Nat} (I : Sp cs tx pr k j jm s) (seg : Segs sums idsn 0 cs) : RightOk s (rtF s.idsn) := right_in s fun m hm => by
  obtain ⟨c, _, _, _, hc, q⟩ := (I.ms m).1 hm
  rw [q]
  exact ck_sum (segs_at seg hc)
end
/-- One text is another one. -/
theorem tx_set {cs : List Ck} {c : Nat} {t : List UInt8} (hc : c < cs.length) (ht : t.length = (cs[c]).t.length) : Tx cs ((cs.map (·.t)).set c t) := by
  refine ⟨by simp, fun k hk => ?_⟩
  rw [List.getElem_set]
  split
  · rename_i h; subst h; exact ht
  · simp
theorem tx_self (cs : List Ck) : Tx cs (cs.map (·.t)) := ⟨by simp, fun k hk => by simp⟩
theorem rt_same {idsn : Int} {cs : List Ck} (seg : Segs true idsn 0 cs) {k : Nat} (hk : k < cs.length) : rtF idsn cs[k].m (cs[k]).t = true := by
  unfold rtF
  have h7 := (segs_at seg hk).2.2.2.2.2.2
  rw [if_pos rfl] at h7
  rw [h7]
  exact right_ok _ _ _ _
theorem rt_other {idsn : Int} {cs : List Ck} (seg : Segs true idsn 0 cs) {k q : Nat} {b : UInt8} (hk : k < cs.length) (hq : q < (cs[k]).t.length) (hb : b ≠ (cs[k]).t[q]) : rtF idsn cs[k].m ((cs[k]).t.set q b) = false := by
  unfold rtF
  have h7 := (segs_at seg hk).2.2.2.2.2.2
  rw [if_pos rfl] at h7
  rw [h7]
  exact right_no _ _ _ _ _ _ hq hb
theorem xor_other (a : UInt8) (y : Nat) (h : y < 255) : ∃ b : UInt8, b ≠ a ∧ IntKind.u8.wrap (BitVec.ofInt IntKind.u8.bits (a.toNat : Int) ^^^ BitVec.ofInt IntKind.u8.bits ((1 : Int) + (y : Int))).toNat = (b.toNat : Int) := by
  have ha := UInt8.toNat_lt a
  have e1 : (BitVec.ofInt IntKind.u8.bits (a.toNat : Int)).toNat = a.toNat := by
    rw [BitVec.toNat_ofInt]
    have : ((2 ^ IntKind.u8.bits : Nat) : Int) = 256 := by decide
    rw [this]; omega
  have e2 : (BitVec.ofInt IntKind.u8.bits ((1 : Int) + (y : Int))).toNat = 1 + y := by
    rw [BitVec.toNat_ofInt]
    have : ((2 ^ IntKind.u8.bits : Nat) : Int) = 256 := by decide
    rw [this]; omega
  have e3 : (UInt8.ofNat (1 + y)).toNat = 1 + y := ofNat_toNat (by omega)
  refine ⟨a ^^^ UInt8.ofNat (1 + y), fun q => ?_, ?_⟩
  · have h1 := congrArg UInt8.toNat q
    rw [UInt8.toNat_xor, e3] at h1
    have h2 : a.toNat ^^^ (a.toNat ^^^ (1 + y)) = a.toNat ^^^ a.toNat := by rw [h1]
    rw [← Nat.xor_assoc, Nat.xor_self, Nat.zero_xor] at h2
    omega
  · have hb := UInt8.toNat_lt (a ^^^ UInt8.ofNat (1 + y))
    rw [UInt8.toNat_xor, e3] at hb ⊢
    rw [BitVec.toNat_xor, e1, e2]
    generalize a.toNat ^^^ (1 + y) = z at hb ⊢
    exact IntWalk.u8_in _ (by omega)
end Go.Proofs.Ytidgbapgedegbaa
