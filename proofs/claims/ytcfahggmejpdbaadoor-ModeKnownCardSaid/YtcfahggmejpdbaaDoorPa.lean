/- What holds of all turns that may come. -/
import Derived.Test.YtcfahggmejpdbaaDoorLa
import Derived.KernelRfl
namespace Go.Proofs.YtcfahggmejpdbaaDoor
open Go Go.AS
set_option maxRecDepth 100000
set_option linter.unusedSimpArgs false
set_option linter.unusedVariables false
attribute [local irreducible] Trie.set Trie.get Env.rd
attribute [local simp] Nat.add_assoc wD_cons'' wD_nil' wC_seq wC_ops wC_opsD_nil wC_cond wC_skip wC_ret wC_exit wC_block wO_cons' wO_nil wantedA wV_eq lop qop ev wL_some wL_none wPut envOf rd_set rd_leaf eqA thenC blockC wB_true wB_false endF unwindA resultsA resA tupleA rdCell rdCells wrCells cl fillP lay rep binA unA get_set' AHeap.get_alloc oneCell beqd bned idxA

/-! ## One turn -/
theorem at4_in {p : Int} (h0 : 0 ≤ p) (h4 : p < 4) (s : MS) (q : Int) (b : Bool) (k0 : 0 ≤ q) (k4 : q < 4) : (s.setPre p b).pre q = (if q = p then b else s.pre q) ∧ (s.setUp p b).up q = (if q = p then b else s.up q) ∧ (s.setGone p b).gone q = (if q = p then b else s.gone q) ∧
    (s.setPre p b).up q = s.up q ∧ (s.setPre p b).gone q = s.gone q ∧ (s.setUp p b).pre q = s.pre q ∧ (s.setUp p b).gone q = s.gone q ∧ (s.setGone p b).pre q = s.pre q ∧ (s.setGone p b).up q = s.up q := by
  rcases path4 h0 h4 with rfl | rfl | rfl | rfl <;> rcases path4 k0 k4 with rfl | rfl | rfl | rfl <;> refine ⟨?_, ?_, ?_, ?_, ?_, ?_, ?_, ?_, ?_⟩ <;> rfl
theorem set_flat (s : MS) (p : Int) (b : Bool) : ((s.setPre p b).en = s.en ∧ (s.setPre p b).md = s.md ∧ (s.setPre p b).so = s.so) ∧ ((s.setUp p b).en = s.en ∧ (s.setUp p b).md = s.md ∧ (s.setUp p b).so = s.so) ∧ ((s.setGone p b).en = s.en ∧ (s.setGone p b).md = s.md ∧ (s.setGone p b).so = s.so) := by
  unfold MS.setPre MS.setUp MS.setGone
  refine ⟨?_, ?_, ?_⟩ <;> (split <;> try split) <;> (try split) <;> exact ⟨rfl, rfl, rfl⟩
theorem md_at (s : MS) (m : Int) (q : Int) : ({ s with md := m } : MS).pre q = s.pre q ∧ ({ s with md := m } : MS).up q = s.up q ∧ ({ s with md := m } : MS).gone q = s.gone q := ⟨rfl, rfl, rfl⟩
theorem so_at (s : MS) (m : Bool) (q : Int) : ({ s with so := m } : MS).pre q = s.pre q ∧ ({ s with so := m } : MS).up q = s.up q ∧ ({ s with so := m } : MS).gone q = s.gone q := ⟨rfl, rfl, rfl⟩

/-- A turn of another cause changes the mode alone. -/
theorem nx_other {s : MS} {t : Tn} (h : okT s t = true) (h5 : t.c ≠ 5) (h7 : t.c ≠ 7) (h8 : t.c ≠ 8) (h9 : t.c ≠ 9) : nx s t = { s with md := thenM t.c } := by
  unfold nx effM
  rw [if_pos h, if_neg h5, if_neg h7, if_neg h8, if_neg h9]
theorem nx_5 {s : MS} {t : Tn} (h : okT s t = true) (h5 : t.c = 5) : nx s t = ({ s with md := 3 } : MS).setUp t.p true := by
  unfold nx effM
  rw [if_pos h, if_pos h5, h5]; rfl
theorem nx_7 {s : MS} {t : Tn} (h : okT s t = true) (h5 : t.c = 7) : nx s t = { (({ s with md := 3 } : MS).setPre t.p true) with so := false } := by
  unfold nx effM
  rw [if_pos h, if_neg (by omega), if_pos h5, h5]; rfl
theorem nx_8 {s : MS} {t : Tn} (h : okT s t = true) (h5 : t.c = 8) : nx s t = { (({ s with md := 3 } : MS).setUp t.p true) with so := false } := by
  unfold nx effM
  rw [if_pos h, if_neg (by omega), if_neg (by omega), if_pos h5, h5]; rfl
theorem nx_9 {s : MS} {t : Tn} (h : okT s t = true) (h5 : t.c = 9) : nx s t = (({ s with md := 3 } : MS).setUp t.p false).setGone t.p true := by
  unfold nx effM
  rw [if_pos h, if_neg (by omega), if_neg (by omega), if_neg (by omega), if_pos h5, h5]; rfl
/-- What a turn that may come tells. -/
theorem may_5 {s : MS} {t : Tn} (h : okT s t = true) (hc : t.c = 5) : s.md = 2 ∧ t.p = 0 := by
  have := ((okT_in s t).1 h).2.2
  rw [hc] at this
  simpa [mayM] using this
theorem may_7 {s : MS} {t : Tn} (h : okT s t = true) (hc : t.c = 7) : s.md = 3 ∧ s.en = 0 ∧ 0 < t.p ∧ s.pre t.p = false ∧ s.up t.p = false ∧ s.gone t.p = false := by
  have := ((okT_in s t).1 h).2.2
  rw [hc] at this
  simp [mayM, fresh] at this
  exact ⟨this.1.2.1.1.1, this.1.1, this.1.2.1.1.2, this.2, this.1.2.1.2, this.1.2.2⟩
theorem may_8 {s : MS} {t : Tn} (h : okT s t = true) (hc : t.c = 8) : s.md = 3 ∧ 0 < t.p ∧ s.up t.p = false ∧ s.gone t.p = false ∧ (s.pre t.p = true ∨ s.en ≠ 0) := by
  have := ((okT_in s t).1 h).2.2
  rw [hc] at this
  simp [mayM, fresh] at this
  exact ⟨this.1.1.1.1, this.1.1.1.2, this.1.1.2, this.1.2, this.2⟩
theorem may_9 {s : MS} {t : Tn} (h : okT s t = true) (hc : t.c = 9) : s.md = 3 ∧ s.up t.p = true := by
  have := ((okT_in s t).1 h).2.2
  rw [hc] at this
  simpa [mayM] using this
/-- The modes go forth. -/
theorem md_forth {s : MS} {t : Tn} (h : okT s t = true) (h5 : t.c ≠ 5) (h7 : t.c ≠ 7) (h8 : t.c ≠ 8) (h9 : t.c ≠ 9) : (s.md = 0 ∨ s.md = 1 ∨ s.md = 2) ∨ 3 ≤ thenM t.c := by
  obtain ⟨⟨⟨c0, c1⟩, _⟩, _, hm⟩ := (okT_in s t).1 h
  have hc : t.c = 0 ∨ t.c = 1 ∨ t.c = 2 ∨ t.c = 3 ∨ t.c = 4 ∨ t.c = 6 ∨ t.c = 10 ∨ t.c = 11 ∨ t.c = 12 ∨ t.c = 13 ∨ t.c = 14 ∨ t.c = 15 ∨ t.c = 16 ∨ t.c = 17 := by omega
  rcases hc with hc | hc | hc | hc | hc | hc | hc | hc | hc | hc | hc | hc | hc | hc <;> rw [hc] at hm ⊢ <;> simp [mayM, thenM] at hm ⊢
  · exact .inl hm.2.1
  · exact .inl hm.2.1
  · exact .inr (.inl hm.1)

/-! ## How often a path is begun, up, down -/
def upd (f : Int → Int) (p x : Int) : Int → Int := fun q => if q = p then x else f q
structure PInv (e : Int) (s : MS) (n7 n8 n9 : Int → Int) : Prop where
  en : s.en = e
  early : s.md = 0 ∨ s.md = 1 ∨ s.md = 2 → ∀ q, 0 ≤ q → q < 4 → s.pre q = false ∧ s.up q = false ∧ s.gone q = false
  cnt : ∀ q, 0 ≤ q → q < 4 → (0 ≤ n7 q ∧ n7 q ≤ 1) ∧ (0 ≤ n8 q ∧ n8 q ≤ 1) ∧ (0 ≤ n9 q ∧ n9 q ≤ 1)
  pre : ∀ q, 0 ≤ q → q < 4 → (s.pre q = true ↔ n7 q = 1)
  gone : ∀ q, 0 ≤ q → q < 4 → (s.gone q = true ↔ n9 q = 1)
  up : ∀ q, 0 < q → q < 4 → (s.up q = true ↔ n8 q = 1 ∧ n9 q = 0) ∧ (n9 q = 1 → n8 q = 1)
  zero : n7 0 = 0 ∧ n8 0 = 0 ∧ (s.up 0 = true → n9 0 = 0)
theorem PInv.begin (e : Int) : PInv e (ms0 e) (fun _ => 0) (fun _ => 0) (fun _ => 0) := by
  have h : ∀ q : Int, (ms0 e).pre q = false ∧ (ms0 e).up q = false ∧ (ms0 e).gone q = false := fun q => by
    unfold MS.pre MS.up MS.gone at4 ms0
    refine ⟨?_, ?_, ?_⟩ <;> (split <;> try split) <;> (try split) <;> rfl
  exact ⟨rfl, fun _ q _ _ => h q, fun q _ _ => by simp, fun q _ _ => by simp [(h q).1], fun q _ _ => by simp [(h q).2.2], fun q _ _ => by simp [(h q).2.1], by simp⟩
theorem PInv.other {e : Int} {s : MS} {n7 n8 n9 : Int → Int} {t : Tn} (I : PInv e s n7 n8 n9) (h : okT s t = true) (h5 : t.c ≠ 5) (h7 : t.c ≠ 7) (h8 : t.c ≠ 8) (h9 : t.c ≠ 9) : PInv e (nx s t) n7 n8 n9 := by
  rw [nx_other h h5 h7 h8 h9]
  refine ⟨I.en, fun hm q k0 k4 => ?_, I.cnt, I.pre, I.gone, I.up, I.zero⟩
  have := md_forth h h5 h7 h8 h9
  simp only at hm
  rcases this with q1 | q1
  · exact I.early q1 q k0 k4
  · omega
theorem PInv.sure {e : Int} {s : MS} {n7 n8 n9 : Int → Int} {t : Tn} (I : PInv e s n7 n8 n9) (h : okT s t = true) (hc : t.c = 5) : PInv e (nx s t) n7 n8 n9 := by
  obtain ⟨m2, p0⟩ := may_5 h hc
  have he := I.early (.inr (.inr m2))
  rw [nx_5 h hc, p0]
  have hset := fun q k0 k4 => at4_in (p := 0) (by decide) (by decide) ({ s with md := 3 } : MS) q true k0 k4
  have hf := (set_flat ({ s with md := 3 } : MS) 0 true).2.1
  refine ⟨by rw [hf.1]; exact I.en, fun hm => by rw [hf.2.1] at hm; simp at hm, I.cnt, fun q k0 k4 => ?_, fun q k0 k4 => ?_, fun q k0 k4 => ?_, I.zero.1, I.zero.2.1, fun _ => ?_⟩
  · rw [(hset q k0 k4).2.2.2.2.2.1]; exact I.pre q k0 k4
  · rw [(hset q k0 k4).2.2.2.2.2.2.1]; exact I.gone q k0 k4
  · rw [(hset q (by omega) k4).2.1, if_neg (by omega)]; exact I.up q k0 k4
  · have := (he 0 (by decide) (by decide)).2.2
    have g := I.gone 0 (by decide) (by decide)
    have c := (I.cnt 0 (by decide) (by decide)).2.2
    have : ¬ n9 0 = 1 := fun q => by rw [g.2 q] at this; cases this
    omega
theorem PInv.begun {e : Int} {s : MS} {n7 n8 n9 : Int → Int} {t : Tn} (I : PInv e s n7 n8 n9) (h : okT s t = true) (hc : t.c = 7) :
    PInv e (nx s t) (upd n7 t.p (n7 t.p + 1)) n8 n9 ∧ n7 t.p = 0 ∧ n8 t.p = 0 ∧ n9 t.p = 0 ∧ e = 0 ∧ 0 < t.p := by
  obtain ⟨m3, e0, p0, hp, hu, hg⟩ := may_7 h hc
  have p4 := ((okT_in s t).1 h).1.2.2
  have c := I.cnt t.p (by omega) p4
  have z9 : n9 t.p = 0 := by
    have : ¬ n9 t.p = 1 := fun q => by rw [(I.gone t.p (by omega) p4).2 q] at hg; cases hg
    omega
  have z7 : n7 t.p = 0 := by
    have : ¬ n7 t.p = 1 := fun q => by rw [(I.pre t.p (by omega) p4).2 q] at hp; cases hp
    omega
  have z8 : n8 t.p = 0 := by
    have : ¬ n8 t.p = 1 := fun q => by rw [(I.up t.p p0 p4).1.2 ⟨q, z9⟩] at hu; cases hu
    omega
  refine ⟨?_, z7, z8, z9, by rw [← I.en]; exact e0, p0⟩
  rw [nx_7 h hc, z7]
  have hset := fun q k0 k4 => at4_in (p := t.p) (by omega) p4 ({ s with md := 3 } : MS) q true k0 k4
  have hf := (set_flat ({ s with md := 3 } : MS) t.p true).1
  refine ⟨by show (MS.setPre _ _ _).en = e; rw [hf.1]; exact I.en, fun hm => ?_, fun q k0 k4 => ?_, fun q k0 k4 => ?_, fun q k0 k4 => ?_, fun q k0 k4 => ?_, ?_, I.zero.2.1, fun hu0 => ?_⟩
  · have hm' : (MS.setPre ({ s with md := 3 } : MS) t.p true).md = 0 ∨ (MS.setPre ({ s with md := 3 } : MS) t.p true).md = 1 ∨ (MS.setPre ({ s with md := 3 } : MS) t.p true).md = 2 := hm
    rw [hf.2.1] at hm'; simp at hm'
  · have := I.cnt q k0 k4
    unfold upd
    split <;> omega
  · show (MS.setPre _ _ _).pre q = true ↔ _
    rw [(hset q k0 k4).1]
    unfold upd
    split
    · simp
    · exact I.pre q k0 k4
  · show (MS.setPre _ _ _).gone q = true ↔ _
    rw [(hset q k0 k4).2.2.2.2.1]; exact I.gone q k0 k4
  · show ((MS.setPre _ _ _).up q = true ↔ _) ∧ _
    rw [(hset q (by omega) k4).2.2.2.1]; exact I.up q k0 k4
  · unfold upd
    rw [if_neg (by omega)]; exact I.zero.1
  · have hu' : (MS.setPre ({ s with md := 3 } : MS) t.p true).up 0 = true := hu0
    rw [(hset 0 (by decide) (by decide)).2.2.2.1] at hu'
    exact I.zero.2.2 hu'
theorem PInv.ups {e : Int} {s : MS} {n7 n8 n9 : Int → Int} {t : Tn} (I : PInv e s n7 n8 n9) (h : okT s t = true) (hc : t.c = 8) :
    PInv e (nx s t) n7 (upd n8 t.p (n8 t.p + 1)) n9 ∧ n8 t.p = 0 ∧ n9 t.p = 0 ∧ 0 < t.p ∧ (e = 0 → n7 t.p = 1) := by
  obtain ⟨m3, p0, hu, hg, hpe⟩ := may_8 h hc
  have p4 := ((okT_in s t).1 h).1.2.2
  have c := I.cnt t.p (by omega) p4
  have z9 : n9 t.p = 0 := by
    have : ¬ n9 t.p = 1 := fun q => by rw [(I.gone t.p (by omega) p4).2 q] at hg; cases hg
    omega
  have z8 : n8 t.p = 0 := by
    have : ¬ n8 t.p = 1 := fun q => by rw [(I.up t.p p0 p4).1.2 ⟨q, z9⟩] at hu; cases hu
    omega
  refine ⟨?_, z8, z9, p0, fun he => ?_⟩
  · rw [nx_8 h hc, z8]
    have hset := fun q k0 k4 => at4_in (p := t.p) (by omega) p4 ({ s with md := 3 } : MS) q true k0 k4
    have hf := (set_flat ({ s with md := 3 } : MS) t.p true).2.1
    refine ⟨by show (MS.setUp _ _ _).en = e; rw [hf.1]; exact I.en, fun hm => ?_, fun q k0 k4 => ?_, fun q k0 k4 => ?_, fun q k0 k4 => ?_, fun q k0 k4 => ?_, I.zero.1, ?_, fun hu0 => ?_⟩
    · have hm' : (MS.setUp ({ s with md := 3 } : MS) t.p true).md = 0 ∨ (MS.setUp ({ s with md := 3 } : MS) t.p true).md = 1 ∨ (MS.setUp ({ s with md := 3 } : MS) t.p true).md = 2 := hm
      rw [hf.2.1] at hm'; simp at hm'
    · have := I.cnt q k0 k4
      unfold upd
      split <;> omega
    · show (MS.setUp _ _ _).pre q = true ↔ _
      rw [(hset q k0 k4).2.2.2.2.2.1]; exact I.pre q k0 k4
    · show (MS.setUp _ _ _).gone q = true ↔ _
      rw [(hset q k0 k4).2.2.2.2.2.2.1]; exact I.gone q k0 k4
    · show ((MS.setUp _ _ _).up q = true ↔ _) ∧ _
      rw [(hset q (by omega) k4).2.1]
      unfold upd
      split
      · rename_i hq; subst hq; simp [z9]
      · exact I.up q k0 k4
    · unfold upd
      rw [if_neg (by omega)]; exact I.zero.2.1
    · have hu' : (MS.setUp ({ s with md := 3 } : MS) t.p true).up 0 = true := hu0
      rw [(hset 0 (by decide) (by decide)).2.1, if_neg (by omega)] at hu'
      exact I.zero.2.2 hu'
  · rcases hpe with q | q
    · exact (I.pre t.p (by omega) p4).1 q
    · rw [I.en] at q; exact absurd he q
theorem PInv.downs {e : Int} {s : MS} {n7 n8 n9 : Int → Int} {t : Tn} (I : PInv e s n7 n8 n9) (h : okT s t = true) (hc : t.c = 9) :
    PInv e (nx s t) n7 n8 (upd n9 t.p (n9 t.p + 1)) ∧ n9 t.p = 0 ∧ (0 < t.p → n8 t.p = 1) := by
  obtain ⟨m3, hu⟩ := may_9 h hc
  have p4 := ((okT_in s t).1 h).1.2.2
  have p0 := ((okT_in s t).1 h).1.2.1
  have z9 : n9 t.p = 0 := by
    by_cases hp : 0 < t.p
    · exact ((I.up t.p hp p4).1.1 hu).2
    · have : t.p = 0 := by omega
      rw [this] at hu ⊢
      exact I.zero.2.2 hu
  have z8 : 0 < t.p → n8 t.p = 1 := fun hp => ((I.up t.p hp p4).1.1 hu).1
  refine ⟨?_, z9, z8⟩
  rw [nx_9 h hc, z9]
  have hs1 := fun q k0 k4 => at4_in (p := t.p) p0 p4 ({ s with md := 3 } : MS) q false k0 k4
  have hset := fun q k0 k4 => at4_in (p := t.p) p0 p4 (({ s with md := 3 } : MS).setUp t.p false) q true k0 k4
  have hf1 := (set_flat ({ s with md := 3 } : MS) t.p false).2.1
  have hf := (set_flat (({ s with md := 3 } : MS).setUp t.p false) t.p true).2.2
  refine ⟨by rw [hf.1, hf1.1]; exact I.en, fun hm => ?_, fun q k0 k4 => ?_, fun q k0 k4 => ?_, fun q k0 k4 => ?_, fun q k0 k4 => ?_, I.zero.1, I.zero.2.1, fun hu0 => ?_⟩
  · rw [hf.2.1, hf1.2.1] at hm; simp at hm
  · have := I.cnt q k0 k4
    unfold upd
    split <;> omega
  · rw [(hset q k0 k4).2.2.2.2.2.2.2.1, (hs1 q k0 k4).2.2.2.2.2.1]; exact I.pre q k0 k4
  · rw [(hset q k0 k4).2.2.1, (hs1 q k0 k4).2.2.2.2.2.2.1]
    unfold upd
    split
    · simp
    · exact I.gone q k0 k4
  · rw [(hset q (by omega) k4).2.2.2.2.2.2.2.2, (hs1 q (by omega) k4).2.1]
    unfold upd
    split
    · rename_i hq; subst hq; simp [z8 k0]
    · exact I.up q k0 k4
  · rw [(hset 0 (by decide) (by decide)).2.2.2.2.2.2.2.2, (hs1 0 (by decide) (by decide)).2.1] at hu0
    unfold upd
    split at hu0
    · cases hu0
    · rename_i hq
      rw [if_neg hq]; exact I.zero.2.2 hu0
end Go.Proofs.YtcfahggmejpdbaaDoor
