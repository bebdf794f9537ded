import Derived.Test.YtidgbapgedegbaaAsD
namespace Go.AS
open Go
set_option linter.unusedSimpArgs false
set_option linter.unusedVariables false

section
variable {C : Comp} {ρ : Ren} {A : AHeap} {w : World} {P : Program}

/-- A block's word in another memory that has the same block there, under more entries. -/
theorem BRel.keep {ρ ρ' : Ren} {e : REnt} {h h' : Array Obj} {x : ABlk} (hle : Ren.le ρ ρ') (hh : x = .dead ∨ h'[e.cb]? = h[e.cb]?) (hx : BRel C ρ e h x) : BRel C ρ' e h' x := by
  cases x with
  | cells cs ro opn =>
    have hh : h'[e.cb]? = h[e.cb]? := by rcases hh with h | h; cases h; exact h
    obtain ⟨cc, el, lo, hi, h1, h2, h3, h4, h5⟩ := hx
    exact ⟨cc, el, lo, hi, hh.trans h1, h2, fun i v hv => let ⟨v', a, b⟩ := h3 i v hv; ⟨v', a, b.mono hle⟩, h4, h5⟩
  | loop st pend fn n env params assign body dfs =>
    have hh : h'[e.cb]? = h[e.cb]? := by rcases hh with h | h; cases h; exact h
    obtain ⟨l, h1, h2, h3, h4, h5, h6, h7, h8, h9, ed, h10, h11⟩ := hx
    exact ⟨l, hh.trans h1, h2, h3, h4, h5, h6, h7, h8, fun t => (h9 t).mono hle, ed, hle _ _ h10, h11⟩
  | map kk es clock =>
    have hh : h'[e.cb]? = h[e.cb]? := by rcases hh with h | h; cases h; exact h
    obtain ⟨es', h1, h2⟩ := hx
    exact ⟨es', hh.trans h1, h2.mono hle⟩
  | dfr taken =>
    have hh : h'[e.cb]? = h[e.cb]? := by rcases hh with h | h; cases h; exact h
    exact hh.trans hx
  | dead => trivial

/-- Memory of the same blocks. -/
theorem Tr.same {w' : World} (h : HRel C ρ A w.heap) (hh : w'.heap = w.heap) (ho : w'.os = w.os) (ht : w'.tape = w.tape) (hp : w'.output = w.output) : Tr C ρ A w ρ A w' where
  rel := by rw [hh]; exact h
  mono := Ren.le_refl _
  free := fun b h0 h1 => by omega
  fresh := fun b h0 h1 => absurd h0 h1
  size := Nat.le_refl _
  absent := fun _ _ _ => rfl
  still := fun _ _ _ => rfl
  newcb := fun b e h0 h1 => by rw [h0] at h1; cases h1
  frame := fun _ _ _ => by rw [hh]
  hsize := by rw [hh]; exact Nat.le_refl _
  os := ho
  tape := ht
  output := hp

/-- One block written. -/
theorem Tr.upd {w' : World} {b : Nat} {e : REnt} {x x' : ABlk} (h : HRel C ρ A w.heap) (he : ρ b = some e) (hb : A.get b = some x) (hnp : ¬ passive (some x)) (hnp' : x' = .dead ∨ ¬ passive (some x'))
    (hsz : w'.heap.size = w.heap.size) (hoth : ∀ cb, cb ≠ e.cb → w'.heap[cb]? = w.heap[cb]?) (hx : BRel C ρ e w'.heap x')
    (ho : w'.os = w.os) (ht : w'.tape = w.tape) (hp : w'.output = w.output) : Tr C ρ A w ρ (A.set b x') w' where
  rel := {
    blk := fun b' e' x2 he' hg => by
      rw [AHeap.get_set _ _ _ _ (AHeap.get_lt hb)] at hg
      split at hg
      · next hbb => subst hbb; rw [he] at he'; cases he'; cases hg; exact hx
      · next hbb =>
        refine BRel.keep (Ren.le_refl _) ?_ (h.blk b' e' x2 he' hg)
        by_cases hd : x2 = .dead
        · exact .inl hd
        · exact .inr (hoth _ (fun hc => h.inj b b' e e' x x2 (fun q => hbb q.symm) he he' hb hg hnp hd hc.symm))
    inj := fun b1 b2 e1 e2 x1 x2 hne h1 h2 hg1 hg2 hp1 hd2 => by
      rw [AHeap.get_set _ _ _ _ (AHeap.get_lt hb)] at hg1 hg2
      split at hg1
      · next q1 =>
        subst q1
        split at hg2
        · next q2 => exact absurd q2.symm hne
        · rw [he] at h1; cases h1
          exact h.inj b1 b2 e e2 x x2 hne he h2 hb hg2 hnp hd2
      · split at hg2
        · next q2 =>
          subst q2
          rw [he] at h2; cases h2
          exact h.inj b1 b2 e1 e x1 x hne h1 he hg1 hb hp1 (fun hd => by subst hd; exact hnp trivial)
        · exact h.inj b1 b2 e1 e2 x1 x2 hne h1 h2 hg1 hg2 hp1 hd2 }
  mono := Ren.le_refl _
  free := fun b h0 h1 => by simp at h1; omega
  fresh := fun b h0 h1 => absurd h0 h1
  size := Nat.le_refl _
  absent := fun b' _ h0 => by
    rw [AHeap.get_set _ _ _ _ (AHeap.get_lt hb), if_neg]
    intro hbb; subst hbb; rw [he] at h0; cases h0
  still := fun b' _ hpas => by
    rw [AHeap.get_set _ _ _ _ (AHeap.get_lt hb), if_neg]
    intro hbb; subst hbb; rw [hb] at hpas; exact hnp hpas
  newcb := fun b e h0 h1 => by rw [h0] at h1; cases h1
  frame := fun cb _ hpas => hoth cb (fun hc => hnp (hb ▸ hpas b e (AHeap.get_lt hb) he hc.symm))
  hsize := by rw [hsz]; exact Nat.le_refl _
  os := ho
  tape := ht
  output := hp

def Ren.upd (ρ : Ren) (b : Nat) (e : REnt) : Ren := fun j => if j = b then some e else ρ j

theorem Ren.le_upd {b : Nat} {e : REnt} (h : ρ b = none) : Ren.le ρ (Ren.upd ρ b e) := fun j f hj => by
  unfold Ren.upd; split
  · next q => subst q; rw [h] at hj; cases hj
  · exact hj

theorem Ren.upd_same {b : Nat} {e : REnt} : Ren.upd ρ b e b = some e := by simp [Ren.upd]

theorem heap_push_old {w : World} {o : Obj} {k : Nat} (h : k < w.heap.size) : (w.heap.push o)[k]? = w.heap[k]? := by
  rw [Array.getElem?_push, if_neg (by omega)]

theorem brel_lt {e : REnt} {h : Array Obj} {x : ABlk} (hx : BRel C ρ e h x) (hd : x ≠ .dead) : e.cb < h.size := by
  have key : ∀ o, h[e.cb]? = some o → e.cb < h.size := fun o ho => by
    rcases Nat.lt_or_ge e.cb h.size with q | q
    · exact q
    · rw [Array.getElem?_eq_none q] at ho; cases ho
  cases x with
  | cells cs ro opn => obtain ⟨cc, el, lo, hi, h1, _⟩ := hx; exact key _ h1
  | loop st pend fn n env params assign body dfs => obtain ⟨l, h1, _⟩ := hx; exact key _ h1
  | dfr taken => exact key _ hx
  | map kk es clock => obtain ⟨es', h1, _⟩ := hx; exact key _ h1
  | dead => exact absurd rfl hd

/-- A new block. -/
theorem Tr.alloc {w' : World} {o : Obj} {e : REnt} {x : ABlk} (h : HRel C ρ A w.heap) (hfree : ρ A.size = none) (hcb : e.cb = w.heap.size) (hh : w'.heap = w.heap.push o)
    (hx : BRel C (Ren.upd ρ A.size e) e w'.heap x)
    (ho : w'.os = w.os) (ht : w'.tape = w.tape) (hp : w'.output = w.output) : Tr C ρ A w (Ren.upd ρ A.size e) (A.alloc x) w' where
  rel := {
    blk := fun b' e' x2 he' hg => by
      rw [AHeap.get_alloc] at hg
      split at hg
      · next q => subst q; rw [Ren.upd_same] at he'; cases he'; cases hg; exact hx
      · next q =>
        have he2 : ρ b' = some e' := by unfold Ren.upd at he'; rw [if_neg q] at he'; exact he'
        refine BRel.keep (Ren.le_upd hfree) ?_ (h.blk b' e' x2 he2 hg)
        by_cases hd : x2 = .dead
        · exact .inl hd
        · exact .inr (by rw [hh]; exact heap_push_old (brel_lt (h.blk b' e' x2 he2 hg) hd))
    inj := fun b1 b2 e1 e2 x1 x2 hne h1 h2 hg1 hg2 hp1 hd2 => by
      rw [AHeap.get_alloc] at hg1 hg2
      split at hg1
      · next q1 =>
        subst q1
        split at hg2
        · next q2 => exact absurd q2.symm hne
        · next q2 =>
          rw [Ren.upd_same] at h1; cases h1
          have h2' : ρ b2 = some e2 := by unfold Ren.upd at h2; rw [if_neg q2] at h2; exact h2
          have := brel_lt (h.blk b2 e2 x2 h2' hg2) hd2
          omega
      · next q1 =>
        have h1' : ρ b1 = some e1 := by unfold Ren.upd at h1; rw [if_neg q1] at h1; exact h1
        split at hg2
        · next q2 =>
          subst q2
          rw [Ren.upd_same] at h2; cases h2
          have := brel_lt (h.blk b1 e1 x1 h1' hg1) (fun hd => by subst hd; exact hp1 trivial)
          omega
        · next q2 =>
          have h2' : ρ b2 = some e2 := by unfold Ren.upd at h2; rw [if_neg q2] at h2; exact h2
          exact h.inj b1 b2 e1 e2 x1 x2 hne h1' h2' hg1 hg2 hp1 hd2 }
  mono := Ren.le_upd hfree
  free := fun b h0 h1 => by simp at h1; have : b = A.size := by omega
                            subst this; exact hfree
  fresh := fun b h0 h1 => by
    unfold Ren.upd at h1
    split at h1
    · next q => subst q; simp
    · exact absurd h0 h1
  size := by simp
  absent := fun b' hb _ => by rw [AHeap.get_alloc, if_neg (by omega)]
  still := fun b' hb _ => by rw [AHeap.get_alloc, if_neg (by omega)]
  newcb := fun b e' h0 h1 => by
    unfold Ren.upd at h1
    split at h1
    · cases h1; exact .inl (by omega)
    · rw [h0] at h1; cases h1
  frame := fun cb hcb _ => by rw [hh]; exact heap_push_old hcb
  hsize := by rw [hh]; simp
  os := ho
  tape := ht
  output := hp

/-- A block taken over under a new name (an append that found room): the old name is dead. -/
theorem Tr.move {w' : World} {b : Nat} {e e' : REnt} {x x' : ABlk} (h : HRel C ρ A w.heap) (hfree : ρ A.size = none) (he : ρ b = some e) (hb : A.get b = some x) (hnp : ¬ passive (some x)) (hcb : e'.cb = e.cb)
    (hsz : w'.heap.size = w.heap.size) (hoth : ∀ cb, cb ≠ e.cb → w'.heap[cb]? = w.heap[cb]?) (hx : BRel C (Ren.upd ρ A.size e') e' w'.heap x')
    (ho : w'.os = w.os) (ht : w'.tape = w.tape) (hp : w'.output = w.output) : Tr C ρ A w (Ren.upd ρ A.size e') ((A.set b .dead).alloc x') w' := by
  have hblt := AHeap.get_lt hb
  exact {
  rel := {
    blk := fun b' e2 x2 he' hg => by
      rw [AHeap.get_move _ _ _ _ _ hblt] at hg
      split at hg
      · next q => subst q; rw [Ren.upd_same] at he'; cases he'; cases hg; exact hx
      · next q =>
        have he2 : ρ b' = some e2 := by unfold Ren.upd at he'; rw [if_neg q] at he'; exact he'
        split at hg
        · cases hg; trivial
        · next hbb =>
          refine BRel.keep (Ren.le_upd hfree) ?_ (h.blk b' e2 x2 he2 hg)
          by_cases hd : x2 = .dead
          · exact .inl hd
          · exact .inr (hoth _ (fun hc => h.inj b b' e e2 x x2 (fun q => hbb q.symm) he he2 hb hg hnp hd hc.symm))
    inj := fun b1 b2 e1 e2 x1 x2 hne h1 h2 hg1 hg2 hp1 hd2 => by
      rw [AHeap.get_move _ _ _ _ _ hblt] at hg1 hg2
      by_cases q1 : b1 = A.size
      · rw [if_pos q1] at hg1
        subst q1
        rw [if_neg (fun q => hne q.symm)] at hg2
        rw [Ren.upd_same] at h1; cases h1
        have h2' : ρ b2 = some e2 := by unfold Ren.upd at h2; rw [if_neg (fun q => hne q.symm)] at h2; exact h2
        by_cases q2 : b2 = b
        · rw [if_pos q2] at hg2; cases hg2; exact absurd rfl hd2
        · rw [if_neg q2] at hg2; rw [hcb]; exact h.inj b b2 e e2 x x2 (fun q => q2 q.symm) he h2' hb hg2 hnp hd2
      · rw [if_neg q1] at hg1
        have h1' : ρ b1 = some e1 := by unfold Ren.upd at h1; rw [if_neg q1] at h1; exact h1
        by_cases q1b : b1 = b
        · rw [if_pos q1b] at hg1; cases hg1; exact absurd trivial hp1
        · rw [if_neg q1b] at hg1
          by_cases q2 : b2 = A.size
          · rw [if_pos q2] at hg2
            subst q2
            rw [Ren.upd_same] at h2; cases h2
            rw [hcb]
            exact h.inj b1 b e1 e x1 x q1b h1' he hg1 hb hp1 (fun hd => by subst hd; exact hnp trivial)
          · rw [if_neg q2] at hg2
            have h2' : ρ b2 = some e2 := by unfold Ren.upd at h2; rw [if_neg q2] at h2; exact h2
            by_cases q2b : b2 = b
            · rw [if_pos q2b] at hg2; cases hg2; exact absurd rfl hd2
            · rw [if_neg q2b] at hg2; exact h.inj b1 b2 e1 e2 x1 x2 hne h1' h2' hg1 hg2 hp1 hd2 }
  mono := Ren.le_upd hfree
  free := fun b h0 h1 => by
    simp at h1
    have : b = A.size := by omega
    subst this; exact hfree
  fresh := fun b h0 h1 => by
    unfold Ren.upd at h1
    split at h1
    · next q => subst q; simp
    · exact absurd h0 h1
  size := by simp
  absent := fun b' hb' h0 => by
    rw [AHeap.get_move _ _ _ _ _ hblt, if_neg (by omega), if_neg]
    intro hbb; subst hbb; rw [he] at h0; cases h0
  still := fun b' hb' hpas => by
    rw [AHeap.get_move _ _ _ _ _ hblt, if_neg (by omega), if_neg]
    intro hbb; subst hbb; rw [hb] at hpas; exact hnp hpas
  newcb := fun b2 e2 h0 h1 => by
    unfold Ren.upd at h1
    split at h1
    · cases h1; exact .inr ⟨b, e, hblt, he, hcb.symm, hb ▸ hnp⟩
    · rw [h0] at h1; cases h1
  frame := fun cb _ hpas => hoth cb (fun hc => hnp (hb ▸ hpas b e hblt he hc.symm))
  hsize := by rw [hsz]; exact Nat.le_refl _
  os := ho
  tape := ht
  output := hp }

end
end Go.AS
