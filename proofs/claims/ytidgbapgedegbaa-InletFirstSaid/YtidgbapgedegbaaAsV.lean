import Derived.Test.YtidgbapgedegbaaAsT
import Derived.Orders
namespace Go.AS
open Go
set_option linter.unusedSimpArgs false
set_option linter.unusedVariables false

/-! ## Regions that draw their order: the memory -/

/-- What has come to pass since a first state, the memory said by a function. -/
structure Cum (C : Comp) (N0 N : Nat) (g0 : Nat → Option ABlk) (ρ0 : Ren) (w0 : World) (ρ : Ren) (g : Nat → Option ABlk) (w : World) : Prop where
  blk : ∀ b e x, ρ b = some e → g b = some x → BRel C ρ e w.heap x
  inj : ∀ b b' e e' x x', b ≠ b' → ρ b = some e → ρ b' = some e' → g b = some x → g b' = some x' → ¬ passive (some x) → x' ≠ .dead → e.cb ≠ e'.cb
  mono : Ren.le ρ0 ρ
  fresh : ∀ b, ρ0 b = none → ρ b ≠ none → N0 ≤ b ∧ b < N
  still : ∀ b, b < N0 → passive (g0 b) → g b = g0 b
  absent : ∀ b, b < N0 → ρ0 b = none → g b = g0 b
  newcb : ∀ b e, ρ0 b = none → ρ b = some e → w0.heap.size ≤ e.cb ∨ ∃ b0 e0, b0 < N0 ∧ ρ0 b0 = some e0 ∧ e0.cb = e.cb ∧ ¬ passive (g0 b0)
  frame : ∀ cb, cb < w0.heap.size → (∀ b e, b < N0 → ρ0 b = some e → e.cb = cb → passive (g0 b)) → w.heap[cb]? = w0.heap[cb]?
  hsize : w0.heap.size ≤ w.heap.size
  os : w.os = w0.os
  tape : w.tape = w0.tape
  output : w.output = w0.output

theorem not_passive_some {o : Option ABlk} (h : ¬ passive o) : ∃ x, o = some x ∧ x ≠ .dead := by
  cases o with
  | none => exact absurd trivial h
  | some x => exact ⟨x, rfl, fun hx => by subst hx; exact h trivial⟩

theorem Cum.step {C : Comp} {N0 N : Nat} {g0 g g' : Nat → Option ABlk} {ρ0 ρ ρ' : Ren} {w0 w w' : World} {A A' : AHeap} (H : Cum C N0 N g0 ρ0 w0 ρ g w) (hfree : ∀ b, N0 ≤ b → b < N → ρ0 b = none) (T : Tr C ρ A w ρ' A' w')
    (h0 : N0 ≤ A.size) (hN : A'.size ≤ N)
    (hk : ∀ b, (b < A.size ∧ g b = A.get b ∧ g' b = A'.get b) ∨ (A.size ≤ b ∧ b < A'.size ∧ ρ b = none ∧ g' b = A'.get b) ∨ ((b < A.size → A.get b = none) ∧ (b < A.size ∨ A'.size ≤ b) ∧ g' b = g b)) :
    Cum C N0 N g0 ρ0 w0 ρ' g' w' := by
  -- what is known of a block that A has and that is written through
  have act : ∀ b, b < A.size → ¬ passive (A.get b) → g b = A.get b := by
    intro b hb hp
    rcases hk b with h | h | h
    · exact h.2.1
    · omega
    · rw [h.1 hb] at hp; exact absurd trivial hp
  have hgetge : ∀ b, A.size ≤ b → A.get b = none := fun b hb => by
    cases hg : A.get b with
    | none => rfl
    | some x => have := AHeap.get_lt hg; omega
  -- an entry of the third kind is old
  have old : ∀ b e, ρ' b = some e → (b < A.size ∨ A'.size ≤ b) → ρ b = some e := by
    intro b e he hb
    cases h1 : ρ b with
    | none => have := T.fresh b h1 (by rw [he]; simp); omega
    | some e1 => have := T.mono _ _ h1; rw [he] at this; exact this.symm
  have cblt : ∀ b e x, ρ b = some e → g b = some x → x ≠ .dead → e.cb < w.heap.size := fun b e x h1 h2 h3 => brel_lt (H.blk b e x h1 h2) h3
  have injU : ∀ b e x b0 e0, (b < A.size → A.get b = none) → ρ b = some e → g b = some x → x ≠ .dead → b0 < A.size → ρ b0 = some e0 → ¬ passive (A.get b0) → e0.cb ≠ e.cb := by
    intro b e x b0 e0 hu he hx hd hb0 he0 hp
    have hg := act b0 hb0 hp
    obtain ⟨y, hy, _⟩ := not_passive_some hp
    refine H.inj b0 b e0 e y x (fun q => ?_) he0 he (by rw [hg, hy]) hx (by rw [← hy]; exact hp) hd
    subst q
    rw [hu hb0] at hp; exact hp trivial
  refine ⟨?_, ?_, Ren.le_trans H.mono T.mono, ?_, ?_, ?_, ?_, ?_, Nat.le_trans H.hsize T.hsize, T.os.trans H.os, T.tape.trans H.tape, T.output.trans H.output⟩
  · intro b e x he hx
    rcases hk b with h | h | h
    · exact T.rel.blk b e x he (by rw [← h.2.2]; exact hx)
    · exact T.rel.blk b e x he (by rw [← h.2.2.2]; exact hx)
    · have he1 := old b e he h.2.1
      rw [h.2.2] at hx
      refine BRel.keep T.mono ?_ (H.blk b e x he1 hx)
      by_cases hd : x = .dead
      · exact .inl hd
      · refine .inr (T.frame e.cb (cblt b e x he1 hx hd) fun b0 e0 hb0 he0 hce => ?_)
        by_cases hp : passive (A.get b0)
        · exact hp
        · exact absurd hce (injU b e x b0 e0 h.1 he1 hx hd hb0 he0 hp)
  · intro b b' e e' x x' hne he he' hx hx' hp hd
    have kf : ∀ b x, g' b = some x → ((b < A.size ∧ g b = A.get b ∧ A'.get b = some x) ∨ (A.size ≤ b ∧ b < A'.size ∧ ρ b = none ∧ A'.get b = some x)) ∨ ((b < A.size → A.get b = none) ∧ (b < A.size ∨ A'.size ≤ b) ∧ g b = some x) := by
      intro b x hx
      rcases hk b with h | h | h
      · exact .inl (.inl ⟨h.1, h.2.1, by rw [← h.2.2]; exact hx⟩)
      · exact .inl (.inr ⟨h.1, h.2.1, h.2.2.1, by rw [← h.2.2.2]; exact hx⟩)
      · exact .inr ⟨h.1, h.2.1, by rw [← h.2.2]; exact hx⟩
    -- one of the step's own blocks against one of the others
    have mixed : ∀ b e x, ((b < A.size ∧ g b = A.get b ∧ A'.get b = some x) ∨ (A.size ≤ b ∧ b < A'.size ∧ ρ b = none ∧ A'.get b = some x)) → ρ' b = some e → ∀ b' e' x', (b' < A.size → A.get b' = none) → (b' < A.size ∨ A'.size ≤ b') → g b' = some x' → ρ' b' = some e' → x' ≠ .dead → x ≠ .dead →
        (¬ passive (some x) ∨ ¬ passive (some x')) → e.cb ≠ e'.cb := by
      intro b e x hb he b' e' x' hu hu2 hx' he' hd' hd hpp
      have he1' := old b' e' he' hu2
      have hlt := cblt b' e' x' he1' hx' hd'
      cases h1 : ρ b with
      | some e1 =>
        have := T.mono _ _ h1; rw [he] at this; cases this
        rcases hb with ⟨hb, hg, hx⟩ | ⟨_, _, hn, _⟩
        · by_cases hpa : passive (A.get b)
          · have hst := T.still b hb hpa
            rw [hx] at hst
            have hgx : g b = some x := by rw [hg, ← hst]
            have hne : b ≠ b' := fun q => by subst q; rw [hu hb] at hst; cases hst
            rcases hpp with hpp | hpp
            · exact H.inj b b' e e' x x' hne h1 he1' hgx hx' hpp hd'
            · exact fun q => H.inj b' b e' e x' x (Ne.symm hne) he1' h1 hx' hgx hpp hd q.symm
          · exact injU b' e' x' b e hu he1' hx' hd' hb h1 hpa
        · rw [h1] at hn; cases hn
      | none =>
        rcases T.newcb b e h1 he with hge | ⟨b0, e0, hb0, he0, hcb, hnp⟩
        · omega
        · rw [← hcb]
          exact injU b' e' x' b0 e0 hu he1' hx' hd' hb0 he0 hnp
    have hxd : x ≠ .dead := fun q => by subst q; exact hp trivial
    rcases kf b x hx with hb | hb <;> rcases kf b' x' hx' with hb' | hb'
    · exact T.rel.inj b b' e e' x x' hne he he' (by rcases hb with h | h; exact h.2.2; exact h.2.2.2) (by rcases hb' with h | h; exact h.2.2; exact h.2.2.2) hp hd
    · exact mixed b e x hb he b' e' x' hb'.1 hb'.2.1 hb'.2.2 he' hd hxd (.inl hp)
    · exact fun q => mixed b' e' x' hb' he' b e x hb.1 hb.2.1 hb.2.2 he hxd hd (.inr hp) q.symm
    · exact H.inj b b' e e' x x' hne (old b e he hb.2.1) (old b' e' he' hb'.2.1) hb.2.2 hb'.2.2 hp hd
  · intro b h1 h2
    by_cases h3 : ρ b = none
    · have := T.fresh b h3 h2; omega
    · exact H.fresh b h1 h3
  · intro b hb hp
    have hs := H.still b hb hp
    rcases hk b with h | h | h
    · rw [h.2.2, T.still b h.1 (by rw [← h.2.1, hs]; exact hp), ← h.2.1, hs]
    · omega
    · rw [h.2.2, hs]
  · intro b hb hn
    have ha := H.absent b hb hn
    have hn1 : ρ b = none := by
      apply Classical.byContradiction; intro q
      have := H.fresh b hn q; omega
    rcases hk b with h | h | h
    · rw [h.2.2, T.absent b h.1 hn1, ← h.2.1, ha]
    · omega
    · rw [h.2.2, ha]
  · intro b e hn he
    cases h1 : ρ b with
    | some e1 =>
      have := T.mono _ _ h1; rw [he] at this; cases this
      exact H.newcb b e hn h1
    | none =>
      rcases T.newcb b e h1 he with hge | ⟨b0, e0, hb0, he0, hcb, hnp⟩
      · exact .inl (Nat.le_trans H.hsize hge)
      · have hg := act b0 hb0 hnp
        cases h2 : ρ0 b0 with
        | none =>
          rcases H.newcb b0 e0 h2 he0 with hge | ⟨b1, e1, hb1, he1, hcb1, hnp1⟩
          · exact .inl (hcb ▸ hge)
          · exact .inr ⟨b1, e1, hb1, he1, hcb1.trans hcb, hnp1⟩
        | some e1 =>
          have := H.mono _ _ h2; rw [he0] at this; cases this
          have hlt : b0 < N0 := by
            apply Classical.byContradiction; intro q
            have := hfree b0 (by omega) (by have := T.size; omega)
            rw [h2] at this; cases this
          exact .inr ⟨b0, e0, hlt, h2, hcb, fun hp => hnp (by rw [← hg, H.still b0 hlt hp]; exact hp)⟩
  · intro cb hcb hp
    rw [T.frame cb (Nat.lt_of_lt_of_le hcb H.hsize) ?_, H.frame cb hcb hp]
    intro b e hb he hce
    by_cases hpa : passive (A.get b)
    · exact hpa
    · exfalso
      have hg := act b hb hpa
      cases h2 : ρ0 b with
      | none =>
        rcases H.newcb b e h2 he with hge | ⟨b1, e1, hb1, he1, hcb1, hnp1⟩
        · omega
        · exact hnp1 (hp b1 e1 hb1 he1 (hcb1.trans hce))
      | some e1 =>
        have := H.mono _ _ h2; rw [he] at this; cases this
        have hlt : b < N0 := by
          apply Classical.byContradiction; intro q
          have := hfree b (by omega) (by have := T.size; omega)
          rw [h2] at this; cases this
        have := hp b e hlt h2 hce
        exact hpa (by rw [← hg, H.still b hlt this]; exact this)

end Go.AS
