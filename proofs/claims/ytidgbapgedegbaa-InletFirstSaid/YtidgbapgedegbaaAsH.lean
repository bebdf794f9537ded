import Derived.Test.YtidgbapgedegbaaAsG
namespace Go.AS
open Go
set_option linter.unusedSimpArgs false
set_option linter.unusedVariables false

section
variable {C : Comp} {ρ : Ren} {A : AHeap} {w : World} {P : Program} {e : Env} {cev : Operand → Value}

/-! ### Filling in parts -/
theorem zipFold (vs : List Value) : ∀ (k : Nat) (cs : Array Value) (off : Nat), (vs.toArray.zipIdx k).foldl (fun cs (c, j) => cs.setIfInBounds (off + j) c) cs = ⟨lay cs.toList (off + k) vs⟩ := by
  induction vs with
  | nil => intro k cs off; rw [← Array.foldl_toList]; simp [lay]
  | cons v vs ih =>
    intro k cs off
    rw [← Array.foldl_toList]
    simp only [Array.toList_zipIdx, List.zipIdx_cons, List.foldl_cons]
    have := ih (k + 1) (cs.setIfInBounds (off + k) v) off
    rw [← Array.foldl_toList] at this
    simp only [Array.toList_zipIdx] at this
    rw [this]
    simp [lay, Nat.add_assoc]

theorem VRs.lay {vs vs' : List Value} (hv : VRs ρ vs vs') : ∀ {cs cs' : List Value} (o : Nat), VRs ρ cs cs' → VRs ρ (lay cs o vs) (lay cs' o vs') := by
  induction vs generalizing vs' with
  | nil => intro cs cs' o h; cases hv; exact h
  | cons v vs ih =>
    intro cs cs' o h
    cases hv with
    | cons _ _ _ _ h1 h2 => exact ih h2 (o + 1) (h.set o h1)

/-- Parts laid, each at its own place. -/
theorem fill_sound (place : Nat → Option (Nat × Nat)) (ps : List (Nat × Operand)) (qs : List (Nat × Nat × Operand))
    (hp : ps.length = qs.length) (hpl : ∀ (i : Nat) (p : Nat × Operand) (q : Nat × Nat × Operand), ps[i]? = some p → qs[i]? = some q → place p.1 = some (q.1, q.2.1) ∧ p.2 = q.2.2)
    (hev : ∀ p ∈ ps, VR ρ (ev e p.2) (cev p.2)) : ∀ (cs cs' : List Value) (out : List Value), VRs ρ cs cs' →
      fillP cs (qs.map fun q => (q.1, q.2.1, ev e q.2.2)) = some out →
      ∃ out', Instr.fill place ⟨cs'⟩ (ps.map fun p => (p.1, cev p.2)) = some out' ∧ VRs ρ out out'.toList := by
  induction ps generalizing qs with
  | nil =>
    intro cs cs' out h hf
    cases qs with
    | nil => simp only [List.map_nil, fillP] at hf; cases hf; exact ⟨⟨cs'⟩, rfl, h⟩
    | cons _ _ => simp at hp
  | cons p ps ih =>
    intro cs cs' out h hf
    cases qs with
    | nil => simp at hp
    | cons q qs =>
      obtain ⟨h1, h2⟩ := hpl 0 p q rfl rfl
      simp only [List.map_cons, fillP] at hf
      split at hf
      · cases hf
      · rename_i hk
        have hv := hev p (by simp)
        rw [h2] at hv
        have hlen := hv.cl.length
        have hlen2 := h.length
        obtain ⟨out', e1, e2⟩ := ih qs (by simpa using hp) (fun i p' q' a b => hpl (i + 1) p' q' (by simpa using a) (by simpa using b)) (fun p' hp' => hev p' (by simp [hp'])) _ _ out (hv.cl.lay q.1 h) hf
        refine ⟨out', ?_, e2⟩
        simp only [List.map_cons, Instr.fill, h1, h2]
        have hsz : (cev q.2.2).cells.size = (cl (cev q.2.2)).length := by rw [cells_cl]; simp
        have hk2 : ¬ ((decide ((cev q.2.2).cells.size ≠ q.2.1) || decide (q.1 + (cev q.2.2).cells.size > (Array.mk cs').size)) = true) := by
          rw [hsz, hlen]; simpa [hlen2] using hk
        rw [if_neg hk2]
        rw [show ((cev q.2.2).cells.zipIdx).foldl (fun cs x => cs.setIfInBounds (q.1 + x.2) x.1) (Array.mk cs') = ⟨lay cs' q.1 (cl (cev q.2.2))⟩ from by
          have := zipFold (cl (cev q.2.2)) 0 ⟨cs'⟩ q.1
          rw [cells_cl]; simpa using this]
        exact e1

/-! ### Bounds of a slice expression -/
theorem bnd_sound {x x' : Value} {y n : Nat} (code : BoundsCode) (h : bnd x y = some n) (hx : VR ρ x x') : (Instr.sliceBound x' y code).run P w = .ok n w ∧ n ≤ y := by
  unfold bnd at h
  split at h
  · cases hx
    split at h
    · rename_i hb; cases h
      refine ⟨?_, by omega⟩
      simp only [Instr.sliceBound, run_bind, asIntOf, run_pure, if_pos hb]
    · cases h
  · cases h

theorem bnds_sound {len cap : Nat} {lo hi mx : Option Operand} {l h m : Nat} (isS : Bool) (hb : bndsA len cap (lo.map (ev e)) (hi.map (ev e)) (mx.map (ev e)) = some (l, h, m))
    (hlc : len ≤ cap) (hlo : ∀ x, lo = some x → VR ρ (ev e x) (cev x)) (hhi : ∀ x, hi = some x → VR ρ (ev e x) (cev x)) (hmx : ∀ x, mx = some x → VR ρ (ev e x) (cev x)) :
    (Instr.sliceBounds isS len cap (lo.map cev) (hi.map cev) (mx.map cev)).run P w = .ok (l, h, m) w ∧ l ≤ h ∧ h ≤ m ∧ m ≤ cap := by
  unfold bndsA at hb
  cases mx with
  | none =>
    simp only [Option.map_none] at hb
    cases hi with
    | none =>
      simp only [Option.map_none] at hb
      cases lo with
      | none => simp only [Option.map_none] at hb; cases hb; exact ⟨by simp only [Instr.sliceBounds, run_bind, run_pure, Option.map_none], by omega, hlc, Nat.le_refl _⟩
      | some a =>
        simp only [Option.map_some] at hb
        cases h1 : bnd (ev e a) len with
        | none => rw [h1] at hb; cases hb
        | some n =>
          rw [h1] at hb; cases hb
          have := bnd_sound (P := P) (w := w) .sliceB h1 (hlo a rfl)
          exact ⟨by simp [Instr.sliceBounds, run_bind, run_pure, Option.map_none, Option.map_some, this.1], this.2, hlc, Nat.le_refl _⟩
    | some b =>
      simp only [Option.map_some] at hb
      cases h2 : bnd (ev e b) cap with
      | none => rw [h2] at hb; cases hb
      | some n2 =>
        rw [h2] at hb
        have k2 := bnd_sound (P := P) (w := w) (if isS then .sliceAcap else .sliceAlen) h2 (hhi b rfl)
        cases lo with
        | none => simp only [Option.map_none] at hb; cases hb; exact ⟨by simp [Instr.sliceBounds, run_bind, run_pure, Option.map_none, Option.map_some, k2.1], by omega, k2.2, Nat.le_refl _⟩
        | some a =>
          simp only [Option.map_some] at hb
          cases h1 : bnd (ev e a) n2 with
          | none => rw [h1] at hb; cases hb
          | some n =>
            rw [h1] at hb; cases hb
            have := bnd_sound (P := P) (w := w) .sliceB h1 (hlo a rfl)
            exact ⟨by simp [Instr.sliceBounds, run_bind, run_pure, Option.map_none, Option.map_some, k2.1, this.1], this.2, k2.2, Nat.le_refl _⟩
  | some c =>
    simp only [Option.map_some] at hb
    cases h3 : bnd (ev e c) cap with
    | none => rw [h3] at hb; cases hb
    | some n3 =>
      rw [h3] at hb
      have k3 := bnd_sound (P := P) (w := w) (if isS then .slice3Acap else .slice3Alen) h3 (hmx c rfl)
      cases hi with
      | none => simp only [Option.map_none] at hb; cases hb
      | some b =>
        simp only [Option.map_some] at hb
        cases h2 : bnd (ev e b) n3 with
        | none => rw [h2] at hb; cases hb
        | some n2 =>
          rw [h2] at hb
          have k2 := bnd_sound (P := P) (w := w) .slice3B h2 (hhi b rfl)
          cases lo with
          | none => simp only [Option.map_none] at hb; cases hb; exact ⟨by simp [Instr.sliceBounds, run_bind, run_pure, Option.map_none, Option.map_some, k2.1, k3.1], by omega, k2.2, k3.2⟩
          | some a =>
            simp only [Option.map_some] at hb
            cases h1 : bnd (ev e a) n2 with
            | none => rw [h1] at hb; cases hb
            | some n =>
              rw [h1] at hb; cases hb
              have := bnd_sound (P := P) (w := w) .slice3C h1 (hlo a rfl)
              exact ⟨by simp [Instr.sliceBounds, run_bind, run_pure, Option.map_none, Option.map_some, k2.1, k3.1, this.1], this.2, k2.2, k3.2⟩

theorem bndsA_le {len cap : Nat} {lo hi mx : Option Value} {l h m : Nat} (hb : bndsA len cap lo hi mx = some (l, h, m)) : True := trivial

end
end Go.AS
