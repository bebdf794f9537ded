import Derived.Test.YtidgbapgedegbaaAsI
namespace Go.AS
open Go
set_option linter.unusedSimpArgs false
set_option linter.unusedVariables false

section
variable {C : Comp} {ρ : Ren} {A : AHeap} {w : World} {P : Program} {e : Env} {cev : Operand → Value}

theorem part_sound {t : TypeId} {cs cs' : List Value} {off : Nat} (h : VRs ρ cs cs') :
    (∀ v, aggOf P t = some false → cs[off]? = some v → ∃ v', (part t ⟨cs'⟩ off).run P w = .ok v' w ∧ VR ρ v v') ∧
    (∀ n, aggOf P t = some true → szOf P t = some n → off + n ≤ cs.length → ∃ v', (part t ⟨cs'⟩ off).run P w = .ok v' w ∧ VR ρ (.agg ⟨(cs.drop off).take n⟩) v') := by
  constructor
  · intro v ha hv
    obtain ⟨v', h1, h2⟩ := h.get hv
    exact ⟨v', by simp only [part, run_bind, run_isAgg ha, Bool.false_eq_true, if_false, List.getElem?_toArray, h1]; rfl, h2⟩
  · intro n ha hs hle
    refine ⟨.agg ⟨(cs'.drop off).take n⟩, ?_, .agg _ _ ((h.drop off).take n)⟩
    simp only [part, run_bind, run_isAgg ha, run_sizeOf hs, run_pure, if_true]
    congr 2
    apply Array.ext'
    simp [List.extract_eq_take_drop]

theorem add_mul (cb o n : Nat) : (Addr.mk cb o none).add n = ⟨cb, o + n, none⟩ := add_plain cb o n

theorem bnd_mono {x : Value} {y y' n : Nat} (h : bnd x y = some n) (hy : y ≤ y') : bnd x y' = some n := by
  unfold bnd at h ⊢
  split at h
  · split at h
    · rename_i hb; cases h; rw [if_pos (by omega)]
    · cases h
  · cases h

theorem bndsA_mono {len cap cap' : Nat} {lo hi : Option Value} {l h m : Nat} (hb : bndsA len cap lo hi none = some (l, h, m)) (hc : cap ≤ cap') : bndsA len cap' lo hi none = some (l, h, cap') := by
  unfold bndsA at hb ⊢
  simp only at hb ⊢
  cases hi with
  | none =>
    simp only at hb ⊢
    cases lo with
    | none => cases hb; rfl
    | some a =>
      simp only at hb ⊢
      cases h1 : bnd a len with
      | none => rw [h1] at hb; cases hb
      | some n => rw [h1] at hb; cases hb; rfl
  | some b =>
    simp only at hb ⊢
    cases h2 : bnd b cap with
    | none => rw [h2] at hb; cases hb
    | some n2 =>
      rw [h2] at hb
      rw [bnd_mono h2 hc]
      simp only at hb ⊢
      cases lo with
      | none => cases hb; rfl
      | some a =>
        simp only at hb ⊢
        cases h1 : bnd a n2 with
        | none => rw [h1] at hb; cases hb
        | some n => rw [h1] at hb; cases hb; rfl

theorem bndsA_mono3 {len cap cap' : Nat} {lo hi : Option Value} {mx : Value} {l h m : Nat} (hb : bndsA len cap lo hi (some mx) = some (l, h, m)) (hc : cap ≤ cap') : bndsA len cap' lo hi (some mx) = some (l, h, m) := by
  unfold bndsA at hb ⊢
  simp only at hb ⊢
  cases h3 : bnd mx cap with
  | none => rw [h3] at hb; cases hb
  | some n3 =>
    rw [h3] at hb
    rw [bnd_mono h3 hc]
    exact hb

theorem sliceVA_sound (hr : HRel C ρ A w.heap) {size : Nat} {x x' v : Value} {lo hi mx : Option Operand} {elem t : TypeId}
    (h : sliceVA A size x (lo.map (ev e)) (hi.map (ev e)) (mx.map (ev e)) = some v) (hx : VR ρ x x') (ht : P.underlying t = some (.slice elem)) (hs : szOf P elem = some size)
    (hlo : ∀ x, lo = some x → VR ρ (ev e x) (cev x)) (hhi : ∀ x, hi = some x → VR ρ (ev e x) (cev x)) (hmx : ∀ x, mx = some x → VR ρ (ev e x) (cev x)) :
    ∃ v', (Instr.slice t x' (lo.map cev) (hi.map cev) (mx.map cev)).run P w = .ok v' w ∧ VR ρ v v' := by
  have run : ∀ {len cap l h m : Nat} {a : Option Addr}, (Instr.sliceBounds true len cap (lo.map cev) (hi.map cev) (mx.map cev)).run P w = .ok (l, h, m) w →
      (Instr.slice t (.slice a len cap) (lo.map cev) (hi.map cev) (mx.map cev)).run P w = .ok (.slice (if m = l then a else a.map (·.add (l * size))) (h - l) (m - l)) w := by
    intro len cap l h m a hb
    simp only [Instr.slice, run_bind, run_underlying ht, hb, run_sizeOf hs, run_pure]
  unfold sliceVA at h
  split at h
  · rename_i len cap
    cases hx
    split at h
    · rename_i l hh m hb
      cases h
      obtain ⟨h1, h2, h3, h4⟩ := bnds_sound (P := P) (w := w) true hb (Nat.le_refl _) hlo hhi hmx
      obtain rfl : m = 0 := by omega
      obtain rfl : hh = 0 := by omega
      obtain rfl : l = 0 := by omega
      exact ⟨_, run h1, by simpa using .nils⟩
    · cases h
  · rename_i b o len cap
    split at h
    · rename_i hcap
      cases hx with
      | slice _ _ _ _ en he hc _ => omega
      | sliceEnd => exact absurd hcap (by decide)
      | sliceOpen _ _ _ q en he hq hrm =>
        split at h
        · rename_i cs ro opn hb
          obtain ⟨cc, el, lo', hi', hh, hsz, hc, hfr, hop⟩ := cells_of hr he hb
          split at h
          · cases h
          rename_i hopn
          simp only [Bool.or_eq_true, decide_eq_true_eq, bne_iff_ne, not_or, ne_eq, Decidable.not_not] at hopn
          obtain ⟨hop0, hop1, hop2, hop3⟩ := hop hopn.1
          have hes : en.esz = size := hop2.trans hopn.2
          split at h
          · rename_i mxv hmx2
            split at h
            · rename_i l hh' m hb2
              split at h
              · cases h
              · rename_i hno
                cases h
                rw [hmx2] at hb2
                have hb3 := bndsA_mono3 hb2 (show len ≤ en.room - q by omega)
                rw [← hmx2] at hb3
                obtain ⟨h1, h2, h3, h4⟩ := bnds_sound (P := P) (w := w) true hb3 (by omega) hlo hhi hmx
                refine ⟨_, run h1, ?_⟩
                by_cases hml : m = l
                · simp only [hml, if_true]; simp only [hml] at hno
                  exact .slice b o _ _ en he (by omega) (by omega)
                · simp only [hml, if_false, Option.map_some, add_plain]
                  rw [Nat.add_assoc]
                  exact .slice b _ _ _ en he (by omega) (by omega)
            · cases h
          · rename_i hmx2
            split at h
            · rename_i l hh' m hb2
              have hb3 := bndsA_mono hb2 (show len ≤ en.room - q by omega)
              rw [← hmx2] at hb3
              obtain ⟨h1, h2, h3, h4⟩ := bnds_sound (P := P) (w := w) true hb3 (by omega) hlo hhi hmx
              split at h
              · rename_i hl
                cases h
                refine ⟨_, run h1, ?_⟩
                simp only [Bool.or_eq_true, decide_eq_true_eq] at hl
                by_cases hl0 : l = 0
                · subst hl0
                  simp only [Nat.zero_mul, Nat.add_zero, Nat.sub_zero, Option.map_some, add_plain, ite_self]
                  exact .sliceOpen b o _ q en he hq (by omega)
                · have hlt := hl.resolve_left hl0
                  have hroom : (q + l) * size < en.room * size := by rw [Nat.add_mul]; rw [hes] at hop0 hq; omega
                  have hql : q + l < en.room := Nat.lt_of_mul_lt_mul_right hroom
                  rw [if_neg (by omega)]
                  simp only [Option.map_some, add_plain]
                  rw [Nat.add_assoc, show en.room - q - l = en.room - (q + l) by omega]
                  exact .sliceOpen b _ _ (q + l) en he (by rw [hq, hes, Nat.add_mul]) (by omega)
              · split at h
                · rename_i hend
                  simp only [Bool.and_eq_true, beq_iff_eq, decide_eq_true_eq] at hend
                  cases h
                  refine ⟨_, run h1, ?_⟩
                  have hhl : hh' - l = 0 := by omega
                  rw [hhl]
                  by_cases hml : en.room - q = l
                  · rw [if_pos hml]
                    exact .sliceEnd b _ _ _ (q + l) en he (by rw [hq, hes, Nat.add_mul]) (by omega) (.inl (by omega))
                  · rw [if_neg hml]
                    simp only [Option.map_some, add_plain]
                    rw [Nat.add_assoc]
                    exact .sliceEnd b _ _ _ (q + l) en he (by rw [hq, hes, Nat.add_mul]) (by omega) (.inr ⟨rfl, by omega⟩)
                · cases h
            · cases h
        · cases h
    · split at h
      · rename_i hcap hce
        split at h
        · rename_i hmx2
          split at h
          · rename_i r hb2
            split at h
            · rename_i hl0
              cases h
              cases hx with
              | slice _ _ _ _ en he hc _ => rw [hce] at hc; exact absurd hc (by decide)
              | sliceOpen => exact absurd rfl hcap
              | sliceEnd _ _ x c q en he hq hrm hc =>
                obtain ⟨l, hh', m⟩ := r
                have hb3 := bndsA_mono hb2 (Nat.zero_le c)
                rw [← hmx2] at hb3
                obtain ⟨h1, h2, h3, h4⟩ := bnds_sound (P := P) (w := w) true hb3 (Nat.zero_le _) hlo hhi hmx
                have hb0 := bnds_sound (P := P) (w := w) (mx := none) true hb2 (Nat.le_refl _) hlo hhi (fun _ h => by cases h)
                obtain ⟨_, g2, g3, g4⟩ := hb0
                obtain rfl : m = 0 := by omega
                obtain rfl : hh' = 0 := by omega
                obtain rfl : l = 0 := by omega
                refine ⟨_, run h1, ?_⟩
                simp only [Nat.zero_mul, Nat.sub_zero, Option.map_some, add_plain, Nat.add_zero, ite_self]
                exact .sliceEnd b o x c q en he hq hrm hc
            · cases h
          · cases h
        · rename_i mxv hmx2
          split at h
          · rename_i r hb2
            split at h
            · rename_i hl0
              cases h
              cases hx with
              | slice _ _ _ _ en he hc _ => rw [hce] at hc; exact absurd hc (by decide)
              | sliceOpen => exact absurd rfl hcap
              | sliceEnd _ _ x c q en he hq hrm hc =>
                obtain ⟨l, hh', m⟩ := r
                obtain ⟨_, g2, g3, g4⟩ := bnds_sound (P := P) (w := w) true hb2 (Nat.le_refl _) hlo hhi hmx
                rw [hmx2] at hb2
                have hb3 := bndsA_mono3 hb2 (Nat.zero_le c)
                rw [← hmx2] at hb3
                obtain ⟨h1, _, _, _⟩ := bnds_sound (P := P) (w := w) true hb3 (Nat.zero_le _) hlo hhi hmx
                obtain rfl : m = 0 := by omega
                obtain rfl : hh' = 0 := by omega
                obtain rfl : l = 0 := by omega
                refine ⟨_, run h1, ?_⟩
                simp only [Nat.zero_mul, Nat.sub_zero, Option.map_some, add_plain, Nat.add_zero, ite_self]
                exact .sliceEnd b o x 0 q en he hq hrm (.inl rfl)
            · cases h
          · cases h
      · split at h
        · cases h
        · rename_i hcap hce hlt
          cases hx with
          | sliceOpen _ _ _ q en he hq hrm => exact absurd rfl hcap
          | sliceEnd => exact absurd rfl hce
          | slice _ _ _ _ en he hc hlc =>
            split at h
            · rename_i l hh m hb
              split at h
              · cases h
              · rename_i hno
                cases h
                obtain ⟨h1, h2, h3, h4⟩ := bnds_sound (P := P) (w := w) true hb hlc hlo hhi hmx
                refine ⟨_, run h1, ?_⟩
                by_cases hml : m = l
                · simp only [hml, if_true]; simp only [hml] at hno
                  exact .slice b o _ _ en he (by omega) (by omega)
                · simp only [hml, if_false, Option.map_some, add_plain]
                  rw [Nat.add_assoc]
                  exact .slice b _ _ _ en he (by omega) (by omega)
            · cases h
  · cases h

end
end Go.AS
