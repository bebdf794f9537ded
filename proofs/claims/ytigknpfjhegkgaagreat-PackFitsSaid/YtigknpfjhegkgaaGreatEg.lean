/- strings.Join as a known function. -/
import Derived.Test.YtigknpfjhegkgaaGreatM3
import Derived.Test.YtigknpfjhegkgaaGreatSh
set_option linter.unusedSimpArgs false
set_option linter.unusedVariables false
namespace Go.Proofs.YtigknpfjhegkgaaGreat
open Go Go.AS
set_option maxRecDepth 100000

theorem Tr.of_below {P : Program} {ρ : Ren} {A : AHeap} {w w' : World} (hr : HRel (CompOf P) ρ A w.heap) (hb : RowKit.Below w.heap.size w w') : Tr (CompOf P) ρ A w ρ A w' := by
  refine ⟨⟨fun b e x he hx => ?_, hr.inj, hr.glob⟩, Ren.le_refl _, fun b h1 h2 => by omega, fun b h1 h2 => absurd h1 h2, Nat.le_refl _, fun _ _ _ => rfl, fun _ _ _ => rfl, fun b e h1 h2 => (by rw [h1] at h2; cases h2), fun cb hcb _ => hb.block cb hcb, hb.size, hb.os, hb.tape, hb.output⟩
  by_cases hd : x = .dead
  · subst hd; trivial
  · exact BRel.keep (Ren.le_refl _) (.inr (hb.block _ (brel_lt (hr.blk b e x he hx) hd))) (hr.blk b e x he hx)

theorem catA_strs : ∀ (l : List Value) (t : List UInt8), catA l = some t → ∃ xs : List ByteArray, l = xs.map (fun s => Value.string s) ∧ t = (xs.map (·.data.toList)).flatten := by
  intro l
  induction l with
  | nil => intro t h; cases h; exact ⟨[], rfl, rfl⟩
  | cons v l ih =>
    intro t h
    cases v with
    | string s =>
      simp only [catA] at h
      cases h1 : catA l with
      | none => rw [h1] at h; cases h
      | some t1 =>
        rw [h1] at h; cases h
        obtain ⟨xs, rfl, rfl⟩ := ih _ h1
        exact ⟨s :: xs, rfl, rfl⟩
    | _ => cases h
theorem join_empty (xs : List (List UInt8)) : Lib.join xs [] = xs.flatten := by
  cases xs with
  | nil => rfl
  | cons x r =>
    rw [Lib.join_cons]
    unfold Lib.joinTail
    simp
set_option maxHeartbeats 1000000 in
theorem join_spec : SpecOk Tryz.prog 139 2 [] true := by
  intro x y v A A' _ h ρ w cas hv hr hfree cs
  rw [if_pos rfl] at hv
  cases hv with
  | cons _ cx _ r hx hv =>
    cases hv with
    | cons _ cy _ r hy hv =>
      cases hv
      unfold specA at h
      split at h
      case h_1 heq => omega
      case h_2 heq => omega
      case h_3 heq => omega
      case h_5 => cases h
      case h_4 b o n c s heq h2 =>
        split at h
        · rename_i hc
          obtain ⟨hs, hn, hop, hnc⟩ := hc
          split at h
          · rename_i l hl
            split at h
            · rename_i t ht
              split at h
              · rename_i hlen
                cases h
                cases hy
                obtain ⟨xs, rfl, rfl⟩ := catA_strs _ _ ht
                have key : ∀ en : REnt, ρ b = some en → ∃ vc w', FnRuns Tryz.prog cs 139 [.slice (some ⟨en.cb, en.base + o, none⟩) n c, .string s] w vc w' ∧ VR ρ (.string ⟨⟨(xs.map (·.data.toList)).flatten⟩⟩) vc ∧ Tr (CompOf Tryz.prog) ρ A w ρ A w' := by
                  intro en hen
                  obtain ⟨vs', k1, k2, k3⟩ := rd_cells hr hen hl
                  have hxl : xs.length = n := by
                    have := k1.length
                    rw [List.length_map] at this
                    omega
                  have hcells : ∀ (j : Nat) x, xs[j]? = some x → w.cell? ⟨en.cb, en.base + o + j, none⟩ = some (.string x) := by
                    intro j x hj
                    obtain ⟨v', g1, g2⟩ := k1.get (i := j) (v := .string x) (by rw [List.getElem?_map, hj]; rfl)
                    cases g2
                    exact k3 j _ g1
                  have hbk : en.cb < w.heap.size := by
                    unfold rdCells at hl
                    split at hl
                    · rename_i cs0 ro opn hb
                      obtain ⟨cc, el, lo, hi, hh, _⟩ := cells_of hr hen hb
                      rcases Nat.lt_or_ge en.cb w.heap.size with q | q
                      · exact q
                      · rw [Array.getElem?_eq_none q] at hh; cases hh
                    · cases hl
                  have hj : Lib.join (xs.map (·.data.toList)) s.data.toList = (xs.map (·.data.toList)).flatten := by rw [hs]; exact join_empty _
                  have hcl := Tryz.strings_Join en.cb (en.base + o) c xs s w hcells hbk (by omega) (by omega) (by rw [hj]; exact hlen)
                  rw [hj, hxl] at hcl
                  obtain ⟨e, w2, fr, ⟨rfl, hb⟩, h1, h2, h3⟩ := hcl cs
                  exact ⟨_, w2, ⟨fr, h1, h2, h3⟩, .string _, Tr.of_below hr hb⟩
                cases hx with
                | slice _ _ _ _ en hen _ _ => exact key en hen
                | sliceOpen => exact absurd hop (by decide)
                | sliceEnd => exact absurd hop (by decide)
              · cases h
            · cases h
          · cases h
        · cases h
end Go.Proofs.YtigknpfjhegkgaaGreat
