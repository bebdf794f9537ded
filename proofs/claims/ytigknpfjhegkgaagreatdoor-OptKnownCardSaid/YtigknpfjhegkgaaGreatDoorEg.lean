/- errors.As as a known function. -/
import Derived.Test.YtigknpfjhegkgaaGreatDoorM3
import Derived.Test.YtigknpfjhegkgaaGreatDoorEc
import Derived.Test.YtigknpfjhegkgaaGreatDoorSh
set_option linter.unusedSimpArgs false
set_option linter.unusedVariables false
namespace Go.Proofs.YtigknpfjhegkgaaGreatDoor
open Go Go.AS
set_option maxRecDepth 100000
set_option linter.unusedVariables false

theorem errT_cell {P : Program} {ρ : Ren} {A : AHeap} {w : World} {tt te : Nat} (hr : HRel (CompOf P) ρ A w.heap) (h : errT tt te (A.get 0) = true) : w.cell? ⟨0, 0, none⟩ = some (.iface tt (.agg #[.pointer (some ⟨2, te, none⟩)])) := by
  unfold errT at h
  split at h
  · rename_i t e opn hA
    have hte := of_decide_eq_true h
    obtain ⟨rfl, rfl⟩ := hte
    obtain ⟨cc, el, lo, hi, h1, h2, h3, _⟩ := hr.blk 0 _ _ (hr.glob 0 (show (0 : Nat) < 8 by decide)) hA
    obtain ⟨v', q1, q2⟩ := h3 0 _ rfl
    cases q2 with
    | iface _ _ v2 q3 =>
      cases q3 with
      | agg _ cs' q4 =>
        cases q4 with
        | cons _ u _ l' q5 q6 =>
          cases q6
          cases q5 with
          | ptr _ _ en q7 =>
            rw [hr.glob 2 (show (2 : Nat) < 8 by decide)] at q7
            cases q7
            unfold World.cell?
            simp only at h1 q1 ⊢
            simp only [h1]
            simpa using q1
  · cases h

theorem vr_one {ρ : Ren} {u u' : Value} (h : VR ρ u u') (ho : oneCell u = true) : u'.oneCell' = true := by
  cases h <;> first | rfl | cases ho

/-- One cell written, behind blocks of the machine's own. -/
theorem wr_one {P : Program} {ρ : Ren} {A A' : AHeap} {w W : World} {b o : Nat} {en : REnt} {u u' old : Value} (T : Tr (CompOf P) ρ A w ρ A W) (hw : wrCells A b o [u] = some A') (he : ρ b = some en) (hu : VR ρ u u')
    (hc : W.cell? ⟨en.cb, en.base + o, none⟩ = some old) (hf : W.frozen? ⟨en.cb, en.base + o, none⟩ = false) (ho : u'.oneCell' = true) : Tr (CompOf P) ρ A w ρ A' (W.setCell ⟨en.cb, en.base + o, none⟩ u') := by
  obtain ⟨w', r1, r2⟩ := wrCells_sound T.rel hw he (.cons u u' [] [] hu .nil) (P := P)
  have : w' = W.setCell ⟨en.cb, en.base + o, none⟩ u' := by
    simp [storeCells, Addr.add] at r1
    rw [run_store P W _ _ _ ho] at r1
    simp [hc, hf] at r1
    exact r1.symm
  subst this
  exact T.trans r2

theorem specA0_inv {tt te t0 p0 n0 t1 p1 : Nat} {x y v : Value} {A A' : AHeap} (h : specA 0 [tt, te, t0, p0, n0, t1, p1] x y A = some (v, A')) :
    (x = .nilIface ∧ v = .bool false ∧ A' = A) ∨
    (errT tt te (A.get 0) = true ∧ v = .bool true ∧ ∃ b o u, y = .iface p0 (.pointer (some ⟨b, o, none⟩)) ∧ n0 = 1 ∧ x = .iface t0 (.agg ⟨[u]⟩) ∧ wrCells A b o [u] = some A') ∨
    (errT tt te (A.get 0) = true ∧ v = .bool true ∧ ∃ b o k n, y = .iface p0 (.pointer (some ⟨b, o, none⟩)) ∧ n0 = 0 ∧ x = .iface t0 (.int k n) ∧ wrCells A b o [.int k n] = some A') ∨
    (errT tt te (A.get 0) = true ∧ v = .bool true ∧ ∃ b o b1 o1, y = .iface p1 (.pointer (some ⟨b, o, none⟩)) ∧ x = .iface t1 (.agg ⟨[.pointer (some ⟨b1, o1, none⟩)]⟩) ∧ wrCells A b o [.pointer (some ⟨b1, o1, none⟩)] = some A' ∧ ¬ (t1 = t0 ∧ p1 = p0)) := by
  have mp : ∀ r : Option AHeap, (r.map fun A2 => (Value.bool true, A2)) = some (v, A') → v = .bool true ∧ r = some A' := by
    intro r hr
    cases r with
    | none => cases hr
    | some A2 => cases hr; exact ⟨rfl, rfl⟩
  unfold specA at h
  split at h
  · cases h; exact .inl ⟨rfl, rfl, rfl⟩
  · simp only at h
    split at h
    · rename_i hE
      split at h
      · rename_i hc
        obtain ⟨rfl, rfl⟩ := hc
        split at h
        · obtain ⟨h1, h2⟩ := mp _ h
          exact .inr (.inl ⟨hE, h1, _, _, _, rfl, rfl, rfl, h2⟩)
        · obtain ⟨h1, h2⟩ := mp _ h
          exact .inr (.inr (.inl ⟨hE, h1, _, _, _, _, rfl, rfl, rfl, h2⟩))
        · cases h
      · rename_i hn
        split at h
        · rename_i hc
          obtain ⟨rfl, rfl⟩ := hc
          split at h
          · obtain ⟨h1, h2⟩ := mp _ h
            exact .inr (.inr (.inr ⟨hE, h1, _, _, _, _, rfl, rfl, h2, hn⟩))
          · cases h
        · cases h
    · cases h
  all_goals first | contradiction | omega | (simp at h; done)

theorem cell_old {w : World} {a : Addr} {c : Value} (o : Obj) (h : w.cell? a = some c) : (w.alloc o).cell? a = some c := by
  have hl : a.block < w.heap.size := by
    rcases Nat.lt_or_ge a.block w.heap.size with q | q
    · exact q
    · simp [World.cell?, Array.getElem?_eq_none q] at h
  rw [World.cell?_alloc_lt _ _ a hl]; exact h
theorem frozen_old {w : World} {a : Addr} {c : Value} (o : Obj) (h : w.cell? a = some c) (hf : w.frozen? a = false) : (w.alloc o).frozen? a = false := by
  have hl : a.block < w.heap.size := by
    rcases Nat.lt_or_ge a.block w.heap.size with q | q
    · exact q
    · simp [World.cell?, Array.getElem?_eq_none q] at h
  rw [World.frozen?_alloc_old _ _ a (Nat.ne_of_lt hl)]; exact hf
theorem grow {P : Program} {ρ : Ren} {A : AHeap} {w W : World} (T : Tr (CompOf P) ρ A w ρ A W) (o : Obj) : Tr (CompOf P) ρ A w ρ A (W.alloc o) := T.trans (Tr.grow (o := o) T.rel rfl rfl rfl rfl)

theorem as_spec : SpecOk Tryz.prog 35 0 [174, 93, 31, 97, 0, 31, 97] true := by
  intro x y v A A' _ h ρ w cas hv hr hfree cs
  rw [if_pos rfl] at hv
  cases hv with
  | cons _ cx _ r hx hv =>
    cases hv with
    | cons _ cy _ r hy hv =>
      cases hv
      rcases specA0_inv h with ⟨rfl, rfl, rfl⟩ | ⟨_, _, _, _, _, _, q, _⟩ | ⟨hE, rfl, b, o, k, n, rfl, _, rfl, hw⟩ | ⟨hE, rfl, b, o, b1, o1, rfl, rfl, hw, hn⟩
      · cases hx
        exact ⟨_, w, calls_fn (as_nil cy w) cs, .bool false, Tr.refl hr⟩
      · cases q
      · have hg := errT_cell hr hE
        cases hy with
        | iface _ _ _ hy => cases hy with
          | ptr _ _ en hen => cases hx with
            | iface _ _ vx hx =>
              cases hx
              obtain ⟨old, c1, c2, c3⟩ := wr_cell hr hw hen
              exact ⟨_, _, calls_fn (as_hit k n _ old w hg c1 c2) cs, .bool true, wr_one (old := old) (grow (grow (grow (grow (Tr.refl hr) _) _) _) _) hw hen (.int k n) (cell_old _ (cell_old _ (cell_old _ (cell_old _ c1)))) (frozen_old _ (cell_old _ (cell_old _ (cell_old _ c1))) (frozen_old _ (cell_old _ (cell_old _ c1)) (frozen_old _ (cell_old _ c1) (frozen_old _ c1 c2)))) rfl⟩
      · exact absurd ⟨rfl, rfl⟩ hn

theorem Tr.of_below {P : Program} {ρ : Ren} {A : AHeap} {w w' : World} (hr : HRel (CompOf P) ρ A w.heap) (hb : RowKit.Below w.heap.size w w') : Tr (CompOf P) ρ A w ρ A w' := by
  refine ⟨⟨fun b e x he hx => ?_, hr.inj, hr.glob⟩, Ren.le_refl _, fun b h1 h2 => by omega, fun b h1 h2 => absurd h1 h2, Nat.le_refl _, fun _ _ _ => rfl, fun _ _ _ => rfl, fun b e h1 h2 => (by rw [h1] at h2; cases h2), fun cb hcb _ => hb.block cb hcb, hb.size, hb.os, hb.tape, hb.output⟩
  by_cases hd : x = .dead
  · subst hd; trivial
  · exact BRel.keep (Ren.le_refl _) (.inr (hb.block _ (brel_lt (hr.blk b e x he hx) hd))) (hr.blk b e x he hx)

theorem catA_strs : ∀ (l : List Value) (t : List UInt8), catA l = some t → ∃ xs : List ByteArray, l = xs.map (fun s => Value.string s) ∧ t = (xs.map (·.data.toList)).flatten := by
  intro l
  induction l with
  | nil => intro t h; cases h; exact ⟨[], rfl, rfl⟩
  | cons v l ih =>
    intro t h
    cases v with
    | string s =>
      simp only [catA] at h
      cases h1 : catA l with
      | none => rw [h1] at h; cases h
      | some t1 =>
        rw [h1] at h; cases h
        obtain ⟨xs, rfl, rfl⟩ := ih _ h1
        exact ⟨s :: xs, rfl, rfl⟩
    | _ => cases h
theorem join_empty (xs : List (List UInt8)) : Lib.join xs [] = xs.flatten := by
  cases xs with
  | nil => rfl
  | cons x r =>
    rw [Lib.join_cons]
    unfold Lib.joinTail
    simp
set_option maxHeartbeats 1000000 in
theorem join_spec : SpecOk Tryz.prog 170 2 [] true := by
  intro x y v A A' _ h ρ w cas hv hr hfree cs
  rw [if_pos rfl] at hv
  cases hv with
  | cons _ cx _ r hx hv =>
    cases hv with
    | cons _ cy _ r hy hv =>
      cases hv
      unfold specA at h
      split at h
      case h_1 heq => omega
      case h_2 heq => omega
      case h_3 heq => omega
      case h_5 => cases h
      case h_4 b o n c s heq h2 =>
        split at h
        · rename_i hc
          obtain ⟨hs, hn, hop, hnc⟩ := hc
          split at h
          · rename_i l hl
            split at h
            · rename_i t ht
              split at h
              · rename_i hlen
                cases h
                cases hy
                obtain ⟨xs, rfl, rfl⟩ := catA_strs _ _ ht
                have key : ∀ en : REnt, ρ b = some en → ∃ vc w', FnRuns Tryz.prog cs 170 [.slice (some ⟨en.cb, en.base + o, none⟩) n c, .string s] w vc w' ∧ VR ρ (.string ⟨⟨(xs.map (·.data.toList)).flatten⟩⟩) vc ∧ Tr (CompOf Tryz.prog) ρ A w ρ A w' := by
                  intro en hen
                  obtain ⟨vs', k1, k2, k3⟩ := rd_cells hr hen hl
                  have hxl : xs.length = n := by
                    have := k1.length
                    rw [List.length_map] at this
                    omega
                  have hcells : ∀ (j : Nat) x, xs[j]? = some x → w.cell? ⟨en.cb, en.base + o + j, none⟩ = some (.string x) := by
                    intro j x hj
                    obtain ⟨v', g1, g2⟩ := k1.get (i := j) (v := .string x) (by rw [List.getElem?_map, hj]; rfl)
                    cases g2
                    exact k3 j _ g1
                  have hbk : en.cb < w.heap.size := by
                    unfold rdCells at hl
                    split at hl
                    · rename_i cs0 ro opn hb
                      obtain ⟨cc, el, lo, hi, hh, _⟩ := cells_of hr hen hb
                      rcases Nat.lt_or_ge en.cb w.heap.size with q | q
                      · exact q
                      · rw [Array.getElem?_eq_none q] at hh; cases hh
                    · cases hl
                  have hj : Lib.join (xs.map (·.data.toList)) s.data.toList = (xs.map (·.data.toList)).flatten := by rw [hs]; exact join_empty _
                  have hcl := Tryz.strings_Join en.cb (en.base + o) c xs s w hcells hbk (by omega) (by omega) (by rw [hj]; exact hlen)
                  rw [hj, hxl] at hcl
                  obtain ⟨e, w2, fr, ⟨rfl, hb⟩, h1, h2, h3⟩ := hcl cs
                  exact ⟨_, w2, ⟨fr, h1, h2, h3⟩, .string _, Tr.of_below hr hb⟩
                cases hx with
                | slice _ _ _ _ en hen _ _ => exact key en hen
                | sliceOpen => exact absurd hop (by decide)
                | sliceEnd => exact absurd hop (by decide)
              · cases h
            · cases h
          · cases h
        · cases h
end Go.Proofs.YtigknpfjhegkgaaGreatDoor
