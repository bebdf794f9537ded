/- errors.As as a known function. -/
import Derived.Test.YtcfahggmejpdbaaDoorM3
import Derived.Test.YtcfahggmejpdbaaDoorEf
namespace Go.Proofs.YtcfahggmejpdbaaDoor
open Go Go.AS
set_option maxRecDepth 100000
set_option linter.unusedVariables false

theorem errT_cell {P : Program} {ρ : Ren} {A : AHeap} {w : World} {tt te : Nat} (hr : HRel (CompOf P) ρ A w.heap) (h : errT tt te (A.get 0) = true) : w.cell? ⟨0, 0, none⟩ = some (.iface tt (.agg #[.pointer (some ⟨1, te, none⟩)])) := by
  unfold errT at h
  split at h
  · rename_i t e opn hA
    have hte := of_decide_eq_true h
    obtain ⟨rfl, rfl⟩ := hte
    obtain ⟨cc, el, lo, hi, h1, h2, h3, _⟩ := hr.blk 0 _ _ (hr.glob 0 (show (0 : Nat) < 8 by decide)) hA
    obtain ⟨v', q1, q2⟩ := h3 0 _ rfl
    cases q2 with
    | iface _ _ v2 q3 =>
      cases q3 with
      | agg _ cs' q4 =>
        cases q4 with
        | cons _ u _ l' q5 q6 =>
          cases q6
          cases q5 with
          | ptr _ _ en q7 =>
            rw [hr.glob 1 (show (1 : Nat) < 8 by decide)] at q7
            cases q7
            unfold World.cell?
            simp only at h1 q1 ⊢
            simp only [h1]
            simpa using q1
  · cases h

theorem vr_one {ρ : Ren} {u u' : Value} (h : VR ρ u u') (ho : oneCell u = true) : u'.oneCell' = true := by
  cases h <;> first | rfl | cases ho

/-- One cell written, behind blocks of the machine's own. -/
theorem wr_one {P : Program} {ρ : Ren} {A A' : AHeap} {w W : World} {b o : Nat} {en : REnt} {u u' old : Value} (T : Tr (CompOf P) ρ A w ρ A W) (hw : wrCells A b o [u] = some A') (he : ρ b = some en) (hu : VR ρ u u')
    (hc : W.cell? ⟨en.cb, en.base + o, none⟩ = some old) (hf : W.frozen? ⟨en.cb, en.base + o, none⟩ = false) (ho : u'.oneCell' = true) : Tr (CompOf P) ρ A w ρ A' (W.setCell ⟨en.cb, en.base + o, none⟩ u') := by
  obtain ⟨w', r1, r2⟩ := wrCells_sound T.rel hw he (.cons u u' [] [] hu .nil) (P := P)
  have : w' = W.setCell ⟨en.cb, en.base + o, none⟩ u' := by
    simp [storeCells, Addr.add] at r1
    rw [run_store P W _ _ _ ho] at r1
    simp [hc, hf] at r1
    exact r1.symm
  subst this
  exact T.trans r2

theorem specA0_inv {tt te t0 p0 n0 t1 p1 : Nat} {x y v : Value} {A A' : AHeap} (h : specA 0 [tt, te, t0, p0, n0, t1, p1] x y A = some (v, A')) :
    (x = .nilIface ∧ v = .bool false ∧ A' = A) ∨
    (errT tt te (A.get 0) = true ∧ v = .bool true ∧ ∃ b o u, y = .iface p0 (.pointer (some ⟨b, o, none⟩)) ∧ n0 = 1 ∧ x = .iface t0 (.agg ⟨[u]⟩) ∧ wrCells A b o [u] = some A') ∨
    (errT tt te (A.get 0) = true ∧ v = .bool true ∧ ∃ b o k n, y = .iface p0 (.pointer (some ⟨b, o, none⟩)) ∧ n0 = 0 ∧ x = .iface t0 (.int k n) ∧ wrCells A b o [.int k n] = some A') ∨
    (errT tt te (A.get 0) = true ∧ v = .bool true ∧ ∃ b o b1 o1, y = .iface p1 (.pointer (some ⟨b, o, none⟩)) ∧ x = .iface t1 (.agg ⟨[.pointer (some ⟨b1, o1, none⟩)]⟩) ∧ wrCells A b o [.pointer (some ⟨b1, o1, none⟩)] = some A') := by
  have mp : ∀ r : Option AHeap, (r.map fun A2 => (Value.bool true, A2)) = some (v, A') → v = .bool true ∧ r = some A' := by
    intro r hr
    cases r with
    | none => cases hr
    | some A2 => cases hr; exact ⟨rfl, rfl⟩
  unfold specA at h
  split at h
  · cases h; exact .inl ⟨rfl, rfl, rfl⟩
  · simp only at h
    split at h
    · rename_i hE
      split at h
      · rename_i hc
        obtain ⟨rfl, rfl⟩ := hc
        split at h
        · obtain ⟨h1, h2⟩ := mp _ h
          exact .inr (.inl ⟨hE, h1, _, _, _, rfl, rfl, rfl, h2⟩)
        · obtain ⟨h1, h2⟩ := mp _ h
          exact .inr (.inr (.inl ⟨hE, h1, _, _, _, _, rfl, rfl, rfl, h2⟩))
        · cases h
      · split at h
        · rename_i hc
          obtain ⟨rfl, rfl⟩ := hc
          split at h
          · obtain ⟨h1, h2⟩ := mp _ h
            exact .inr (.inr (.inr ⟨hE, h1, _, _, _, _, rfl, rfl, h2⟩))
          · cases h
        · cases h
    · cases h
  · simp at h
  · cases h

theorem cell_old {w : World} {a : Addr} {c : Value} (o : Obj) (h : w.cell? a = some c) : (w.alloc o).cell? a = some c := by
  have hl : a.block < w.heap.size := by
    rcases Nat.lt_or_ge a.block w.heap.size with q | q
    · exact q
    · simp [World.cell?, Array.getElem?_eq_none q] at h
  rw [World.cell?_alloc_lt _ _ a hl]; exact h
theorem frozen_old {w : World} {a : Addr} {c : Value} (o : Obj) (h : w.cell? a = some c) (hf : w.frozen? a = false) : (w.alloc o).frozen? a = false := by
  have hl : a.block < w.heap.size := by
    rcases Nat.lt_or_ge a.block w.heap.size with q | q
    · exact q
    · simp [World.cell?, Array.getElem?_eq_none q] at h
  rw [World.frozen?_alloc_old _ _ a (Nat.ne_of_lt hl)]; exact hf
theorem grow {P : Program} {ρ : Ren} {A : AHeap} {w W : World} (T : Tr (CompOf P) ρ A w ρ A W) (o : Obj) : Tr (CompOf P) ρ A w ρ A (W.alloc o) := T.trans (Tr.grow (o := o) T.rel rfl rfl rfl rfl)

theorem as_spec : SpecOk Tryd.prog 28 0 [101, 41, 70, 72, 1, 70, 80] true := by
  intro x y v A A' _ h ρ w cas hv hr hfree
  rw [if_pos rfl] at hv
  cases hv with
  | cons _ cx _ r hx hv =>
    cases hv with
    | cons _ cy _ r hy hv =>
      cases hv
      rcases specA0_inv h with ⟨rfl, rfl, rfl⟩ | ⟨hE, rfl, b, o, u, rfl, _, rfl, hw⟩ | ⟨_, _, _, _, _, _, _, q, _⟩ | ⟨hE, rfl, b, o, b1, o1, rfl, rfl, hw⟩
      · cases hx
        exact ⟨_, w, calls_fn (as_nil cy w), .bool false, Tr.refl hr⟩
      · have hg := errT_cell hr hE
        cases hy with
        | iface _ _ _ hy => cases hy with
          | ptr _ _ en hen => cases hx with
            | iface _ _ vx hx => cases hx with
              | agg _ cs' hx => cases hx with
                | cons _ u' _ _ hu hx =>
                  cases hx
                  obtain ⟨old, c1, c2, c3⟩ := wr_cell hr hw hen
                  have ho := vr_one hu c3
                  exact ⟨_, _, calls_fn (as_hit u' _ old w ho hg c1 c2), .bool true, wr_one (old := old) (grow (grow (grow (grow (Tr.refl hr) _) _) _) _) hw hen hu (cell_old _ (cell_old _ (cell_old _ (cell_old _ c1)))) (frozen_old _ (cell_old _ (cell_old _ (cell_old _ c1))) (frozen_old _ (cell_old _ (cell_old _ c1)) (frozen_old _ (cell_old _ c1) (frozen_old _ c1 c2)))) ho⟩
      · cases q
      · have hg := errT_cell hr hE
        cases hy with
        | iface _ _ _ hy => cases hy with
          | ptr _ _ en hen => cases hx with
            | iface _ _ vx hx => cases hx with
              | agg _ cs' hx => cases hx with
                | cons _ u' _ _ hu hx =>
                  cases hx
                  cases hu with
                  | ptr _ _ e1 he1 =>
                    obtain ⟨old, c1, c2, c3⟩ := wr_cell hr hw hen
                    exact ⟨_, _, calls_fn (as_wrap _ _ old w hg c1 c2), .bool true, wr_one (old := old) (grow (grow (grow (grow (grow (Tr.refl hr) _) _) _) _) _) hw hen (.ptr _ _ e1 he1) (cell_old _ (cell_old _ (cell_old _ (cell_old _ (cell_old _ c1))))) (frozen_old _ (cell_old _ (cell_old _ (cell_old _ (cell_old _ c1)))) (frozen_old _ (cell_old _ (cell_old _ (cell_old _ c1))) (frozen_old _ (cell_old _ (cell_old _ c1)) (frozen_old _ (cell_old _ c1) (frozen_old _ c1 c2))))) rfl⟩
end Go.Proofs.YtcfahggmejpdbaaDoor
