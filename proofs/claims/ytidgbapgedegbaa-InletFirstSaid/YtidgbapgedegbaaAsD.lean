import Derived.Test.YtidgbapgedegbaaAsC
import Derived.Laws.Strings
namespace Go.AS
open Go
set_option linter.unusedSimpArgs false
set_option linter.unusedVariables false

/-! ## What the machine's operations do to memory, said of ours -/
section
variable {C : Comp} {ρ : Ren} {A : AHeap} {w : World} {P : Program}

theorem cells_of (h : HRel C ρ A w.heap) {b : Nat} {e : REnt} {cs : List Value} {ro : Bool} {opn : Nat} (he : ρ b = some e) (hb : A.get b = some (.cells cs ro opn)) :
    ∃ cc el lo hi, w.heap[e.cb]? = some (.cells cc el (lo, hi)) ∧ e.base + cs.length ≤ cc.size ∧
      (∀ (i : Nat) (v : Value), cs[i]? = some v → ∃ v', cc[e.base + i]? = some v' ∧ VR ρ v v') ∧
      (ro = false → ∀ i, e.base ≤ i → i < cc.size → ¬ (lo ≤ i ∧ i < hi)) ∧
      (opn ≠ 0 → cs.length ≤ e.room * e.esz ∧ e.base + e.room * e.esz ≤ cc.size ∧ e.esz = opn ∧ ro = false) := h.blk b e _ he hb

theorem cell?_of {cc : Array Value} {el : TypeId} {lo hi cb off : Nat} (h : w.heap[cb]? = some (.cells cc el (lo, hi))) : w.cell? ⟨cb, off, none⟩ = cc[off]? := by
  simp [World.cell?, h]

theorem rd_cell (h : HRel C ρ A w.heap) {b o : Nat} {e : REnt} {v : Value} (he : ρ b = some e) (hv : rdCell A b o = some v) :
    ∃ v', w.cell? ⟨e.cb, e.base + o, none⟩ = some v' ∧ VR ρ v v' := by
  unfold rdCell at hv
  split at hv
  · rename_i cs ro opn hb
    obtain ⟨cc, el, lo, hi, hh, _, hc, _⟩ := cells_of h he hb
    obtain ⟨v', h1, h2⟩ := hc o v hv
    exact ⟨v', by rw [cell?_of hh]; exact h1, h2⟩
  · cases hv

theorem run_load {a : Addr} {v : Value} (h : w.cell? a = some v) : (Go.load a).run P w = .ok v w := by
  simp [Go.load, Sem.run, h]

theorem run_bind {α β : Type} (s : Sem α) (f : α → Sem β) : (s >>= f).run P w = match s.run P w with | .ok a w' => (f a).run P w' | .halt h w' => .halt h w' := by
  show (Sem.bind s f).run P w = _
  induction s generalizing w with
  | pure a => simp [Sem.bind, Sem.run]
  | load m a k ih => simp only [Sem.bind, Sem.run]; (repeat' split) <;> simp_all
  | store m a v k ih =>
    cases v <;> simp only [Sem.bind, Sem.run] <;> (try ((repeat' split) <;> simp_all))
  | new o k ih => simp [Sem.bind, Sem.run, ih]
  | shape r k ih => simp [Sem.bind, Sem.run, ih]
  | freeze a n k ih => simp [Sem.bind, Sem.run, ih]
  | frozen a k ih => simp [Sem.bind, Sem.run, ih]
  | getObj r k ih => simp only [Sem.bind, Sem.run]; split <;> simp_all
  | setObj r o k ih => simp only [Sem.bind, Sem.run]; split <;> simp_all
  | choose q k ih => simp only [Sem.bind, Sem.run]; split <;> simp_all
  | sys c k ih => simp [Sem.bind, Sem.run, ih]
  | program k ih => simp [Sem.bind, Sem.run, ih]
  | mark m k ih => simp [Sem.bind, Sem.run, ih]
  | halt h => simp [Sem.bind, Sem.run]

theorem run_pure {α : Type} (a : α) : (pure a : Sem α).run P w = .ok a w := rfl

theorem add_plain (cb o n : Nat) : Addr.add ⟨cb, o, none⟩ n = ⟨cb, o + n, none⟩ := by
  unfold Addr.add; split
  · next h => subst h; rfl
  · rfl

/-- A row of loads. -/
theorem run_loadCellsFrom (cb o : Nat) (vs : List Value) : ∀ (i : Nat) (acc : Array Value), (∀ j v, vs[j]? = some v → w.cell? ⟨cb, o + i + j, none⟩ = some v) →
    (loadCellsFrom ⟨cb, o, none⟩ i vs.length acc).run P w = .ok (acc ++ vs.toArray) w := by
  induction vs with
  | nil => intro i acc _; simp [loadCellsFrom, run_pure]
  | cons v vs ih =>
    intro i acc h
    simp only [List.length_cons, loadCellsFrom, run_bind, add_plain]
    have h0 := h 0 v rfl
    simp only [Nat.add_zero] at h0
    rw [run_load h0]
    simp only
    rw [ih (i + 1) (acc.push v) (fun j u hu => by have := h (j + 1) u (by simpa using hu); rw [← this]; congr 2; omega)]
    simp

theorem run_loadCells {cb o n : Nat} {vs : List Value} (hn : vs.length = n) (h : ∀ j v, vs[j]? = some v → w.cell? ⟨cb, o + j, none⟩ = some v) :
    (loadCells ⟨cb, o, none⟩ n).run P w = .ok vs.toArray w := by
  subst hn
  unfold loadCells
  rw [run_loadCellsFrom cb o vs 0 #[] (fun j v hv => by simpa using h j v hv)]
  simp

theorem rd_cells (h : HRel C ρ A w.heap) {b o n : Nat} {e : REnt} {vs : List Value} (he : ρ b = some e) (hv : rdCells A b o n = some vs) :
    ∃ vs', VRs ρ vs vs' ∧ vs'.length = n ∧ ∀ j v, vs'[j]? = some v → w.cell? ⟨e.cb, e.base + o + j, none⟩ = some v := by
  unfold rdCells at hv
  split at hv
  · rename_i cs ro opn hb
    split at hv
    · rename_i hle
      cases hv
      obtain ⟨cc, el, lo, hi, hh, hsz, hc, _⟩ := cells_of h he hb
      refine ⟨(cc.toList.drop (e.base + o)).take n, ?_, ?_, ?_⟩
      · refine VRs.of_get (by simp; omega) ?_
        intro i v v' h1 h2
        rw [List.getElem?_take] at h1 h2
        split at h1
        · rename_i hi
          rw [if_pos hi] at h2
          rw [List.getElem?_drop] at h1 h2
          obtain ⟨u, hu1, hu2⟩ := hc (o + i) v h1
          rw [Array.getElem?_toList] at h2
          rw [show e.base + o + i = e.base + (o + i) by omega, hu1] at h2
          cases h2; exact hu2
        · cases h1
      · simp; omega
      · intro j v hj
        rw [List.getElem?_take] at hj
        split at hj
        · rw [List.getElem?_drop, Array.getElem?_toList] at hj
          rw [cell?_of hh]; exact hj
        · cases hj
    · cases hv
  · cases hv

theorem run_loadN (h : HRel C ρ A w.heap) {b o n : Nat} {e : REnt} {vs : List Value} (he : ρ b = some e) (hv : rdCells A b o n = some vs) :
    ∃ vs', VRs ρ vs vs' ∧ (loadCells ⟨e.cb, e.base + o, none⟩ n).run P w = .ok vs'.toArray w := by
  obtain ⟨vs', h1, h2, h3⟩ := rd_cells h he hv
  exact ⟨vs', h1, run_loadCells h2 h3⟩

/-! Writing. -/
theorem size_setCell (w : World) (a : Addr) (v : Value) : (w.setCell a v).heap.size = w.heap.size := by simp [World.setCell]

theorem lay_length (vs : List Value) : ∀ (cs : List Value) (o : Nat), (lay cs o vs).length = cs.length := by
  induction vs with
  | nil => intro cs o; rfl
  | cons v vs ih => intro cs o; simp [lay, ih]

theorem lay_get (vs : List Value) : ∀ (cs : List Value) (o i : Nat), o + vs.length ≤ cs.length → (lay cs o vs)[i]? = if o ≤ i ∧ i < o + vs.length then vs[i - o]? else cs[i]? := by
  induction vs with
  | nil => intro cs o i _; simp [lay]; intro h1 h2; omega
  | cons v vs ih =>
    intro cs o i h
    simp only [List.length_cons] at h
    simp only [lay]
    rw [ih _ _ _ (by simp; omega)]
    by_cases h1 : o + 1 ≤ i ∧ i < o + 1 + vs.length
    · rw [if_pos h1, if_pos (by simp; omega)]
      rw [show i - o = (i - (o + 1)) + 1 by omega]; simp
    · rw [if_neg h1, List.getElem?_set]
      by_cases h2 : o = i
      · subst h2; rw [if_pos rfl, if_pos (by omega), if_pos (by simp)]; simp
      · rw [if_neg h2, if_neg (by simp; omega)]

/-- The machine's memory with a row of values laid over some cells of one block. -/
theorem run_storeCells (cb : Nat) (el : TypeId) (lo hi : Nat) (vs : List Value) : ∀ (w : World) (cc : Array Value) (o i : Nat), w.heap[cb]? = some (.cells cc el (lo, hi)) →
    (∀ v ∈ vs, oneCell v = true) → o + i + vs.length ≤ cc.size → (∀ j, o + i ≤ j → j < o + i + vs.length → ¬ (lo ≤ j ∧ j < hi)) →
    ∃ w', (storeCells ⟨cb, o, none⟩ vs i).run P w = .ok () w' ∧ w' = { w with heap := w.heap.setIfInBounds cb (.cells ⟨lay cc.toList (o + i) vs⟩ el (lo, hi)) } := by
  induction vs with
  | nil =>
    intro w cc o i hh _ _ _
    refine ⟨w, by simp [storeCells, run_pure], ?_⟩
    have hlt : cb < w.heap.size := by
      rcases Nat.lt_or_ge cb w.heap.size with h | h
      · exact h
      · rw [Array.getElem?_eq_none h] at hh; cases hh
    have he : w.heap[cb] = .cells cc el (lo, hi) := by rw [Array.getElem?_eq_getElem hlt] at hh; exact Option.some.inj hh
    have : w.heap.setIfInBounds cb (.cells ⟨lay cc.toList (o + i) []⟩ el (lo, hi)) = w.heap := by
      apply Array.ext (by simp)
      intro j h1 h2
      rw [Array.getElem_setIfInBounds]
      split
      · next e => subst e; rw [he]; rfl
      · rfl
    rw [this]
  | cons v vs ih =>
    intro w cc o i hh hone hsz hfr
    simp only [List.length_cons] at hsz hfr
    have hlt : cb < w.heap.size := by
      rcases Nat.lt_or_ge cb w.heap.size with h | h
      · exact h
      · rw [Array.getElem?_eq_none h] at hh; cases hh
    have hcell : ∃ u, w.cell? ⟨cb, o + i, none⟩ = some u := by
      rw [cell?_of hh]; exact ⟨_, Array.getElem?_eq_getElem (by omega)⟩
    obtain ⟨u, hu⟩ := hcell
    have hf : w.frozen? ⟨cb, o + i, none⟩ = false := by
      simp only [World.frozen?, hh]
      have := hfr (o + i) (by omega) (by omega)
      simp; omega
    have hset : (w.setCell ⟨cb, o + i, none⟩ v).heap[cb]? = some (.cells (cc.setIfInBounds (o + i) v) el (lo, hi)) := by
      have he : w.heap[cb] = .cells cc el (lo, hi) := by rw [Array.getElem?_eq_getElem hlt] at hh; exact Option.some.inj hh
      simp [World.setCell, Array.getElem?_modify, hh, he]
    have hst : (Go.store ⟨cb, o + i, none⟩ v).run P w = .ok () (w.setCell ⟨cb, o + i, none⟩ v) := by
      have h1 := hone v (by simp)
      cases v <;> simp [oneCell] at h1 <;> simp [Go.store, Sem.run, hu, hf]
    obtain ⟨w', hr, hw⟩ := ih (w.setCell ⟨cb, o + i, none⟩ v) (cc.setIfInBounds (o + i) v) o (i + 1) hset (fun x hx => hone x (by simp [hx])) (by simp; omega) (fun j h1 h2 => hfr j (by omega) (by omega))
    refine ⟨w', ?_, ?_⟩
    · simp only [storeCells, run_bind, add_plain, hst]; exact hr
    · rw [hw]
      have : (w.setCell ⟨cb, o + i, none⟩ v).heap.setIfInBounds cb (.cells ⟨lay (cc.setIfInBounds (o + i) v).toList (o + (i + 1)) vs⟩ el (lo, hi)) = w.heap.setIfInBounds cb (.cells ⟨lay cc.toList (o + i) (v :: vs)⟩ el (lo, hi)) := by
        apply Array.ext_getElem?
        intro j
        rw [Array.getElem?_setIfInBounds, Array.getElem?_setIfInBounds]
        by_cases e : cb = j
        · subst e; rw [if_pos rfl, if_pos rfl, if_pos (by rw [size_setCell]; exact hlt), if_pos hlt]
          simp [lay]; congr 1
        · rw [if_neg e, if_neg e]; simp [World.setCell, Array.getElem?_modify, e]
      rw [← this]; rfl

end
end Go.AS
