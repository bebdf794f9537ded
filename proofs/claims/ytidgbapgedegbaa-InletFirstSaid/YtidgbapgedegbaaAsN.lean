import Derived.Test.YtidgbapgedegbaaAsM
namespace Go.AS
open Go
set_option linter.unusedSimpArgs false
set_option linter.unusedVariables false

section
variable {C : Comp} {ρ : Ren} {A : AHeap} {w : World} {P : Program} {e : Env} {cev : Operand → Value}

theorem run_newRow {el : TypeId} {cs : Array Value} : (newRow el cs).run P w = .ok ⟨w.heap.size, 0, none⟩ { w with heap := w.heap.push (.cells cs el) } := by
  simp only [newRow, newObj, run_bind, Sem.run, run_pure]

theorem heap_push_new {h : Array Obj} {o : Obj} : (h.push o)[h.size]? = some o := by simp

/-- A new block of plain cells. -/
theorem Tr.cells {w' : World} {vs : List Value} {cc : Array Value} {el : TypeId} (h : HRel C ρ A w.heap) (hfree : ρ A.size = none) (hv : VRs ρ vs cc.toList)
    (hh : w'.heap = w.heap.push (.cells cc el)) (ho : w'.os = w.os) (ht : w'.tape = w.tape) (hp : w'.output = w.output) :
    Tr C ρ A w (Ren.upd ρ A.size ⟨w.heap.size, 0, 0, 0⟩) (A.alloc (.cells vs false 0)) w' := by
  refine Tr.alloc (e := ⟨w.heap.size, 0, 0, 0⟩) h hfree rfl hh ?_ ho ht hp
  refine ⟨cc, el, 0, 0, by rw [hh]; exact heap_push_new, by have := hv.length; simp at this ⊢; omega, fun i v hi => ?_, fun _ i _ _ => by omega, fun h0 => absurd rfl h0⟩
  obtain ⟨v', h1, h2⟩ := hv.get hi
  exact ⟨v', by simpa using h1, h2.mono (Ren.le_upd hfree)⟩

/-- A new block with room behind. -/
theorem Tr.openCells {w' : World} {vs : List Value} {vs' : List Value} {cc : Array Value} {el : TypeId} {lo hi room size : Nat} (h : HRel C ρ A w.heap) (hfree : ρ A.size = none) (hv : VRs ρ vs vs')
    (hcc : cc.toList.take vs'.length = vs') (hsz : cc.size = room * size) (hsize : size ≠ 0) (hfr : ∀ i, i < cc.size → ¬ (lo ≤ i ∧ i < hi))
    (hh : w'.heap = w.heap.push (.cells cc el (lo, hi))) (ho : w'.os = w.os) (ht : w'.tape = w.tape) (hp : w'.output = w.output) :
    Tr C ρ A w (Ren.upd ρ A.size ⟨w.heap.size, 0, room, size⟩) (A.alloc (.cells vs false size)) w' := by
  refine Tr.alloc (e := ⟨w.heap.size, 0, room, size⟩) h hfree rfl hh ?_ ho ht hp
  have hle : vs'.length ≤ cc.toList.length := by
    have := congrArg List.length hcc
    simp at this; simp; omega
  refine ⟨cc, el, lo, hi, by rw [hh]; exact heap_push_new, by have := hv.length; simp at hle ⊢; omega, fun i v hi => ?_, fun _ i _ hi => hfr i hi, fun _ => ⟨by have := hv.length; simp at hle ⊢; omega, by simp; omega, rfl, rfl⟩⟩
  obtain ⟨v', h1, h2⟩ := hv.get hi
  refine ⟨v', ?_, h2.mono (Ren.le_upd hfree)⟩
  have hlt : i < vs'.length := by
    rcases Nat.lt_or_ge i vs'.length with q | q
    · exact q
    · rw [List.getElem?_eq_none q] at h1; cases h1
  rw [← hcc, List.getElem?_take_of_lt hlt] at h1
  simpa using h1

theorem VR.oneCell {v v' : Value} (h : VR ρ v v') (h1 : AS.oneCell v = true) : AS.oneCell v' = true := by
  cases h <;> first | rfl | exact h1

/-- Cells of a block written. -/
theorem wrCells_sound (h : HRel C ρ A w.heap) {A' : AHeap} {b o : Nat} {en : REnt} {vs vs' : List Value} (hw : wrCells A b o vs = some A') (he : ρ b = some en) (hv : VRs ρ vs vs') :
    ∃ w', (storeCells ⟨en.cb, en.base + o, none⟩ vs' 0).run P w = .ok () w' ∧ Tr C ρ A w ρ A' w' := by
  unfold wrCells at hw
  split at hw
  · rename_i cs opn hb
    split at hw
    · rename_i hk
      simp only [Bool.and_eq_true, decide_eq_true_eq] at hk
      obtain ⟨hle, hone⟩ := hk
      cases hw
      obtain ⟨cc, el, lo, hi, hh, hsz, hc, hfr, hop⟩ := cells_of h he hb
      have hlen := hv.length
      have hone' : ∀ v ∈ vs', oneCell v = true := by
        intro v hvm
        obtain ⟨i, hi⟩ := List.getElem?_of_mem hvm
        have hlt : i < vs.length := by
          rcases Nat.lt_or_ge i vs.length with q | q
          · exact q
          · rw [List.getElem?_eq_none (by omega)] at hi; cases hi
        obtain ⟨v2, h1, h2⟩ := hv.get (List.getElem?_eq_getElem hlt)
        rw [hi] at h1; cases h1
        have := List.all_eq_true.1 hone _ (List.getElem_mem hlt)
        exact h2.oneCell this
      obtain ⟨w', hr, hw'⟩ := run_storeCells (P := P) en.cb el lo hi vs' w cc (en.base + o) 0 hh hone' (by omega) (fun j h1 h2 => hfr rfl j (by omega) (by omega))
      refine ⟨w', hr, ?_⟩
      have hlt : en.cb < w.heap.size := by
        rcases Nat.lt_or_ge en.cb w.heap.size with q | q
        · exact q
        · rw [Array.getElem?_eq_none q] at hh; cases hh
      refine Tr.upd h he hb (fun hp => hp) (.inr (fun hp => hp)) (by rw [hw']; simp) (fun cb hcb => by rw [hw']; simp [Array.getElem?_setIfInBounds, Ne.symm hcb]) ?_ (by rw [hw']) (by rw [hw']) (by rw [hw'])
      refine ⟨⟨lay cc.toList (en.base + o + 0) vs'⟩, el, lo, hi, ?_, ?_, ?_, ?_, ?_⟩
      · rw [hw']; simp [Array.getElem?_setIfInBounds, hlt]
      · simp [lay_length]; exact hsz
      · intro i v hi2
        rw [lay_get _ _ _ _ hle] at hi2
        have e1 : (⟨lay cc.toList (en.base + o + 0) vs'⟩ : Array Value)[en.base + i]? = (lay cc.toList (en.base + o) vs')[en.base + i]? := by simp
        rw [e1, lay_get _ _ _ _ (by simp; omega)]
        by_cases hio : o ≤ i ∧ i < o + vs.length
        · rw [if_pos hio] at hi2
          rw [if_pos (by omega)]
          rw [show en.base + i - (en.base + o) = i - o by omega]
          exact hv.get hi2
        · rw [if_neg hio] at hi2
          rw [if_neg (by omega)]
          obtain ⟨v', h1, h2⟩ := hc i v hi2
          exact ⟨v', by simpa using h1, h2⟩
      · intro hro i h1 h2
        simp [lay_length] at h2
        exact hfr hro i h1 h2
      · intro h0
        obtain ⟨h0', h1, h2, h3⟩ := hop h0
        exact ⟨by rw [lay_length]; exact h0', by simp only [List.size_toArray, lay_length, Array.length_toList]; exact h1, h2, h3⟩
    · cases hw
  · cases hw

theorem rep_length (n : Nat) (z : List Value) : (rep n z).length = n * z.length := by
  induction n with
  | zero => simp [rep]
  | succ n ih => simp [rep, ih, Nat.succ_mul]; omega

theorem rep_get (n : Nat) (z : List Value) : ∀ i, i < n * z.length → (rep n z)[i]? = z[i % z.length]? := by
  induction n with
  | zero => intro i h; simp at h
  | succ n ih =>
    intro i h
    have hz : 0 < z.length := by
      rcases Nat.eq_zero_or_pos z.length with q | q
      · rw [q] at h; simp at h
      · exact q
    simp only [rep]
    by_cases hi : i < z.length
    · rw [List.getElem?_append_left hi, Nat.mod_eq_of_lt hi]
    · rw [List.getElem?_append_right (by omega), ih _ (by rw [Nat.succ_mul] at h; omega)]
      congr 1
      exact (Nat.mod_eq_sub_mod (by omega)).symm

theorem rep_range (n : Nat) (z : Array Value) : ((Array.range (n * z.size)).map (z[· % z.size]!)).toList = rep n z.toList := by
  apply List.ext_getElem?
  intro i
  by_cases hi : i < n * z.size
  · rw [rep_get _ _ _ (by simpa using hi)]
    have hz : 0 < z.size := by
      rcases Nat.eq_zero_or_pos z.size with q | q
      · rw [q] at hi; simp at hi
      · exact q
    have hm : i % z.size < z.size := Nat.mod_lt _ hz
    simp [hi, hm]
  · rw [List.getElem?_eq_none (by simp; omega), List.getElem?_eq_none (by rw [rep_length]; simp; omega)]

theorem VRs.rep {z z' : List Value} (h : VRs ρ z z') (n : Nat) : VRs ρ (rep n z) (rep n z') := by
  induction n with
  | zero => exact .nil
  | succ n ih => exact h.append ih

end
end Go.AS
