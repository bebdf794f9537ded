/- FlowCarries: what befalls a line. -/
import Derived.Test.YtidgbapgedegbaaCb
import Derived.KernelRfl
namespace Go.Proofs.Ytidgbapgedegbaa.Fw
open Go Go.AS Ou
set_option maxRecDepth 100000
set_option linter.unusedSimpArgs false
set_option linter.unusedVariables false
attribute [local irreducible] Trie.set Trie.get Env.rd
attribute [local simp] Nat.add_assoc wD_cons'' wD_nil' wC_seq wC_ops wC_opsD_nil wC_cond wC_skip wC_ret wC_exit wC_block wO_cons' wO_nil wantedA wV_eq lop qop ev wL_some wL_none wPut envOf rd_set rd_leaf eqA thenC blockC wB_true wB_false endF unwindA resultsA resA tupleA rdCell rdCells wrCells cl fillP lay rep binA unA get_set' AHeap.get_alloc oneCell beqd bned idxA

theorem Chain.mem {q : Pc} : ∀ (ps : List Pc) (s : Nat) (l : List UInt8), Chain s ps l → q ∈ ps → ∃ k : Nat, q.at_ = ((s + k : Nat) : Int) ∧ k + q.text.data.toList.length ≤ l.length ∧ q.text.data.toList = (l.drop k).take q.text.data.toList.length
  | p :: ps, s, l, h, hq => by
    obtain ⟨h1, h2, r, h3, h4⟩ := h
    rcases List.mem_cons.1 hq with e | e
    · subst e
      refine ⟨0, h1, by rw [h3, List.length_append]; omega, ?_⟩
      rw [h3, List.drop_zero, List.take_left' rfl]
    · obtain ⟨k, k1, k2, k3⟩ := Chain.mem ps _ r h4 e
      refine ⟨p.text.data.toList.length + k, by rw [k1]; omega, by rw [h3, List.length_append]; omega, ?_⟩
      rw [h3, ← List.drop_drop, List.drop_left' rfl]
      exact k3
def lens (ps : List Pc) : List Nat := ps.map fun q => q.text.data.toList.length
theorem Chain.sum : ∀ (ps : List Pc) (s : Nat) (l : List UInt8), Chain s ps l → (lens ps).sum = l.length
  | [], _, _, h => by
    have : _ = [] := h
    subst this; rfl
  | p :: ps, s, l, h => by
    obtain ⟨h1, h2, r, h3, h4⟩ := h
    have := Chain.sum ps _ r h4
    simp only [lens, List.map_cons, List.sum_cons] at this ⊢
    rw [this, h3, List.length_append]

section
variable {room : Nat} {L : Ln}
theorem LnOk.push (h : LnOk room L) {s : List UInt8} (hs : s ≠ []) (h40 : s.length ≤ 40) (hp : L.pu.length + s.length < 100000) (hf : L.tg + L.ps.length + 1 < 1000) :
    LnOk room { L with ps := L.ps ++ [⟨L.pu.length, ((L.tg + L.ps.length : Nat) : Int), ⟨⟨s⟩⟩⟩], pu := L.pu ++ s } := by
  obtain ⟨P0, P1, c1, c2, c3⟩ := h.ch
  have cl : L.pu.length = P0.length + P1.length := by rw [c1, List.length_append]
  have hu := h.un; have hb := h.bl
  have sl : 0 < s.length := List.length_pos_iff.2 hs
  have hal : (L.pu ++ s).length = L.pu.length + s.length := List.length_append
  refine { h with pl := by rw [hal]; exact hp, pre := by rw [List.take_append_of_le_length hb]; exact h.pre, bl := by simp only [hal]; omega, ch := ⟨P0, P1 ++ s, by rw [c1, List.append_assoc], ?_, c3⟩, ne := fun _ => by simp only [hal]; omega, sm := fun q hq => ?_, tags := fun i hi => ?_, few := by simp only [List.length_append, List.length_cons, List.length_nil]; omega, bytes := fun j c hj => ?_, there := fun x hx => (h.there x hx).app }
  · have := Chain.snoc s hs ((L.tg + L.ps.length : Nat) : Int) L.ps P0.length P1 c2
    rw [← cl] at this; exact this
  · rcases List.mem_append.1 hq with q1 | q1
    · exact h.sm q q1
    · rw [List.mem_singleton] at q1; subst q1; exact h40
  · simp only [List.length_append, List.length_cons, List.length_nil] at hi
    simp only
    by_cases c : i < L.ps.length
    · rw [List.getElem_append_left c]; exact h.tags i c
    · rw [List.getElem_append_right (by omega)]; simp; omega
  · obtain ⟨b1, b2, b3⟩ := h.bytes j c hj
    refine ⟨b1, b2, ?_⟩
    have := (List.getElem?_eq_some_iff.1 b3).1
    rw [List.getElem?_append_left this]; exact b3
theorem LnOk.due (h : LnOk room L) : ∀ x ∈ L.ps.map (segP L.fa L.pu.length 0), ThOk L.fa.isn L.fb.isn L.pu x := by
  intro x hx
  obtain ⟨q, hq, e⟩ := List.mem_map.1 hx
  obtain ⟨P0, P1, c1, c2, c3⟩ := h.ch
  obtain ⟨k, k1, k2, k3⟩ := Chain.mem _ _ _ c2 hq
  have cl : L.pu.length = P0.length + P1.length := by rw [c1, List.length_append]
  have dt : x.data.data.toList = q.text.data.toList := by rw [← e]; rfl
  refine ⟨by rw [← e]; rfl, by rw [← e]; simp [segP, segOf, h.a4, h.pe2], by rw [← e]; rfl, by rw [dt]; exact h.sm q hq, P0.length + k, by rw [← e]; simp [segP, k1], by rw [dt]; omega, ?_⟩
  rw [dt, c1, ← List.drop_drop, List.drop_left' rfl]
  exact k3
theorem LnOk.ack (h : LnOk room L) : BkOk L.fa.isn L.tB.base (segOf L.fb 0 L.tB.base false true) :=
  ⟨rfl, rfl, rfl, L.tB.base, by simp [segOf, h.b1, h.pe], Nat.le_refl _⟩
theorem LnOk.got (h : LnOk room L) {l : List UInt8} (hl : Pre L.tB.f L.tB.base l) : LnOk room { L with to := L.to ++ l, tB := skipS L.tB (L.tB.base + l.length) } := by
  have hb := h.bl
  have get : ∀ (i : Nat) (hi : i < l.length), L.pu[L.tB.base + i]? = some l[i] := fun i hi => by
    have := (h.bytes _ _ (hl i hi)).2.2
    rwa [show ((L.tB.base : Int) + (i : Int)).toNat = L.tB.base + i by omega] at this
  have le : L.tB.base + l.length ≤ L.pu.length := by
    by_cases c : l.length = 0
    · omega
    · have := (List.getElem?_eq_some_iff.1 (get (l.length - 1) (by omega))).1
      omega
  have hto : L.to.length = L.tB.base := by rw [h.pre, List.length_take]; omega
  have eq : L.pu.take (L.tB.base + l.length) = L.to ++ l := by
    rw [List.take_add, ← h.pre]
    congr 1
    refine List.ext_getElem (by rw [List.length_take, List.length_drop]; omega) fun i i1 i2 => ?_
    rw [List.getElem_take, List.getElem_drop]
    exact Option.some.inj (((List.getElem?_eq_getElem (by omega)).symm).trans (get i i2))
  have hu := h.un
  refine { h with pre := by simp only [skipS]; exact eq.symm, bl := by simpa only [skipS] using le, un := by simp only [skipS]; omega, rm := by simpa only [skipS] using h.rm, bytes := fun j c hj => ?_, back := fun x hx => ?_ }
  · simp only [skipS, cutB] at hj ⊢
    split at hj
    · cases hj
    · rename_i q
      obtain ⟨b1, b2, b3⟩ := h.bytes j c hj
      exact ⟨by omega, by omega, b3⟩
  · obtain ⟨x1, x2, x3, m, x4, x5⟩ := h.back x hx
    exact ⟨x1, x2, x3, m, x4, by simp only [skipS]; omega⟩
theorem LnOk.dom (h : LnOk room L) : ∀ k b, L.tB.f k = some b → (L.tB.base : Int) ≤ k ∧ k < (L.tB.base : Int) + room := fun k b hb => ⟨(h.bytes k b hb).1, (h.bytes k b hb).2.1⟩
theorem LnOk.next (h : LnOk room L) : ∃ nx, NextIs L.tB.base L.tB.f nx ∧ nx ≤ L.tB.base + room := by
  obtain ⟨nx, h1, h2⟩ := nextis_ex L.tB.base room L.tB.f h.dom room L.tB.base (by omega) (Nat.le_refl _) (fun k k1 k2 => by omega)
  exact ⟨nx, h1, h1.le h.dom⟩
theorem put_next {base room n nx : Nat} {t : List UInt8} {f : Bytes} (h : NextIs base (putB room base n t f) nx) (hn : n ≤ base) (ht : t.length ≤ room) : n + t.length ≤ nx := by
  obtain ⟨h1, h2, h3⟩ := h
  by_cases c : n + t.length ≤ nx
  · exact c
  · exfalso
    unfold putB at h2
    cases hf : f nx with
    | some y => rw [hf] at h2; cases h2
    | none =>
      rw [hf] at h2
      simp only at h2
      rw [if_pos ⟨by omega, by omega, by omega⟩, List.getElem?_eq_none_iff] at h2
      omega
theorem LnOk.done (h : LnOk room L) (hp : L.ps = []) : L.to = L.pu := by
  obtain ⟨P0, P1, c1, c2, c3⟩ := h.ch
  rw [hp] at c2
  have : P1 = [] := c2
  subst this
  have hu := h.un; have hb := h.bl
  rw [List.append_nil] at c1
  rw [h.pre, List.take_of_length_le (by rw [c1] at hb ⊢; omega)]
theorem LnOk.to_len (h : LnOk room L) : L.to.length = L.tB.base := by have := h.bl; rw [h.pre, List.length_take]; omega
theorem LnOk.left (h : LnOk room L) : (lens L.ps).sum ≤ L.pu.length ∧ L.pu.length - (lens L.ps).sum ≤ L.tB.base := by
  obtain ⟨P0, P1, c1, c2, c3⟩ := h.ch
  have cl : L.pu.length = P0.length + P1.length := by rw [c1, List.length_append]
  have hu := h.un
  rw [Chain.sum _ _ _ c2]
  omega
end
end Go.Proofs.Ytidgbapgedegbaa.Fw
