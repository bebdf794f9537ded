/- FlowCarries: what holds of a line. -/
import Derived.Test.YtidgbapgedegbaaCa
import Derived.Test.YtidgbapgedegbaaEc
import Derived.KernelRfl
namespace Go.Proofs.Ytidgbapgedegbaa.Fw
open Go Go.AS Ou
set_option maxRecDepth 100000
set_option linter.unusedSimpArgs false
set_option linter.unusedVariables false
attribute [local irreducible] Trie.set Trie.get Env.rd
attribute [local simp] Nat.add_assoc wD_cons'' wD_nil' wC_seq wC_ops wC_opsD_nil wC_cond wC_skip wC_ret wC_exit wC_block wO_cons' wO_nil wantedA wV_eq lop qop ev wL_some wL_none wPut envOf rd_set rd_leaf eqA thenC blockC wB_true wB_false endF unwindA resultsA resA tupleA rdCell rdCells wrCells cl fillP lay rep binA unA get_set' AHeap.get_alloc oneCell beqd bned idxA

theorem Chain.cut (off : Int) : ∀ (ps : List Pc) (s : Nat) (l : List UInt8), Chain s ps l → s + l.length < 1000000000 → ∃ la lb, l = la ++ lb ∧ Chain (s + la.length) (ps.drop (taken off ps).length) lb ∧ (la = [] ∨ ((s + la.length : Nat) : Int) ≤ off) ∧ (ps.drop (taken off ps).length ≠ [] → off < ((s + l.length : Nat) : Int))
  | [], s, l, h, _ => by
    have : l = [] := h
    subst this
    exact ⟨[], [], rfl, rfl, .inl rfl, fun q => absurd rfl q⟩
  | q :: ps, s, l, h, hb => by
    obtain ⟨h1, h2, r, h3, h4⟩ := h
    have ll : l.length = q.text.data.toList.length + r.length := by rw [h3]; simp
    have sz : q.text.size = q.text.data.toList.length := rfl
    have hf : q.fin = ((s + q.text.data.toList.length : Nat) : Int) := by
      unfold Pc.fin
      rw [h1, sz, IntWalk.i64_in _ (by omega)]; omega
    by_cases c : q.fin ≤ off
    · have e : taken off (q :: ps) = q :: taken off ps := by unfold taken; rw [List.takeWhile_cons, if_pos (by simpa using c)]
      obtain ⟨la, lb, k1, k2, k3, k4⟩ := Chain.cut off ps _ r h4 (by omega)
      rw [e]
      refine ⟨q.text.data.toList ++ la, lb, by rw [h3, k1]; simp, ?_, .inr ?_, fun n => ?_⟩
      · rw [List.length_append, show s + (q.text.data.toList.length + la.length) = s + q.text.data.toList.length + la.length by omega]
        exact k2
      · rw [List.length_append]
        rcases k3 with k3 | k3
        · subst k3; rw [hf] at c; simpa using c
        · omega
      · have := k4 n; omega
    · have e : taken off (q :: ps) = [] := by unfold taken; rw [List.takeWhile_cons, if_neg (by simpa using c)]
      rw [e]
      exact ⟨[], l, rfl, ⟨h1, h2, r, h3, h4⟩, .inl rfl, fun _ => by omega⟩

def ThOk (isnA isnB : Int) (pu : List UInt8) (x : Sg) : Prop := x.ackOn = true ∧ x.ack = num isnB 0 ∧ x.syn = false ∧ x.data.data.toList.length ≤ 40 ∧ ∃ n : Nat, x.seq = num isnA n ∧ n + x.data.data.toList.length ≤ pu.length ∧ x.data.data.toList = (pu.drop n).take x.data.data.toList.length
def BkOk (isnA : Int) (b : Nat) (x : Sg) : Prop := x.ackOn = true ∧ x.syn = false ∧ x.data.data.toList = [] ∧ ∃ m : Nat, x.ack = num isnA m ∧ m ≤ b
structure LnOk (room : Nat) (L : Ln) : Prop where
  pl : L.pu.length < 100000
  pre : L.to = L.pu.take L.tB.base
  bl : L.tB.base ≤ L.pu.length
  ch : ∃ P0 P1, L.pu = P0 ++ P1 ∧ Chain P0.length L.ps P1 ∧ (P0.length : Int) ≤ L.un
  un : L.un ≤ L.tB.base
  ne : L.ps ≠ [] → L.un < L.pu.length
  sm : ∀ q ∈ L.ps, q.text.data.toList.length ≤ 40
  tags : ∀ (i : Nat) (h : i < L.ps.length), L.ps[i].tag = ((L.tg + i : Nat) : Int)
  few : L.tg + L.ps.length < 1000
  a1 : L.fa.state = 3
  a2 : L.fa.fin = false
  a3 : L.fa.fa = false
  a4 : L.fa.ft = false
  b1 : L.fb.ft = false
  b2 : L.fb.fin = false
  pe : L.fb.peer = L.fa.isn
  pe2 : L.fa.peer = L.fb.isn
  tA0 : L.tA.base = 0
  rm : L.tB.room = room
  bytes : ∀ (j : Int) (c : UInt8), L.tB.f j = some c → (L.tB.base : Int) ≤ j ∧ j < L.tB.base + room ∧ L.pu[j.toNat]? = some c
  there : ∀ x ∈ L.there, ThOk L.fa.isn L.fb.isn L.pu x
  back : ∀ x ∈ L.back, BkOk L.fa.isn L.tB.base x
theorem ThOk.app {a b : Int} {pu l : List UInt8} {x : Sg} (h : ThOk a b pu x) : ThOk a b (pu ++ l) x := by
  obtain ⟨h1, h2, h3, h4, n, h5, h6, h7⟩ := h
  refine ⟨h1, h2, h3, h4, n, h5, by rw [List.length_append]; omega, ?_⟩
  rw [List.drop_append_of_le_length (by omega), List.take_append_of_le_length (by rw [List.length_drop]; omega)]
  exact h7

section
variable {room : Nat} {L : Ln}
theorem LnOk.few' (h : LnOk room L) : L.ps.length < 1000 := by have := h.few; omega
theorem LnOk.un0 (h : LnOk room L) : 0 ≤ L.un := by obtain ⟨_, _, _, _, q⟩ := h.ch; omega
theorem LnOk.fok (h : LnOk room L) : FlOk L.ps L.pu.length L.un := by
  have := h.un0; have := h.un; have := h.bl; have := h.pl
  exact ⟨by omega, by omega, by omega, h.few'⟩

/-- A segment comes to the acceptor. -/
theorem LnOk.toB (h : LnOk room L) {x : Sg} (hx : ThOk L.fa.isn L.fb.isn L.pu x) : faT L.fb 0 0 x = L.fb.fa ∧ psT L.fb [] 0 0 x = [] ∧ unT L.fb 0 0 x = 0 ∧
    ∃ n : Nat, x.seq = num L.fa.isn n ∧ n ≤ L.pu.length ∧ inT L.fb (some L.tB) x = some { L.tB with f := putB room L.tB.base n x.data.data.toList L.tB.f } ∧ LnOk room { L with tB := { L.tB with f := putB room L.tB.base n x.data.data.toList L.tB.f } } := by
  obtain ⟨h1, h2, h3, h4, n, h5, h6, h7⟩ := hx
  obtain ⟨t1, t2, t3⟩ := takeB h1 h2 h.b2
  have hb := h.bl; have hp := h.pl
  refine ⟨t1, t2, t3, n, h5, by omega, ?_, ?_⟩
  · unfold inT
    rw [if_neg (by rw [h3]; decide)]
    have : beg L.fb (inlN (some L.tB)) x = n := by
      have iN : inlN (some L.tB) = L.tB.base := rfl
      unfold beg
      rw [iN, h.pe, h5, gap_num _ _ _ (by omega)]; omega
    rw [this]
    simp only [putI, h.rm]
  · refine { h with bytes := fun j c hj => ?_ }
    simp only at hj ⊢
    unfold putB at hj
    cases hf : L.tB.f j with
    | some y =>
      rw [hf] at hj
      simp only [Option.some.injEq] at hj
      subst hj
      exact h.bytes j y hf
    | none =>
      rw [hf] at hj
      simp only at hj
      split at hj
      · rename_i q
        refine ⟨q.1, by omega, ?_⟩
        rw [h7] at hj
        rw [List.getElem?_take] at hj
        split at hj
        · rw [List.getElem?_drop] at hj
          rw [← hj]; congr 1; omega
        · cases hj
      · cases hj

/-- An answer comes to the opener. -/
theorem LnOk.toA (h : LnOk room L) {x : Sg} (hx : BkOk L.fa.isn L.tB.base x) : faT L.fa L.pu.length L.un x = L.fa.fa ∧ inT L.fa (some L.tA) x = some L.tA ∧
    tagsT L.fa L.ps L.pu.length L.un x = (upto (L.tg + (tagsT L.fa L.ps L.pu.length L.un x).length)).drop L.tg ∧ 
    L.tg + L.ps.length = L.tg + (tagsT L.fa L.ps L.pu.length L.un x).length + (psT L.fa L.ps L.pu.length L.un x).length ∧
    (x.ack = num L.fa.isn L.pu.length → psT L.fa L.ps L.pu.length L.un x = []) ∧
    LnOk room { L with ps := psT L.fa L.ps L.pu.length L.un x, un := unT L.fa L.pu.length L.un x, tg := L.tg + (tagsT L.fa L.ps L.pu.length L.un x).length } := by
  obtain ⟨h1, h2, h3, m, h4, h5⟩ := hx
  have hb := h.bl; have hp := h.pl; have hu := h.un; have hu0 := h.un0
  have ac : accS L.fa L.pu.length L.un x = some (m : Int) := by
    unfold accS
    rw [h4, gap_num _ _ _ (by omega), if_pos ⟨h1, by omega, by rw [h.a2, if_neg (by decide)]; omega⟩]; congr 1; omega
  have mn : min (m : Int) (L.pu.length : Int) = m := by omega
  have fa' : faT L.fa L.pu.length L.un x = L.fa.fa := by
    unfold faT; rw [ac]; simp only
    rw [decide_eq_false (by omega)]; simp
  have ia : inT L.fa (some L.tA) x = some L.tA := by
    unfold inT
    rw [if_neg (by rw [h2]; decide), h3]
    simp only [putI, putB_nil]
  refine ⟨fa', ia, ?_⟩
  have eqm : x.ack = num L.fa.isn L.pu.length → m = L.pu.length := fun q => by
    rw [h4] at q; unfold num at q; omega
  obtain ⟨P0, P1, c1, c2, c3⟩ := h.ch
  have cl : L.pu.length = P0.length + P1.length := by rw [c1, List.length_append]
  by_cases c : (m : Int) ≤ L.un
  · have tg : tagsT L.fa L.ps L.pu.length L.un x = [] := by unfold tagsT; rw [ac]; simp only [mn, if_pos c]
    have pt : psT L.fa L.ps L.pu.length L.un x = L.ps := by unfold psT; rw [ac]; simp only [mn, if_pos c]
    have ut : unT L.fa L.pu.length L.un x = L.un := by unfold unT; rw [ac]; simp only [mn, if_pos c]
    rw [tg, pt, ut]
    refine ⟨?_, by simp, fun q => ?_, h⟩
    · rw [List.length_nil, Nat.add_zero, List.drop_eq_nil_of_le (by rw [upto_len]; exact Nat.le_refl _)]
    · have := eqm q
      cases hps : L.ps with
      | nil => rfl
      | cons a b => have := h.ne (by rw [hps]; exact List.cons_ne_nil _ _); omega
  · have tg : tagsT L.fa L.ps L.pu.length L.un x = (taken m L.ps).map (·.tag) := by unfold tagsT; rw [ac]; simp only [mn, if_neg c]
    have pt : psT L.fa L.ps L.pu.length L.un x = L.ps.drop (taken m L.ps).length := by unfold psT; rw [ac]; simp only [mn, if_neg c]
    have ut : unT L.fa L.pu.length L.un x = m := by unfold unT; rw [ac]; simp only [mn, if_neg c]
    rw [tg, pt, ut]
    have tk : taken m L.ps = L.ps.take (taken m L.ps).length := List.prefix_iff_eq_take.1 (List.takeWhile_prefix _)
    have tl : (taken m L.ps).length ≤ L.ps.length := (List.takeWhile_prefix _).length_le
    obtain ⟨la, lb, k1, k2, k3, k4⟩ := Chain.cut m L.ps P0.length P1 c2 (by omega)
    have hf := h.few
    generalize hk : (taken (m : Int) L.ps).length = k at *
    refine ⟨?_, by simp [hk]; omega, fun q => ?_, ?_⟩
    · refine List.ext_getElem (by simp [upto_len, hk]) fun i i1 i2 => ?_
      have ik : i < k := by simpa [hk] using i1
      rw [List.getElem_map, List.getElem_drop]
      simp only [upto, List.getElem_map, List.getElem_range]
      rw [← h.tags i (by omega)]
      congr 1
      have : (taken (m : Int) L.ps)[i]'(by omega) = (L.ps.take k)[i]'(by rw [List.length_take]; omega) := by congr 1
      rw [this, List.getElem_take]
    · have := eqm q
      cases hps : L.ps.drop k with
      | nil => rfl
      | cons a b => have := k4 (by rw [hps]; exact List.cons_ne_nil _ _); omega
    · refine { h with ch := ⟨P0 ++ la, lb, by rw [c1, k1, List.append_assoc], by rw [List.length_append]; exact k2, ?_⟩, un := by simp only; omega, ne := fun q => ?_, sm := fun q hq => h.sm q (List.mem_of_mem_drop hq), tags := fun i hi => ?_, few := ?_ }
      · rw [List.length_append]; simp only
        rcases k3 with k3 | k3
        · subst k3; simp; omega
        · omega
      · have := k4 q; simp only; omega
      · simp only [List.getElem_drop, List.length_map, hk]
        simp only [List.length_drop] at hi
        rw [h.tags _ (by omega)]; congr 1; omega
      · simp only [List.length_map, List.length_drop, hk]; omega
end
end Go.Proofs.Ytidgbapgedegbaa.Fw
