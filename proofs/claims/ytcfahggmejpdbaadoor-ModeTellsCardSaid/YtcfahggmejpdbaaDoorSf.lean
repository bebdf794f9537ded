/- mode.walk. -/
import Derived.Test.YtcfahggmejpdbaaDoorSe
import Derived.KernelRfl
namespace Go.Proofs.YtcfahggmejpdbaaDoor
open Go Go.AS
set_option maxRecDepth 100000
set_option linter.unusedSimpArgs false
set_option linter.unusedVariables false
attribute [local irreducible] Trie.set Trie.get Env.rd
attribute [local simp] Nat.add_assoc wD_cons'' wD_nil' wC_seq wC_ops wC_opsD_nil wC_cond wC_skip wC_ret wC_exit wC_block wO_cons' wO_nil wantedA wV_eq lop qop ev wL_some wL_none wPut envOf rd_set rd_leaf eqA thenC blockC wB_true wB_false endF unwindA resultsA resA tupleA rdCell rdCells wrCells cl fillP lay rep binA unA get_set' AHeap.get_alloc oneCell beqd bned idxA

attribute [local simp] MS.len MS.one MS.take MS.at0 MS.at1 MS.at2 MS.at7 MS.putEn MS.putMd MS.putSo MS.putU0 Tn.len Tn.one Tn.take Tn.at0 Tn.at1 Tn.at2
theorem begin_ok (A : AHeap) (e : Int) (Q : Value → AHeap → Prop) (hq : ∀ A', Ext NoB A A' → Q (.agg ⟨(ms0 e).cells⟩) A') : wF T (.func (.func 12) #[] #[]) [.int .i64 e] A Q := by
  refine wF_func (first := []) (captured := []) t12 ⟨rfl, by decide⟩ ?_
  dsimp only [c12]
  simp
  exact hq _ ⟨by simp, fun b hb _ => by simp [show b ≠ A.size by omega]⟩
theorem rbegin_ok (A : AHeap) (e : Int) (Q : Value → AHeap → Prop) (hq : ∀ A', Ext NoB A A' → Q (.agg ⟨(ms0 e).cells⟩) A') : wF T (.func (.func 24) #[] #[]) [.int .i64 e] A Q := by
  refine wF_func (first := []) (captured := []) t24 ⟨rfl, by decide⟩ ?_
  dsimp only [c24]
  simp
  exact hq _ ⟨by simp, fun b hb _ => by simp [show b ≠ A.size by omega]⟩
theorem turn_ok (A : AHeap) (c p m : Int) (Q : Value → AHeap → Prop) (hq : ∀ A', Ext NoB A A' → Q (.agg ⟨(Tn.mk c p m).cells⟩) A') : wF T (.func (.func 16) #[] #[]) [.int .i64 c, .int .i64 p, .int .i64 m] A Q := by
  refine wF_func (first := []) (captured := []) t16 ⟨rfl, by decide⟩ ?_
  dsimp only [c16]
  simp
  exact hq _ ⟨by simp, fun b hb _ => by simp [show b ≠ A.size by omega]⟩

/-! ## Turns, one by one -/
def endS : MS → List Tn → MS
  | s, [] => s
  | s, t :: l => endS (nx s t) l
def firstBad : MS → List Tn → Option Nat
  | _, [] => none
  | s, t :: l => if okT s t = true then (firstBad (nx s t) l).map (· + 1) else some 0
theorem endS_append (s : MS) (l m : List Tn) : endS s (l ++ m) = endS (endS s l) m := by
  induction l generalizing s with
  | nil => rfl
  | cons t l ih => exact ih (nx s t)
theorem firstBad_append (s : MS) (l m : List Tn) (h : firstBad s l = none) : firstBad s (l ++ m) = (firstBad (endS s l) m).map (· + l.length) := by
  induction l generalizing s with
  | nil => simp [endS]
  | cons t l ih =>
    simp only [firstBad] at h
    split at h
    · rename_i ht
      simp only [Option.map_eq_none_iff] at h
      simp only [List.cons_append, firstBad, ht, if_true, ih _ h, endS, Option.map_map, List.length_cons]
      congr 1
    · cases h
theorem firstBad_app_some (s : MS) (l m : List Tn) {i : Nat} (h : firstBad s l = some i) : firstBad s (l ++ m) = some i := by
  induction l generalizing s i with
  | nil => cases h
  | cons t l ih =>
    simp only [firstBad] at h
    simp only [List.cons_append, firstBad]
    split at h
    · rename_i ht
      rw [if_pos ht]
      simp only [Option.map_eq_some_iff] at h ⊢
      obtain ⟨a, h1, h2⟩ := h
      exact ⟨a, ih _ h1, h2⟩
    · rename_i ht
      rw [if_neg ht]; exact h
def tcells (l : List Tn) : List Value := l.flatMap Tn.cells
theorem tcells_at : ∀ (l : List Tn) (i : Nat) (h : i < l.length), ((tcells l).drop (i * 3)).take 3 = (l[i]).cells
  | [], _, h => by simp at h
  | t :: l, 0, _ => rfl
  | t :: l, i + 1, h => by
    have := tcells_at l i (by simpa using h)
    rw [show (i + 1) * 3 = i * 3 + 3 by omega]
    exact this
theorem tcells_len (l : List Tn) : (tcells l).length = l.length * 3 := by
  induction l with
  | nil => rfl
  | cons t l ih => simp only [tcells, List.flatMap_cons, List.length_append, Tn.len, List.length_cons] at ih ⊢; omega
/-- What walk finds. -/
def walkR (e : Int) (l : List Tn) : MS × Option (Int × Int) := if e ≠ 0 ∧ e ≠ 1 then (ms0 e, some (2, 0)) else match firstBad (ms0 e) l with
  | none => (endS (ms0 e) l, none)
  | some i => (ms0 e, some (15, i))
/-- An error of walk's. -/
def ErrV (A : AHeap) (v : Value) : Option (Int × Int) → Prop
  | none => v = .nilIface
  | some f => ∃ b, v = .iface 70 (.agg ⟨[.pointer (some ⟨b, 0, none⟩)]⟩) ∧ A.get b = some (.cells [.int .i64 f.1, .int .i64 f.2] false 0)
theorem ErrV.ext {S : Nat → Prop} {A A' : AHeap} {v : Value} {f : Option (Int × Int)} (h : ErrV A v f) (e : Ext S A A') (hs : ∀ b, v = .iface 70 (.agg ⟨[.pointer (some ⟨b, 0, none⟩)]⟩) → ¬ S b) : ErrV A' v f := by
  cases f with
  | none => exact h
  | some f =>
    obtain ⟨b, h1, h2⟩ := h
    exact ⟨b, h1, e.get h2 (hs b h1)⟩
theorem ErrV.extN {A A' : AHeap} {v : Value} {f : Option (Int × Int)} (h : ErrV A v f) (e : Ext NoB A A') : ErrV A' v f := h.ext e fun _ _ => id

/-- The loop of walk. -/
def WkI (A0 : AHeap) (e : Int) (v : Value) (l : List Tn) (m : Nat) (st : St) : Prop := ∃ (i q4 q6 : Nat) (z : List Value), i ≤ l.length ∧ m = l.length - i ∧ st.n = 49 ∧ st.dfs = [] ∧
  (st.env.rd 0 = .int .i64 e ∧ st.env.rd 4 = .pointer (some ⟨q4, 0, none⟩) ∧ st.env.rd 6 = .pointer (some ⟨q6, 0, none⟩) ∧ st.env.rd 24 = v ∧ st.env.rd 25 = .int .i64 l.length ∧ st.env.rd 26 = .int .i64 i) ∧
  z.length = 15 ∧ st.A.get q4 = some (.cells z false 0) ∧ st.A.get q6 = some (.cells (endS (ms0 e) (l.take i)).cells false 0) ∧ q4 ≠ q6 ∧ A0.size ≤ q4 ∧ A0.size ≤ q6 ∧ Ext NoB A0 st.A ∧ firstBad (ms0 e) (l.take i) = none

theorem walk_ok (A : AHeap) (e : Int) (v : Value) (l : List Tn) (Q : Value → AHeap → Prop) (hl : l.length < 1000000) (hv : ReadAt A 3 v l.length (tcells l))
    (hq : ∀ A' ev, Ext NoB A A' → ErrV A' ev (walkR e l).2 → Q (.tuple ⟨[.agg ⟨(walkR e l).1.cells⟩, ev]⟩) A') : wF T (.func (.func 27) #[] #[]) [.int .i64 e, v] A Q := by
  obtain ⟨va, vc, rfl⟩ := hv.val
  refine wF_func (first := []) (captured := []) t27 ⟨rfl, by decide⟩ ?_
  dsimp only [c27]
  simp
  generalize hA1 : A.alloc _ = A1
  have e1 : Ext NoB A A1 := by rw [← hA1]; exact Ext.alloc
  have g1 : ∃ z, z.length = 15 ∧ A1.get A.size = some (.cells z false 0) := by rw [← hA1]; exact ⟨[.int .i64 0, .int .i64 0, .bool false, .bool false, .bool false, .bool false, .bool false, .bool false, .bool false, .bool false, .bool false, .bool false, .bool false, .bool false, .bool false], rfl, by simp⟩
  obtain ⟨z, z15, g1⟩ := g1
  clear hA1
  refine begin_ok A1 e _ fun A2 e2 => ?_
  have g2 := e2.get g1 id
  have l2 := AHeap.get_lt g2
  simp [lay_whole]
  generalize hA3 : AHeap.set _ A2.size _ = A3
  have e3 : Ext NoB A2 A3 := by rw [← hA3]; exact ⟨by simp, fun b hb _ => by simp [show b ≠ A2.size by omega]⟩
  have g3 := e3.get g2 id
  have g6 : A3.get A2.size = some (.cells (ms0 e).cells false 0) := by rw [← hA3]; simp
  clear hA3
  have l3 := AHeap.get_lt g3
  have l6 := AHeap.get_lt g6
  have e13 := (e1.trans e2).trans e3
  by_cases he : e ≠ 0 ∧ e ≠ 1
  · have wr : walkR e l = (ms0 e, some (2, 0)) := by unfold walkR; rw [if_pos he]
    rw [wr] at hq
    simp [he.1, he.2, g3, g6, l3, l6, z15, lay_whole, show A.size ≠ A3.size by omega, show A2.size ≠ A3.size by omega, show A.size < A3.size + 1 by omega]
    generalize hA4 : AHeap.set _ A.size _ = A4
    have e4 : Ext NoB A A4 := by
      rw [← hA4]
      exact ⟨by simp; have := e13.size; omega, fun b hb q => by simp [show b ≠ A.size by omega, show b ≠ A3.size by have := e13.size; omega]; exact e13.keep b hb q⟩
    have g4 : A4.get A3.size = some (.cells [.int .i64 2, .int .i64 0] false 0) := by rw [← hA4]; simp [show A3.size ≠ A.size by omega]
    have gs : A4.get A.size = some (.cells (ms0 e).cells false 0) := by rw [← hA4]; simp [show A.size < A3.size + 1 by omega]
    clear hA4
    exact hq A4 _ e4 ⟨_, rfl, g4⟩
  · have wr : walkR e l = match firstBad (ms0 e) l with | none => (endS (ms0 e) l, none) | some i => (ms0 e, some (15, (i : Int))) := by unfold walkR; rw [if_neg he]
    have h01 : e = 0 ∨ e = 1 := by omega
    clear he
    have zne : A.size ≠ A2.size := by omega
    have zle : A.size ≤ A2.size := by omega
    clear e1 e2 e3 g1 g2 l2
    have lt0 : ¬ (0 : Nat) > l.length := by omega
    rcases h01 with he | he
    all_goals
      simp [he]
      refine wC_loop_inv (WkI A e (.slice va l.length vc) l) ?_ l.length _ ⟨0, A.size, A2.size, z, by omega, by omega, rfl, rfl, ⟨by simp [he], by simp, by simp, by simp, by simp, by simp⟩, z15, g3, by simpa [endS] using g6, zne, Nat.le_refl _, zle, e13, by simp [firstBad]⟩
      clear g3 g6 l3 l6 e13 zne zle z15
      rintro m ⟨env, n, dfs, A4⟩ ⟨i, q4, q6, y, hi, rfl, s1, s2, ⟨r0, r4, r6, r24, r25, r26⟩, y15, w4, w6, wne, wz4, wz6, ex, nb⟩
      simp only at s1 s2 r0 r4 r6 r24 r25 r26 w4 w6 ex
      subst s1; subst s2
      have lq4 := AHeap.get_lt w4
      have lq6 := AHeap.get_lt w6
      by_cases c : i < l.length
      · obtain ⟨d, o, cc, bs, ro, opn, y1, y2, y3, y4⟩ := (hv.ext ex fun _ _ => id).elem2 c
        cases y1
        rw [tcells_at l i c] at y4
        have y3' : o + (i * 3 + 3) ≤ bs.length := by omega
        have nx1 : endS (ms0 e) (l.take (i + 1)) = nx (endS (ms0 e) (l.take i)) l[i] := by
          rw [List.take_add_one, List.getElem?_eq_getElem c, endS_append]; rfl
        have cut : l = l.take i ++ (l[i] :: l.drop (i + 1)) := by
          rw [← List.drop_eq_getElem_cons c, List.take_append_drop]
        have lti : (l.take i).length = i := by rw [List.length_take]; omega
        have w2 : IntKind.i64.wrap ((i : Int) + 1) = ((i + 1 : Nat) : Int) := IntWalk.i64_in _ (by omega)
        simp [r0, r4, r6, r24, r25, r26, c, y2, y3', y4, lay_turn, show q6 ≠ A4.size by omega, w6]
        generalize hA5 : AHeap.set (AHeap.alloc A4 _) A4.size _ = A5
        have e5 : Ext NoB A4 A5 := by rw [← hA5]; exact ⟨by simp, fun b hb _ => by simp [show b ≠ A4.size by omega]⟩
        clear hA5
        refine next_ok A5 _ l[i] _ fun A6 e6 => ?_
        have v4 := e6.get (e5.get w4 id) id
        have v6 := e6.get (e5.get w6 id) id
        have m4 := AHeap.get_lt v4
        have m6 := AHeap.get_lt v6
        simp [lay_whole]
        generalize hA7 : AHeap.set (AHeap.alloc A6 _) A6.size _ = A7
        have e7 : Ext NoB A6 A7 := by rw [← hA7]; exact ⟨by simp, fun b hb _ => by simp [show b ≠ A6.size by omega]⟩
        have g9 : A7.get A6.size = some (.cells (nx (endS (ms0 e) (l.take i)) l[i]).cells false 0) := by rw [← hA7]; simp
        clear hA7
        have ex7 : Ext NoB A A7 := ((ex.trans e5).trans e6).trans e7
        have u4 := e7.get v4 id
        have u6 := e7.get v6 id
        have n4 := AHeap.get_lt u4
        have n6 := AHeap.get_lt u6
        cases hok : okT (endS (ms0 e) (l.take i)) l[i] with
        | true =>
          simp [hok, r6, r26, g9, u6, lay_whole, n6]
          refine ⟨l.length - (i + 1), by omega, i + 1, q4, q6, y, by omega, rfl, rfl, rfl, ⟨by simp [r0], by simp [r4], by simp [r6], by simp [r24], by simp [r25], by simpa using w2⟩, y15, by simp [wne, u4], by simp [n6, nx1, lay_ms], wne, wz4, wz6, ex7.trans2 (S' := fun b => b = q6) (Ext.set rfl) (fun b hb q => by omega), ?_⟩
          rw [List.take_add_one, List.getElem?_eq_getElem c, firstBad_append _ _ _ nb]
          simp [firstBad, hok]
        | false =>
          have fb : firstBad (ms0 e) l = some i := by
            rw [cut, firstBad_append _ _ _ nb]
            simp [firstBad, hok, lti]
          rw [fb] at wr
          rw [wr] at hq
          simp [hok, r0]
          refine begin_ok A7 e _ fun A8 e8 => ?_
          have t4 := e8.get u4 id
          have k4 := AHeap.get_lt t4
          simp [r4, t4, k4, y15, lay_whole, show q4 ≠ A8.size by omega, show q4 < A8.size + 1 by omega]
          refine hq _ _ ((ex7.trans e8).trans2 (S' := fun b => b = q4 ∨ b = A8.size) ⟨by simp, fun b hb q => ?_⟩ (fun b hb q => ?_)) ⟨A8.size, rfl, by simp [show A8.size ≠ q4 by omega]⟩
          · simp [show b ≠ q4 by omega, show b ≠ A8.size by omega]
          · have := ex7.size; have := e8.size; omega
      · have hil : i = l.length := by omega
        rw [hil, List.take_of_length_le (Nat.le_refl _)] at nb w6
        rw [nb] at wr
        rw [wr] at hq
        simp [r4, r6, r25, r26, c, w4, w6, lq4, y15, lay_whole]
        refine hq _ _ (ex.trans2 (S' := fun b => b = q4) (Ext.set rfl) (fun b hb q => by omega)) rfl
end Go.Proofs.YtcfahggmejpdbaaDoor
