/- The document's Last, Check, Falls. -/
import Derived.Test.YtcfahggmejpdbaaDoorSj
import Derived.KernelRfl
namespace Go.Proofs.YtcfahggmejpdbaaDoor
open Go Go.AS
set_option maxRecDepth 100000
set_option linter.unusedSimpArgs false
set_option linter.unusedVariables false
attribute [local irreducible] Trie.set Trie.get Env.rd
attribute [local simp] Nat.add_assoc wD_cons'' wD_nil' wC_seq wC_ops wC_opsD_nil wC_cond wC_skip wC_ret wC_exit wC_block wO_cons' wO_nil wantedA wV_eq lop qop ev wL_some wL_none wPut envOf rd_set rd_leaf eqA thenC blockC wB_true wB_false endF unwindA resultsA resA tupleA rdCell rdCells wrCells cl fillP lay rep binA unA get_set' AHeap.get_alloc oneCell beqd bned idxA

attribute [local simp] MS.len MS.one MS.take MS.at0 MS.at1 MS.at2 MS.at7 MS.putEn MS.putMd MS.putSo MS.putU0 Tn.len Tn.one Tn.take Tn.at0 Tn.at1 Tn.at2
def rlastR (e : Int) (l : List Tn) : MS × Int × Bool := if e ≠ 0 ∧ e ≠ 1 then (ms0 e, 0, false) else match firstBad (ms0 e) l with
  | none => (endS (ms0 e) l, (l.length : Int), true)
  | some i => (ms0 e, (i : Int), false)
/-- The loop of Last. -/
def RlI (A0 : AHeap) (e : Int) (v : Value) (l : List Tn) (m : Nat) (st : St) : Prop := ∃ (i q4 q7 : Nat) (z : List Value), i ≤ l.length ∧ m = l.length - i ∧ st.n = 44 ∧ st.dfs = [] ∧
  (st.env.rd 0 = .int .i64 e ∧ st.env.rd 4 = .pointer (some ⟨q4, 0, none⟩) ∧ st.env.rd 7 = .pointer (some ⟨q7, 0, none⟩) ∧ st.env.rd 1 = v ∧ st.env.rd 8 = .int .i64 i) ∧
  z.length = 15 ∧ st.A.get q4 = some (.cells z false 0) ∧ st.A.get q7 = some (.cells (endS (ms0 e) (l.take i)).cells false 0) ∧ q4 ≠ q7 ∧ A0.size ≤ q4 ∧ A0.size ≤ q7 ∧ Ext NoB A0 st.A ∧ firstBad (ms0 e) (l.take i) = none

theorem rlast_ok (A : AHeap) (e : Int) (v : Value) (l : List Tn) (Q : Value → AHeap → Prop) (hl : l.length < 1000000) (hv : ReadAt A 3 v l.length (tcells l))
    (hq : ∀ A', Ext NoB A A' → Q (.tuple ⟨[.agg ⟨(rlastR e l).1.cells⟩, .int .i64 (rlastR e l).2.1, .bool (rlastR e l).2.2]⟩) A') : wF T (.func (.func 18) #[] #[]) [.int .i64 e, v] A Q := by
  obtain ⟨va, vc, rfl⟩ := hv.val
  refine wF_func (first := []) (captured := []) t18 ⟨rfl, by decide⟩ ?_
  dsimp only [c18]
  simp
  generalize hA1 : A.alloc _ = A1
  have e1 : Ext NoB A A1 := by rw [← hA1]; exact Ext.alloc
  have g1 : ∃ z, z.length = 15 ∧ A1.get A.size = some (.cells z false 0) := by rw [← hA1]; exact ⟨[.int .i64 0, .int .i64 0, .bool false, .bool false, .bool false, .bool false, .bool false, .bool false, .bool false, .bool false, .bool false, .bool false, .bool false, .bool false, .bool false], rfl, by simp⟩
  obtain ⟨z, z15, g1⟩ := g1
  clear hA1
  refine rbegin_ok A1 e _ fun A2 e2 => ?_
  have g2 := e2.get g1 id
  have l2 := AHeap.get_lt g2
  simp [lay_whole]
  generalize hA3 : AHeap.set _ A2.size _ = A3
  have e3 : Ext NoB A2 A3 := by rw [← hA3]; exact ⟨by simp, fun b hb _ => by simp [show b ≠ A2.size by omega]⟩
  have g3 := e3.get g2 id
  have g6 : A3.get A2.size = some (.cells (ms0 e).cells false 0) := by rw [← hA3]; simp
  clear hA3
  have l3 := AHeap.get_lt g3
  have l6 := AHeap.get_lt g6
  have e13 := (e1.trans e2).trans e3
  by_cases he : e ≠ 0 ∧ e ≠ 1
  · have wr : rlastR e l = (ms0 e, 0, false) := by unfold rlastR; rw [if_pos he]
    rw [wr] at hq
    simp [he.1, he.2, g3, g6, l3, l6, z15, lay_whole, show A.size ≠ A3.size by omega, show A2.size ≠ A3.size by omega, show A.size < A3.size + 1 by omega]
    exact hq _ (e13.trans2 (S' := fun b => b = A.size) (Ext.set rfl) fun b hb q => by omega)
  · have wr : rlastR e l = match firstBad (ms0 e) l with | none => (endS (ms0 e) l, (l.length : Int), true) | some i => (ms0 e, (i : Int), false) := by unfold rlastR; rw [if_neg he]
    have h01 : e = 0 ∨ e = 1 := by omega
    clear he
    have zne : A.size ≠ A2.size := by omega
    have zle : A.size ≤ A2.size := by omega
    clear e1 e2 e3 g1 g2 l2
    rcases h01 with he | he
    all_goals
      simp [he]
      refine wC_loop_inv (RlI A e (.slice va l.length vc) l) ?_ l.length _ ⟨0, A.size, A2.size, z, by omega, by omega, rfl, rfl, ⟨by simp [he], by simp, by simp, by simp, by simp⟩, z15, g3, by simpa [endS] using g6, zne, Nat.le_refl _, zle, e13, by simp [firstBad]⟩
      clear g3 g6 l3 l6 e13 zne zle z15
      rintro m ⟨env, n, dfs, A4⟩ ⟨i, q4, q6, y, hi, rfl, s1, s2, ⟨r0, r4, r7, r1, r8⟩, y15, w4, w6, wne, wz4, wz6, ex, nb⟩
      simp only at s1 s2 r0 r4 r7 r1 r8 w4 w6 ex
      subst s1; subst s2
      have lq4 := AHeap.get_lt w4
      have lq6 := AHeap.get_lt w6
      by_cases c : i < l.length
      · obtain ⟨d, o, cc, bs, ro, opn, y1, y2, y3, y4⟩ := (hv.ext ex fun _ _ => id).elem2 c
        cases y1
        rw [tcells_at l i c] at y4
        have y3' : o + (i * 3 + 3) ≤ bs.length := by omega
        have nx1 : endS (ms0 e) (l.take (i + 1)) = nx (endS (ms0 e) (l.take i)) l[i] := by
          rw [List.take_add_one, List.getElem?_eq_getElem c, endS_append]; rfl
        have cut : l = l.take i ++ (l[i] :: l.drop (i + 1)) := by
          rw [← List.drop_eq_getElem_cons c, List.take_append_drop]
        have lti : (l.take i).length = i := by rw [List.length_take]; omega
        have w2 : IntKind.i64.wrap ((i : Int) + 1) = ((i + 1 : Nat) : Int) := IntWalk.i64_in _ (by omega)
        simp [r0, r4, r7, r1, r8, c, y2, y3', y4, lay_turn, w6]
        refine rnext_ok A4 _ l[i] _ fun A6 e6 => ?_
        have v4 := e6.get w4 id
        have v6 := e6.get w6 id
        have m4 := AHeap.get_lt v4
        have m6 := AHeap.get_lt v6
        simp [lay_whole]
        generalize hA7 : AHeap.set (AHeap.alloc A6 _) A6.size _ = A7
        have e7 : Ext NoB A6 A7 := by rw [← hA7]; exact ⟨by simp, fun b hb _ => by simp [show b ≠ A6.size by omega]⟩
        have g9 : A7.get A6.size = some (.cells (nx (endS (ms0 e) (l.take i)) l[i]).cells false 0) := by rw [← hA7]; simp
        clear hA7
        have ex7 : Ext NoB A A7 := (ex.trans e6).trans e7
        have u4 := e7.get v4 id
        have u6 := e7.get v6 id
        have n4 := AHeap.get_lt u4
        have n6 := AHeap.get_lt u6
        cases hok : okT (endS (ms0 e) (l.take i)) l[i] with
        | true =>
          simp [hok, r7, r8, g9, u6, lay_whole, n6]
          refine ⟨l.length - (i + 1), by omega, i + 1, q4, q6, y, by omega, rfl, rfl, rfl, ⟨by simp [r0], by simp [r4], by simp [r7], by simp [r1], by simpa using w2⟩, y15, by simp [wne, u4], by simp [n6, nx1, lay_ms], wne, wz4, wz6, ex7.trans2 (S' := fun b => b = q6) (Ext.set rfl) (fun b hb q => by omega), ?_⟩
          rw [List.take_add_one, List.getElem?_eq_getElem c, firstBad_append _ _ _ nb]
          simp [firstBad, hok]
        | false =>
          have fb : firstBad (ms0 e) l = some i := by
            rw [cut, firstBad_append _ _ _ nb]
            simp [firstBad, hok, lti]
          rw [fb] at wr
          rw [wr] at hq
          simp [hok, r0]
          refine rbegin_ok A7 e _ fun A8 e8 => ?_
          have t4 := e8.get u4 id
          have k4 := AHeap.get_lt t4
          simp [r4, r8, t4, k4, y15, lay_whole]
          exact hq _ ((ex7.trans e8).trans2 (S' := fun b => b = q4) (Ext.set rfl) (fun b hb q => by omega))
      · have hil : i = l.length := by omega
        rw [hil, List.take_of_length_le (Nat.le_refl _)] at nb w6
        rw [nb] at wr
        rw [wr] at hq
        simp [r4, r7, r1, r8, c, w4, w6, lq4, y15, lay_whole]
        exact hq _ (ex.trans2 (S' := fun b => b = q4) (Ext.set rfl) (fun b hb q => by omega))

theorem walk_last (e : Int) (l : List Tn) : (rlastR e l).1 = (walkR e l).1 ∧ (rlastR e l).2.2 = (walkR e l).2.isNone := by
  unfold rlastR walkR
  split
  · exact ⟨rfl, rfl⟩
  · cases firstBad (ms0 e) l <;> exact ⟨rfl, rfl⟩

theorem rcheck_ok (A : AHeap) (e : Int) (v : Value) (l : List Tn) (Q : Value → AHeap → Prop) (hl : l.length < 1000000) (hv : ReadAt A 3 v l.length (tcells l))
    (hq : ∀ A', Ext NoB A A' → Q (.agg ⟨fcells (walkR e l).2⟩) A') : wF T (.func (.func 17) #[] #[]) [.int .i64 e, v] A Q := by
  refine wF_func (first := []) (captured := []) t17 ⟨rfl, by decide⟩ ?_
  dsimp only [c17]
  by_cases he : e ≠ 0 ∧ e ≠ 1
  · have wr : walkR e l = (ms0 e, some (2, 0)) := by unfold walkR; rw [if_pos he]
    rw [wr] at hq
    simp [he.1, he.2]
    exact hq _ ⟨by simp, fun b hb _ => by simp [show b ≠ A.size by omega]⟩
  · have wr : walkR e l = match firstBad (ms0 e) l with | none => (endS (ms0 e) l, none) | some i => (ms0 e, some (15, (i : Int))) := by unfold walkR; rw [if_neg he]; cases firstBad (ms0 e) l <;> rfl
    have rr : rlastR e l = match firstBad (ms0 e) l with | none => (endS (ms0 e) l, (l.length : Int), true) | some i => (ms0 e, (i : Int), false) := by unfold rlastR; rw [if_neg he]
    have h01 : e = 0 ∨ e = 1 := by omega
    clear he
    rcases h01 with he | he
    · simp [show decide (e = 0) = true by simp [he], show decide (e = 1) = false by simp [he]]
      refine rlast_ok _ e v l _ hl (hv.ext Ext.alloc fun _ _ => id) fun A2 e2 => ?_
      have g0 := e2.get (b := A.size) (x := .cells [.int .i64 0, .int .i64 0] false 0) (by simp) id
      have l2 := AHeap.get_lt g0
      have fin : ∀ x, Ext NoB A ((A2.alloc x).set A2.size (.cells (rlastR e l).1.cells false 0)) := fun x => ⟨by have := e2.size; simp at this ⊢; omega, fun b hb _ => by
        have := e2.size; simp at this
        have h := e2.keep b (by simp; omega) id
        simp [show b ≠ A2.size by omega, h, show b ≠ A.size by omega]⟩
      have fin2 : ∀ x y, Ext NoB A (((A2.alloc x).set A2.size (.cells (rlastR e l).1.cells false 0)).set A.size y) := fun x y => (fin x).trans2 (S' := fun b => b = A.size) (Ext.set rfl) (fun b hb q => by omega)
      cases hf : firstBad (ms0 e) l with
      | none =>
        rw [hf] at wr rr
        have h3 : (rlastR e l).2.2 = true := by rw [rr]
        simp [lay_whole, h3, g0, show A.size ≠ A2.size by omega, show A.size < A2.size + 1 by omega]
        have := hq _ (fin2 (.cells [.int .i64 0, .int .i64 0, .bool false, .bool false, .bool false, .bool false, .bool false, .bool false, .bool false, .bool false, .bool false, .bool false, .bool false, .bool false, .bool false] false 0) (.cells [.int .i64 0, .int .i64 0] false 0))
        rw [wr] at this
        simpa [fcells] using this
      | some i =>
        rw [hf] at wr rr
        have h3 : (rlastR e l).2.2 = false := by rw [rr]
        have h4 : (rlastR e l).2.1 = (i : Int) := by rw [rr]
        simp [lay_whole, h3, h4, g0, show A.size ≠ A2.size by omega, show A.size < A2.size + 1 by omega]
        have := hq _ (fin2 (.cells [.int .i64 0, .int .i64 0, .bool false, .bool false, .bool false, .bool false, .bool false, .bool false, .bool false, .bool false, .bool false, .bool false, .bool false, .bool false, .bool false] false 0) (.cells [.int .i64 15, .int .i64 i] false 0))
        rw [wr] at this
        simpa [fcells] using this
    · simp [show decide (e = 0) = false by simp [he], show decide (e = 1) = true by simp [he]]
      refine rlast_ok _ e v l _ hl (hv.ext Ext.alloc fun _ _ => id) fun A2 e2 => ?_
      have g0 := e2.get (b := A.size) (x := .cells [.int .i64 0, .int .i64 0] false 0) (by simp) id
      have l2 := AHeap.get_lt g0
      have fin : ∀ x, Ext NoB A ((A2.alloc x).set A2.size (.cells (rlastR e l).1.cells false 0)) := fun x => ⟨by have := e2.size; simp at this ⊢; omega, fun b hb _ => by
        have := e2.size; simp at this
        have h := e2.keep b (by simp; omega) id
        simp [show b ≠ A2.size by omega, h, show b ≠ A.size by omega]⟩
      have fin2 : ∀ x y, Ext NoB A (((A2.alloc x).set A2.size (.cells (rlastR e l).1.cells false 0)).set A.size y) := fun x y => (fin x).trans2 (S' := fun b => b = A.size) (Ext.set rfl) (fun b hb q => by omega)
      cases hf : firstBad (ms0 e) l with
      | none =>
        rw [hf] at wr rr
        have h3 : (rlastR e l).2.2 = true := by rw [rr]
        simp [lay_whole, h3, g0, show A.size ≠ A2.size by omega, show A.size < A2.size + 1 by omega]
        have := hq _ (fin2 (.cells [.int .i64 0, .int .i64 0, .bool false, .bool false, .bool false, .bool false, .bool false, .bool false, .bool false, .bool false, .bool false, .bool false, .bool false, .bool false, .bool false] false 0) (.cells [.int .i64 0, .int .i64 0] false 0))
        rw [wr] at this
        simpa [fcells] using this
      | some i =>
        rw [hf] at wr rr
        have h3 : (rlastR e l).2.2 = false := by rw [rr]
        have h4 : (rlastR e l).2.1 = (i : Int) := by rw [rr]
        simp [lay_whole, h3, h4, g0, show A.size ≠ A2.size by omega, show A.size < A2.size + 1 by omega]
        have := hq _ (fin2 (.cells [.int .i64 0, .int .i64 0, .bool false, .bool false, .bool false, .bool false, .bool false, .bool false, .bool false, .bool false, .bool false, .bool false, .bool false, .bool false, .bool false] false 0) (.cells [.int .i64 15, .int .i64 i] false 0))
        rw [wr] at this
        simpa [fcells] using this
end Go.Proofs.YtcfahggmejpdbaaDoor
