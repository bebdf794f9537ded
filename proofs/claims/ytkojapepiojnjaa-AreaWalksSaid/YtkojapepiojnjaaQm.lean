/- AreaLays of stage 4. -/
import Derived.Test.YtkojapepiojnjaaQl
import Derived.Test.YtkojapepiojnjaaAsZG
import Derived.KernelRfl
namespace Go.Proofs.Ytkojapepiojnjaa
open Go Go.AS
set_option maxRecDepth 100000
set_option linter.unusedSimpArgs false
set_option linter.unusedVariables false
attribute [local irreducible] Trie.set Trie.get Env.rd
attribute [local simp] Nat.add_assoc wD_cons'' wD_nil' wC_seq wC_ops wC_opsD_nil wC_cond wC_skip wC_ret wC_exit wC_block wO_cons' wO_nil wantedA wV_eq lop qop ev wL_some wL_none wPut envOf rd_set rd_leaf eqA thenC blockC wB_true wB_false endF unwindA resultsA resA tupleA rdCell rdCells wrCells cl fillP lay rep binA unA get_set' AHeap.get_alloc oneCell

/-- A slice's cells, to be written. -/
theorem cellsOf {A : AHeap} {sz n : Nat} {v : Value} {cs : List Value} (h : SliceAt A sz v n cs) (hn : 0 < n) :
    ∃ d o c bs opn, v = .slice (some ⟨d, o, none⟩) n c ∧ A.get d = some (.cells bs false opn) ∧ o + n * sz ≤ bs.length ∧ cs = (bs.drop o).take (n * sz) ∧
      ∀ (q : Nat) (x : Value), q < n * sz → SliceAt (A.set d (.cells (bs.set (o + q) x) false opn)) sz v n (cs.set q x) := by
  rcases h with ⟨_, h2, _⟩ | ⟨d, o, c, bs, opn, h1, h2, h3, h4, h5⟩
  · omega
  · refine ⟨d, o, c, bs, opn, h1, h2, h3, h4, fun q x hq => ?_⟩
    refine .inr ⟨d, o, c, bs.set (o + q) x, opn, h1, ?_, ?_, ?_, ?_⟩
    · rw [get_set', if_pos rfl, if_pos (AHeap.get_lt h2)]
    · rw [List.length_set]; exact h3
    · rw [h4, ← List.set_drop, List.take_set]
    · rw [List.length_set]; exact h5

theorem icells_set (l : List It) (i : Nat) (hi : i < l.length) (s : ByteArray) : (icells l).set (i * 2 + 1) (.string s) = icells (l.set i ⟨l[i].kind, s⟩) := by
  induction l generalizing i with
  | nil => simp at hi
  | cons p l ih =>
    cases i with
    | zero => simp [icells]
    | succ i =>
      have := ih i (by simpa using hi)
      rw [show (i + 1) * 2 + 1 = (i * 2 + 1) + 2 by omega]
      simp only [icells, List.flatMap_cons, List.cons_append, List.nil_append, List.set_cons_succ, List.getElem_cons_succ] at this ⊢
      rw [this]

/-- A row copied. -/
theorem copyI (A : AHeap) (x : Value) (l : List It) (hx' : ReadAt (A.alloc (.cells [] false 0)) 2 x l.length (icells l)) (hn : l.length < 1000000) :
    ∃ a c A', appA (A.alloc (.cells [] false 0)) 2 24 (.slice (some ⟨A.size, 0, none⟩) 0 0) x = some (.slice a l.length c, A') ∧ SliceAt A' 2 (.slice a l.length c) l.length (icells l) ∧ Ext NoB A A' ∧ ∀ j, Own (.slice a l.length c) j → A.size ≤ j := by
  have e : Ext NoB A (A.alloc (.cells [] false 0)) := Ext.alloc
  have hf := hx'.firstA (Nat.le_refl _)
  rw [List.take_of_length_le (by rw [hx'.length]; omega)] at hf
  have s0 : SliceAt (A.alloc (.cells [] false 0)) 2 (.slice (some ⟨A.size, 0, none⟩) 0 0) 0 [] := .inr ⟨A.size, 0, 0, [], 0, rfl, by rw [AHeap.get_alloc, if_pos rfl], by simp, by simp, .inr (.inl ⟨rfl, by decide⟩)⟩
  obtain ⟨v', A', k1, k2, k3, k4⟩ := s0.append (x := x) (m := l.length) (bytes := 24) (new := icells l) (by decide) hx'.lenA hf (icells_one l) (icells_len l) (by omega) (by decide) (by obtain ⟨a, c, rfl⟩ := hx'.val; simp [isStr])
  obtain ⟨a', c', hv⟩ := k2.read.val
  subst hv
  rw [Nat.zero_add] at k1 k2 k4
  refine ⟨a', c', A', k1, by simpa using k2, e.trans2 (S' := Own (.slice (some ⟨A.size, 0, none⟩) 0 0)) k3 ?_, fun j hj => ?_⟩
  · rintro j hj ⟨o, n, c, q⟩; cases q; omega
  · rcases k4 j hj with ⟨o, n, c, q⟩ | q
    · cases q; exact Nat.le_refl _
    · simp at q; omega

def EI (A0 : AHeap) (lv : Value) (z : Nat) (kind : Int) (m : Nat) (st : St) : Prop := ∃ i cur, m + i = z ∧ st.n = 102 ∧ st.dfs = [] ∧ st.env.rd 0 = lv ∧ st.env.rd 1 = .int .i64 kind ∧ st.env.rd 5 = .int .i64 (i : Nat) ∧ Ext NoB A0 st.A ∧ SliceAt st.A 2 lv z (icells cur) ∧ cur.length = z

def FI (A0 : AHeap) (lv : Value) (cur : List It) (kind : Int) (m : Nat) (st : St) : Prop := ∃ k, m + k = cur.length + 1 ∧ st.n = 102 ∧ st.dfs = [] ∧ st.env.rd 0 = lv ∧ st.env.rd 1 = .int .i64 kind ∧ st.env.rd 6 = .int .i64 (k : Nat) ∧ Ext NoB A0 st.A

theorem lays_ok (its : List It) (kind : Int) (lv : Value) (A0 : AHeap) (h : ReadAt A0 2 lv its.length (icells its)) (hv : ArgV lv its.length) : wF T (.func (.func 3) #[] #[]) [lv, .int .i64 kind] A0 (fun v _ => v = .bool true) := by
  have m1 : ∃ z : Nat, z ≤ its.length ∧ z ≤ 15 ∧ (if (15 : Int) < its.length then 15 else (its.length : Int)) = (z : Int) := by
    split
    · exact ⟨15, by omega, by omega, rfl⟩
    · exact ⟨its.length, by omega, by omega, rfl⟩
  obtain ⟨z, z0, z1, z3⟩ := m1
  obtain ⟨v', f1, f2, f3⟩ := hv.front (k2 := .i64) (h.ext (S := NoB) (A' := A0.alloc (.cells [] false 0)) Ext.alloc fun _ _ q => q) z0
  have fl : (its.take z).length = z := by rw [List.length_take]; omega
  rw [icells_take] at f2
  obtain ⟨a2, c2, A2, g1, g2, g3, g4⟩ := copyI A0 v' (its.take z) (by rw [fl]; exact f2) (by omega)
  rw [fl] at g1 g2 g4
  obtain ⟨a1, c1, rfl⟩ := h.val
  refine wF_func (first := []) (captured := []) t3 ⟨rfl, by decide⟩ ?_
  dsimp only [c3]
  simp [foldV, minV, z3, f1, g1]
  refine wC_loop_inv (EI A0 (.slice a2 z c2) z kind) ?_ z _ ⟨0, its.take z, by omega, rfl, rfl, by simp, by simp, by simp, g3, g2, fl⟩
  rintro m ⟨env, nn, dfs, A⟩ ⟨i, cur, k0, k1, k2, r0, r1, r5, e1, s1, hc⟩
  simp only at k1 k2 r0 r1 r5 e1 s1
  subst k1; subst k2
  by_cases hi : i < z
  · obtain ⟨d, o, c, bs, opn, q1, q2, q3, q4, q5⟩ := cellsOf s1 (by omega)
    cases q1
    have hic : i < cur.length := by omega
    have qe : (bs.drop (o + i * 2)).take 2 = [.int .i64 cur[i].kind, .string cur[i].body] := by
      rw [← icells_at cur i hic, q4, List.drop_take, List.take_take, List.drop_drop]
      congr 1; omega
    have q6 := icells_set cur i hic
    generalize cur[i] = x at qe q6
    obtain ⟨b1, b2⟩ := take2 qe
    rw [Nat.add_assoc] at b2
    have m2 : ∃ y : Int, 0 ≤ y ∧ y ≤ x.body.size ∧ (if (300 : Int) < x.body.size then 300 else (x.body.size : Int)) = y := by
      split
      · exact ⟨300, by omega, by omega, rfl⟩
      · exact ⟨_, by omega, by omega, rfl⟩
    obtain ⟨y, y0, y1, y3⟩ := m2
    have zs := sliceS_to x.body .i64 y y0 y1
    generalize (⟨⟨x.body.data.toList.take y.toNat⟩⟩ : ByteArray) = nb at zs
    have q7 := q5 (i * 2 + 1) (.string nb) (by omega)
    rw [q6 nb] at q7
    have q8 : o + (i * 2 + 2) ≤ bs.length := by omega
    have q9 : o + (i * 2 + 1) + 1 ≤ bs.length := by omega
    have ws := wrap_succ i (by omega)
    have od : A0.size ≤ d := g4 d ⟨o, z, c2, rfl⟩
    simp [r0, r1, r5, hi, idxA, q2, q3, b1, b2, foldV, minV, y3, zs, q8]
    exact ⟨m - 1, by omega, i + 1, _, by omega, rfl, rfl, by simp [r0], by simp [r1], by simpa using ws, e1.trans2 (Ext.set (S := fun j => j = d) rfl) (fun j hj q => by omega), q7, by simp [hc]⟩
  · simp [r0, r1, r5, hi]
    refine wC_loop_inv (FI A (.slice a2 z c2) cur kind) ?_ (cur.length + 1) _ ⟨0, by omega, rfl, rfl, by simp [r0], by simp [r1], by simp, Ext.refl⟩
    rintro m ⟨env, nn, dfs, A'⟩ ⟨k, k0, k1, k2, r0, r1, r6, e2⟩
    simp only at k1 k2 r0 r1 r6 e2
    subst k1; subst k2
    have s2 := s1.ext e2 fun _ _ q => q
    by_cases hk : k ≤ z
    · have s3 := s2.ext (S := NoB) (A' := A'.alloc (.cells [] false 0)) Ext.alloc fun _ _ q => q
      obtain ⟨v3, x1, x2, x3⟩ := front (k2 := .i64) s3 (by decide) hk (by omega)
      rw [icells_take] at x2
      have tl : (cur.take k).length = k := by rw [List.length_take]; omega
      obtain ⟨a4, c4, A4, y1, y2, y3, y4⟩ := copyI A' v3 (cur.take k) (by rw [tl]; exact x2) (by omega)
      rw [tl] at y1 y2
      generalize hrow : cur.take k = row at y1 y2 y3 y4 tl x2
      have y2' : SliceAt A4 2 (.slice a4 k c4) row.length (icells row) := by rw [tl]; exact y2
      have ws := wrap_succ k (by omega)
      simp [r0, r1, r6, hk, x1, y1]
      refine lay_ok row _ A4 _ y2'.read (by omega) fun A5 e5 => ?_
      have y5 := y2'.ext e5 fun _ _ q => q
      simp
      refine reflay_ok row _ A5 _ y5.read (by omega) fun A6 e6 => ?_
      have y6 := y5.ext e6 fun _ _ q => q
      simp
      refine size_ok row _ A6 _ y6.read (by omega) fun A7 e7 => ?_
      have y7 := y6.ext e7 fun _ _ q => q
      obtain ⟨a8, c8, A8, w1, w2, w3, w4⟩ := appI A7 (A7.alloc (.cells [.int .i64 kind, .string ⟨⟨[]⟩⟩] false 0)) _ (.slice (some ⟨A7.size, 0, none⟩) 1 1) row ⟨kind, ⟨⟨[]⟩⟩⟩ y7 Ext.alloc rfl (by simp [firstA, rdCells, ENDCAP]) (by omega)
      rw [tl] at w1 w2
      simp [r1, w1]
      have wl : (row ++ [(⟨kind, ⟨⟨[]⟩⟩⟩ : It)]).length = k + 1 := by simp [tl]
      refine lay_ok (row ++ [⟨kind, ⟨⟨[]⟩⟩⟩]) _ A8 _ w2.read (by rw [wl]; omega) fun A9 e9 => ?_
      have w9 := w2.ext e9 fun _ _ q => q
      simp
      refine reflay_ok (row ++ [⟨kind, ⟨⟨[]⟩⟩⟩]) _ A9 _ w9.read (by rw [wl]; omega) fun A10 e10 => ?_
      simp [r0, r1, r6]
      refine ⟨m - 1, by omega, k + 1, by omega, rfl, rfl, by simp [r0], by simp [r1], by simpa using ws, ?_⟩
      have o4 : ∀ j, Own (.slice a4 k c4) j → A'.size ≤ j := fun j hj => y4 j (by rw [tl]; exact hj)
      exact ((((((e2.trans y3).trans e5).trans e6).trans e7).trans2 w3 fun j hj q => by have := o4 j q; have := e2.size; omega).trans e9).trans e10
    · simp [r0, r1, r6, hk]
      refine yes_ok _ _ ?_
      simp
end Go.Proofs.Ytkojapepiojnjaa
