/- Texts of this claim, one behind the other. -/
import Derived.Test.YtigknpfjhegkgaaGreatClm
import Derived.KernelRfl
import Derived.Test.YtigknpfjhegkgaaGreatKn
section
/- Which option goes first. -/
namespace Go.Proofs.YtigknpfjhegkgaaGreat
open Go Go.AS
set_option maxRecDepth 100000
set_option linter.unusedSimpArgs false
set_option linter.unusedVariables false
attribute [local irreducible] Trie.set Trie.get Env.rd
attribute [local simp ↓] wV_b2s
attribute [local simp] Nat.add_assoc wD_cons'' wD_nil' wC_seq wC_ops wC_opsD_nil wC_cond wC_skip wC_ret wC_exit wC_block wO_cons' wO_nil wantedA wV_eq lop qop ev wL_some wL_none wPut envOf rd_set rd_leaf eqA thenC blockC wB_true wB_false endF unwindA resultsA resA tupleA rdCell rdCells wrCells cl fillP lay rep bi_eql bi_neq bi_lss bi_leq bi_gtr bi_geq bi_add bi_sub bs_eql bs_neq bi_shr4 unA get_set' AHeap.get_alloc oneCell beqd bned idxA

attribute [local simp] Op.len Op.one Op.take Op.at0 Op.head? Op.getCap Op.getAd Op.layAll Op.zeroC Op.vb

def rankO (x : Op) : Int := if x.sub = 2 then 0 else if x.sub = 0 then 0 else if x.sub = 1 then 1 else if x.sub = 7 then 2 else if x.sub = 6 then 3 else if x.sub = 8 then 4 else if x.sub = 3 then (if x.ad.echo then 5 else 6) else if x.sub = 4 then 7 else if x.sub = 5 then 8 else 9
theorem Op.c0 (x : Op) : x.cells[0]? = some (.int .i64 x.sub) := rfl
theorem Op.c26 (x : Op) : x.cells[26]? = some (.bool x.ad.echo) := rfl
theorem rrank_ok (A : AHeap) (x : Op) (Q : Value → AHeap → Prop) (hq : ∀ A', Ext NoB A A' → Q (.int .i64 (rankO x)) A') : wF T (.func (.func 10) #[] #[]) [.agg ⟨x.cells⟩] A Q := by
  refine wF_func (first := []) (captured := []) t10 ⟨rfl, by decide⟩ ?_
  dsimp only [c10]
  have e0 : Ext NoB A (A.alloc (.cells x.cells false 0)) := Ext.alloc
  have c0 := x.c0
  have c26 := x.c26
  unfold rankO at hq
  by_cases h2 : x.sub = 2
  · simp [h2] at hq
    simp [c0, h2]
    exact hq _ e0
  by_cases h0 : x.sub = 0
  · simp [h0] at hq
    simp [c0, h0]
    exact hq _ e0
  by_cases h1 : x.sub = 1
  · simp [h1] at hq
    simp [c0, h1]
    exact hq _ e0
  by_cases h7 : x.sub = 7
  · simp [h7] at hq
    simp [c0, h7]
    exact hq _ e0
  by_cases h6 : x.sub = 6
  · simp [h6] at hq
    simp [c0, h6]
    exact hq _ e0
  by_cases h8 : x.sub = 8
  · simp [h8] at hq
    simp [c0, h8]
    exact hq _ e0
  by_cases h3 : x.sub = 3
  · cases he : x.ad.echo with
    | true =>
      rw [he] at c26
      simp [h3, he] at hq
      simp [c0, h3, c26]
      exact hq _ e0
    | false =>
      rw [he] at c26
      simp [h3, he] at hq
      simp [c0, h3, c26]
      exact hq _ e0
  by_cases h4 : x.sub = 4
  · simp [h4] at hq
    simp [c0, h4]
    exact hq _ e0
  by_cases h5 : x.sub = 5
  · simp [h5] at hq
    simp [c0, h5]
    exact hq _ e0
  simp [h0, h1, h2, h3, h4, h5, h6, h7, h8] at hq
  simp [c0, h0, h1, h2, h3, h4, h5, h6, h7, h8]
  exact hq _ e0
end Go.Proofs.YtigknpfjhegkgaaGreat
end

section
/- A number's place in a row; the program's Rank. -/
namespace Go.Proofs.YtigknpfjhegkgaaGreat
open Go Go.AS
set_option maxRecDepth 100000
set_option linter.unusedSimpArgs false
set_option linter.unusedVariables false
attribute [local irreducible] Trie.set Trie.get Env.rd
attribute [local simp ↓] wV_b2s
attribute [local simp] Nat.add_assoc wD_cons'' wD_nil' wC_seq wC_ops wC_opsD_nil wC_cond wC_skip wC_ret wC_exit wC_block wO_cons' wO_nil wantedA wV_eq lop qop ev wL_some wL_none wPut envOf rd_set rd_leaf eqA thenC blockC wB_true wB_false endF unwindA resultsA resA tupleA rdCell rdCells wrCells cl fillP lay rep bi_eql bi_neq bi_lss bi_leq bi_gtr bi_geq bi_add bi_sub bs_eql bs_neq bi_shr4 unA get_set' AHeap.get_alloc oneCell beqd bned idxA

attribute [local simp] Op.len Op.one Op.take Op.at0 Op.head? Op.getCap Op.getAd Op.layAll Op.zeroC Op.vb

def ixO : List Int → Int → Nat → Int
  | [], _, _ => -1
  | u :: us, v, k => if v = u then (k : Int) else ixO us v (k + 1)
theorem index_ok (A : AHeap) (q c : Nat) (vs : List Int) (v : Int) (h : A.get q = some (.cells (vs.map (.int .i64 ·)) false 0)) (hn : vs.length < 1000) (Q : Value → AHeap → Prop) (hq : Q (.int .i64 (ixO vs v 0)) A) : wF T (.func (.func 21) #[] #[]) [.slice (some ⟨q, 0, none⟩) vs.length c, .int .i64 v] A Q := by
  refine wF_func (first := []) (captured := []) t21 ⟨rfl, by decide⟩ ?_
  dsimp only [c21]
  simp
  refine wC_loop_inv (fun m st => ∃ i, m + i = vs.length ∧ ixO vs v 0 = ixO (vs.drop i) v i ∧ st.n = 19 ∧ st.dfs = [] ∧ st.A = A ∧ (st.env.rd 0 = .slice (some ⟨q, 0, none⟩) vs.length c ∧ st.env.rd 1 = .int .i64 v ∧ st.env.rd 7 = .int .i64 (vs.length : Nat) ∧ st.env.rd 8 = .int .i64 (i : Nat))) ?_ vs.length _ ⟨0, rfl, rfl, rfl, rfl, rfl, by simp, by simp, by simp, by simp⟩
  rintro m ⟨env, n, dfs, A'⟩ ⟨i, k1, k2, k3, k4, k5, r0, r1, r7, r8⟩
  simp only at k3 k4 k5 r0 r1 r7 r8
  subst k3; subst k4; subst k5
  by_cases hi : i < vs.length
  · have hii : (i : Int) < (vs.length : Int) := by omega
    have hd : vs.drop i = vs[i] :: vs.drop (i + 1) := List.drop_eq_getElem_cons hi
    have hg : (vs.map (Value.int .i64 ·))[i]? = some (.int .i64 vs[i]) := by rw [List.getElem?_map, List.getElem?_eq_getElem hi]; rfl
    have hl : (vs.map (Value.int .i64 ·)).length = vs.length := by simp
    rw [hd] at k2
    generalize vs[i] = u at hg k2
    generalize vs.map (Value.int .i64 ·) = cs at h hg hl
    have hg' : ∀ hh : i < cs.length, cs[i]'hh = .int .i64 u := fun hh => Option.some.inj ((List.getElem?_eq_getElem hh).symm.trans hg)
    have w1 : IntKind.i64.wrap ((i : Int) + 1) = ((i + 1 : Nat) : Int) := IntWalk.i64_in _ (by omega)
    by_cases hu : v = u
    · simp [r0, r1, r7, r8, hi, hii, h, hg, hg', hl, hu, show i + 1 ≤ vs.length by omega]
      rw [k2] at hq
      simpa [ixO, hu] using hq
    · simp [r0, r1, r7, r8, hi, hii, h, hg, hg', hl, hu, w1, show i + 1 ≤ vs.length by omega]
      refine ⟨m - 1, by omega, i + 1, by omega, ?_, by omega⟩
      rw [k2]; simp [ixO, hu]
  · have hii : ¬ (i : Int) < (vs.length : Int) := by omega
    have hd : vs.drop i = [] := List.drop_eq_nil_of_le (by omega)
    rw [hd] at k2
    simp [r7, r8, hi, hii]
    rw [k2] at hq
    exact hq
end Go.Proofs.YtigknpfjhegkgaaGreat
end

section
/- The program's Rank. -/
namespace Go.Proofs.YtigknpfjhegkgaaGreat
open Go Go.AS
set_option maxRecDepth 100000
set_option linter.unusedSimpArgs false
set_option linter.unusedVariables false
attribute [local irreducible] Trie.set Trie.get Env.rd
attribute [local simp ↓] wV_b2s
attribute [local simp] Nat.add_assoc wD_cons'' wD_nil' wC_seq wC_ops wC_opsD_nil wC_cond wC_skip wC_ret wC_exit wC_block wO_cons' wO_nil wantedA wV_eq lop qop ev wL_some wL_none wPut envOf rd_set rd_leaf eqA thenC blockC wB_true wB_false endF unwindA resultsA resA tupleA rdCell rdCells wrCells cl fillP lay rep bi_eql bi_neq bi_lss bi_leq bi_gtr bi_geq bi_add bi_sub bs_eql bs_neq bi_shr4 unA get_set' AHeap.get_alloc oneCell beqd bned idxA

attribute [local simp] Op.len Op.one Op.take Op.at0 Op.head? Op.getCap Op.getAd Op.layAll Op.zeroC Op.vb

theorem ix_rank (x : Op) (h2 : ¬ x.sub = 2) (h0 : ¬ x.sub = 0) (h3 : x.sub = 3 → x.ad.echo = true) : (if 0 ≤ ixO [1, 7, 6, 8, 3, 9, 4, 5] x.sub 0 ∧ ¬ x.sub = 9 then ixO [1, 7, 6, 8, 3, 9, 4, 5] x.sub 0 + 1 else 9) = rankO x := by
  unfold rankO
  rw [if_neg h2, if_neg h0]
  by_cases h : x.sub = 1
  · simp [h, ixO]
  by_cases g7 : x.sub = 7
  · simp [g7, ixO]
  by_cases g6 : x.sub = 6
  · simp [g6, ixO]
  by_cases g8 : x.sub = 8
  · simp [g8, ixO]
  by_cases g3 : x.sub = 3
  · simp [g3, ixO, h3 g3]
  by_cases g9 : x.sub = 9
  · simp [g9, ixO]
  by_cases g4 : x.sub = 4
  · simp [g4, ixO]
  by_cases g5 : x.sub = 5
  · simp [g5, ixO]
  simp [h, g7, g6, g8, g3, g9, g4, g5, ixO]
end Go.Proofs.YtigknpfjhegkgaaGreat
end

section
/- The program's Rank, walked. -/
namespace Go.Proofs.YtigknpfjhegkgaaGreat
open Go Go.AS
set_option maxRecDepth 100000
set_option linter.unusedSimpArgs false
set_option linter.unusedVariables false
attribute [local irreducible] Trie.set Trie.get Env.rd
attribute [local simp ↓] wV_b2s
attribute [local simp] Nat.add_assoc wD_cons'' wD_nil' wC_seq wC_ops wC_opsD_nil wC_cond wC_skip wC_ret wC_exit wC_block wO_cons' wO_nil wantedA wV_eq lop qop ev wL_some wL_none wPut envOf rd_set rd_leaf eqA thenC blockC wB_true wB_false endF unwindA resultsA resA tupleA rdCell rdCells wrCells cl fillP lay rep bi_eql bi_neq bi_lss bi_leq bi_gtr bi_geq bi_add bi_sub bs_eql bs_neq bi_shr4 unA get_set' AHeap.get_alloc oneCell beqd bned idxA

attribute [local simp] Op.len Op.one Op.take Op.at0 Op.head? Op.getCap Op.getAd Op.layAll Op.zeroC Op.vb

theorem rank_ok (A : AHeap) (x : Op) (Q : Value → AHeap → Prop) (hq : ∀ A', Ext NoB A A' → Q (.int .i64 (rankO x)) A') : wF T (.func (.func 9) #[] #[]) [.agg ⟨x.cells⟩] A Q := by
  refine wF_func (first := []) (captured := []) t9 ⟨rfl, by decide⟩ ?_
  dsimp only [c9]
  have e0 : Ext NoB A (A.alloc (.cells x.cells false 0)) := Ext.alloc
  have c0 := x.c0
  have c26 := x.c26
  by_cases h2 : x.sub = 2
  · simp [rankO, h2] at hq
    simp [c0, h2]
    exact hq _ e0
  by_cases h0 : x.sub = 0
  · simp [rankO, h0] at hq
    simp [c0, h0]
    exact hq _ e0
  by_cases h3 : x.sub = 3 ∧ x.ad.echo = false
  · obtain ⟨h3, he⟩ := h3
    rw [he] at c26
    simp [rankO, h3, he] at hq
    simp [c0, h3, c26]
    exact hq _ e0
  have h3' : x.sub = 3 → x.ad.echo = true := fun q => by
    cases he : x.ad.echo with
    | true => rfl
    | false => exact absurd ⟨q, he⟩ h3
  rw [← ix_rank x h2 h0 h3'] at hq
  by_cases g3 : x.sub = 3
  · have he := h3' g3
    rw [he] at c26
    simp [c0, g3, c26]
    refine index_ok _ (A.size + 1) 8 [1, 7, 6, 8, 3, 9, 4, 5] 3 (by simp) (by decide) _ ?_
    have i3 : ixO [1, 7, 6, 8, 3, 9, 4, 5] 3 0 = 4 := by decide
    have w5 : IntKind.i64.wrap 5 = 5 := by decide
    rw [g3, i3] at hq
    rw [i3]
    simp at hq
    simp [c0, g3, c26, w5]
    exact hq _ (e0.trans Ext.alloc)
  · simp [c0, h2, h0, g3]
    refine index_ok _ (A.size + 1) 8 [1, 7, 6, 8, 3, 9, 4, 5] x.sub (by simp) (by decide) _ ?_
    have hb : -1 ≤ ixO [1, 7, 6, 8, 3, 9, 4, 5] x.sub 0 ∧ ixO [1, 7, 6, 8, 3, 9, 4, 5] x.sub 0 ≤ 7 := by
      simp only [ixO]
      (repeat' split) <;> omega
    generalize ixO [1, 7, 6, 8, 3, 9, 4, 5] x.sub 0 = i at hq hb ⊢
    have w1 : IntKind.i64.wrap (i + 1) = i + 1 := IntWalk.i64_in _ (by omega)
    have w9 : IntKind.i64.wrap 9 = 9 := by decide
    have e1 := hq ((A.alloc (.cells x.cells false 0)).alloc (.cells [.int .i64 1, .int .i64 7, .int .i64 6, .int .i64 8, .int .i64 3, .int .i64 9, .int .i64 4, .int .i64 5] false 0)) (e0.trans Ext.alloc)
    by_cases p0 : 0 ≤ i
    · by_cases p9 : x.sub = 9
      · rw [if_neg (by simp [p9])] at e1
        simp [c0, p0, p9, w1, w9]
        exact e1
      · rw [if_pos ⟨p0, p9⟩] at e1
        simp [c0, p0, p9, w1, w9]
        exact e1
    · rw [if_neg (fun q => p0 q.1)] at e1
      simp [c0, p0, w1, w9]
      exact e1
end Go.Proofs.YtigknpfjhegkgaaGreat
end

section
/- A row of places copied. -/
namespace Go.Proofs.YtigknpfjhegkgaaGreat
open Go Go.AS
set_option maxRecDepth 100000
set_option linter.unusedSimpArgs false
set_option linter.unusedVariables false
attribute [local irreducible] Trie.set Trie.get Env.rd
attribute [local simp ↓] wV_b2s
attribute [local simp] Nat.add_assoc wD_cons'' wD_nil' wC_seq wC_ops wC_opsD_nil wC_cond wC_skip wC_ret wC_exit wC_block wO_cons' wO_nil wantedA wV_eq lop qop ev wL_some wL_none wPut envOf rd_set rd_leaf eqA thenC blockC wB_true wB_false endF unwindA resultsA resA tupleA rdCell rdCells wrCells cl fillP lay rep bi_eql bi_neq bi_lss bi_leq bi_gtr bi_geq bi_add bi_sub bs_eql bs_neq bi_shr4 unA get_set' AHeap.get_alloc oneCell beqd bned idxA


theorem pc_one (l : List Nat) : (l.map pc).all oneCell = true := by
  induction l with
  | nil => rfl
  | cons x l ih => simp only [List.map_cons, List.all_cons, ih]; rfl
theorem copyP (A : AHeap) (x : Value) (l : List Nat) (hx' : ReadAt (A.alloc (.cells [] false 0)) 1 x l.length (l.map pc)) (hn : l.length < 1000000) :
    ∃ a c A', appA (A.alloc (.cells [] false 0)) 1 8 (.slice (some ⟨A.size, 0, none⟩) 0 0) x = some (.slice a l.length c, A') ∧ SliceAt A' 1 (.slice a l.length c) l.length (l.map pc) ∧ Ext NoB A A' ∧ ∀ j, Own (.slice a l.length c) j → A.size ≤ j := by
  have e : Ext NoB A (A.alloc (.cells [] false 0)) := Ext.alloc
  have hf := hx'.firstA (Nat.le_refl _)
  rw [List.take_of_length_le (by rw [hx'.length]; omega)] at hf
  have s0 : SliceAt (A.alloc (.cells [] false 0)) 1 (.slice (some ⟨A.size, 0, none⟩) 0 0) 0 [] := .inr ⟨A.size, 0, 0, [], 0, rfl, by rw [AHeap.get_alloc, if_pos rfl], by simp, by simp, .inr (.inl ⟨rfl, by decide⟩)⟩
  obtain ⟨v', A', k1, k2, k3, k4⟩ := s0.append (x := x) (m := l.length) (bytes := 8) (new := l.map pc) (by decide) hx'.lenA hf (pc_one l) (by simp) (by omega) (by decide) (by obtain ⟨a, c, rfl⟩ := hx'.val; simp [isStr])
  obtain ⟨a', c', hv⟩ := k2.read.val
  subst hv
  rw [Nat.zero_add] at k1 k2 k4
  refine ⟨a', c', A', k1, by simpa using k2, e.trans2 (S' := Own (.slice (some ⟨A.size, 0, none⟩) 0 0)) k3 ?_, fun j hj => ?_⟩
  · rintro j hj ⟨o, n, c, q⟩; cases q; omega
  · rcases k4 j hj with ⟨o, n, c, q⟩ | q
    · cases q; exact Nat.le_refl _
    · simp at q; omega
end Go.Proofs.YtigknpfjhegkgaaGreat
end

section
/- Rows of options: alike, and one more. -/
namespace Go.Proofs.YtigknpfjhegkgaaGreat
open Go Go.AS
set_option maxRecDepth 100000
set_option linter.unusedSimpArgs false
set_option linter.unusedVariables false
attribute [local irreducible] Trie.set Trie.get Env.rd
attribute [local simp ↓] wV_b2s
attribute [local simp] Nat.add_assoc wD_cons'' wD_nil' wC_seq wC_ops wC_opsD_nil wC_cond wC_skip wC_ret wC_exit wC_block wO_cons' wO_nil wantedA wV_eq lop qop ev wL_some wL_none wPut envOf rd_set rd_leaf eqA thenC blockC wB_true wB_false endF unwindA resultsA resA tupleA rdCell rdCells wrCells cl fillP lay rep bi_eql bi_neq bi_lss bi_leq bi_gtr bi_geq bi_add bi_sub bs_eql bs_neq bi_shr4 unA get_set' AHeap.get_alloc oneCell beqd bned idxA
attribute [local simp] Op.len Op.one Op.take Op.at0 Op.head? Op.getCap Op.getAd Op.layAll Op.zeroC Op.vb
def opsC (l : List Op) : List Value := l.flatMap Op.cells
theorem opsC_len : ∀ xs : List Op, (opsC xs).length = xs.length * 38
  | [] => rfl
  | x :: xs => by
    have := opsC_len xs
    simp only [opsC, List.flatMap_cons, List.length_append, List.length_cons, Op.len] at this ⊢
    omega
theorem opsC_at : ∀ (xs : List Op) (k : Nat) (h : k < xs.length), ((opsC xs).drop (k * 38)).take 38 = xs[k].cells
  | [], k, h => by simp at h
  | y :: xs, 0, h => by
    show ((y.cells ++ opsC xs).drop 0).take 38 = y.cells
    rw [List.drop_zero, List.take_left' (Op.len y)]
  | y :: xs, k + 1, h => by
    have := opsC_at xs k (by simpa using h)
    show ((y.cells ++ opsC xs).drop ((k + 1) * 38)).take 38 = (xs[k]'(by simpa using h)).cells
    rw [Nat.succ_mul, Nat.add_comm, ← List.drop_drop, List.drop_left' (Op.len y)]
    exact this
theorem opsC_app (l : List Op) (x : Op) : opsC (l ++ [x]) = opsC l ++ x.cells := by simp [opsC]
theorem wrap_succ (n : Nat) (h : n < 9000000000000000000) : IntKind.i64.wrap ((n : Int) + 1) = ((n + 1 : Nat) : Int) := by
  rw [show ((n : Int) + 1) = ((n + 1 : Nat) : Int) by omega]; exact IntWalk.i64_in _ (by omega)
theorem same_ok (v1 v2 : Value) (l1 l2 : List Op) (A : AHeap) (Q : Value → AHeap → Prop) (h1 : ReadAt A 38 v1 l1.length (opsC l1)) (h2 : ReadAt A 38 v2 l2.length (opsC l2)) (hb : l1.length < 1000000) (hq : Q (.bool (decide (l1 = l2))) A) : wF T (.func (.func 13) #[] #[]) [v1, v2] A Q := by
  obtain ⟨a1, c1, rfl⟩ := h1.val
  obtain ⟨a2, c2, rfl⟩ := h2.val
  refine wF_func (first := []) (captured := []) t13 ⟨rfl, by decide⟩ ?_
  dsimp only [c13]
  by_cases hn : l1.length = l2.length
  · have hn' : ((l1.length : Int) = (l2.length : Int)) := by omega
    simp [hn']
    refine wC_loop_inv (fun m st => ∃ i, m + i = l1.length ∧ l1.take i = l2.take i ∧ st.n = 26 ∧ st.dfs = [] ∧ st.A = A ∧ st.env.rd 0 = .slice a1 l1.length c1 ∧ st.env.rd 1 = .slice a2 l2.length c2 ∧ st.env.rd 5 = .int .i64 (i : Nat)) ?_ l1.length _ ⟨0, rfl, rfl, rfl, rfl, rfl, by simp, by simp, by simp⟩
    rintro m ⟨env, n, dfs, A'⟩ ⟨i, k1, k2, k3, k4, k5, k6, k7, k8⟩
    simp only at k3 k4 k5 k6 k7 k8
    subst k3; subst k4; subst k5
    by_cases hi : i < l1.length
    · have hi2 : i < l2.length := by omega
      obtain ⟨d1, p1, cc1, bs1, ro1, opn1, q1, q2, q3, q4⟩ := h1.elem2 hi
      obtain ⟨d2, p2, cc2, bs2, ro2, opn2, r1, r2, r3, r4⟩ := h2.elem2 hi2
      cases q1; cases r1
      rw [Nat.add_assoc] at q3 r3
      rw [opsC_at l1 i hi] at q4
      rw [opsC_at l2 i hi2] at r4
      have e1 : l1.take (i + 1) = l1.take i ++ [l1[i]] := by rw [List.take_add_one, List.getElem?_eq_getElem hi]; rfl
      have e2 : l2.take (i + 1) = l2.take i ++ [l2[i]] := by rw [List.take_add_one, List.getElem?_eq_getElem hi2]; rfl
      have hne : l1[i] ≠ l2[i] → l1 ≠ l2 := fun q z => q (by subst z; rfl)
      generalize l1[i] = x at q4 e1 hne
      generalize l2[i] = y at r4 e2 hne
      have ws := wrap_succ i (by omega)
      by_cases he : x = y
      · subst he
        simp [k6, k7, k8, hi, hi2, q2, q3, q4, r2, r3, r4, eqOp]
        refine ⟨m - 1, by omega, i + 1, by omega, ?_, by simpa using ws⟩
        rw [e1, e2, k2]
      · have hne := hne he
        have hf : decide (l1 = l2) = false := by simp [hne]
        rw [hf] at hq
        simp [k6, k7, k8, hi, hi2, q2, q3, q4, r2, r3, r4, eqOp, he]
        exact hq
    · have hl : l1 = l2 := by
        have := k2
        rwa [List.take_of_length_le (by omega), List.take_of_length_le (by omega)] at this
      have hf : decide (l1 = l2) = true := by simp [hl]
      rw [hf] at hq
      simp [k6, k7, k8, hi]
      exact hq
  · have hne : l1 ≠ l2 := fun q => hn (by rw [q])
    have hn' : ¬ ((l1.length : Int) = (l2.length : Int)) := by omega
    have hf : decide (l1 = l2) = false := by simp [hne]
    rw [hf] at hq
    simp [hn']
    exact hq
/-- One option at a slice's end. -/
theorem appO (A A1 : AHeap) (v x : Value) (l : List Op) (t : Op) (h : SliceAt A 38 v l.length (opsC l)) (e : Ext NoB A A1) (hx : lenA x = some 1) (hf : firstA A1 38 1 x = some t.cells) (hs : isStr x = false) (hn : l.length < 1000000) :
    ∃ a' c' A', appA A1 38 288 v x = some (.slice a' (l.length + 1) c', A') ∧ SliceAt A' 38 (.slice a' (l.length + 1) c') (l ++ [t]).length (opsC (l ++ [t])) ∧ Ext (Own v) A A' ∧ ∀ j, Own (.slice a' (l.length + 1) c') j → Own v j ∨ A.size ≤ j := by
  obtain ⟨v', A', k1, k2, k3, k4⟩ := (h.ext e fun _ _ q => q).append (x := x) (m := 1) (bytes := 288) (new := t.cells) (by decide) hx hf (Op.one t) (by rw [Op.len]) (by omega) (by decide) (by intro q; rw [hs] at q; cases q)
  obtain ⟨a', c', hv⟩ := k2.read.val
  subst hv
  refine ⟨a', c', A', k1, by rw [opsC_app]; simpa using k2, (e.mono fun _ _ q => q.elim).trans k3, fun j hj => ?_⟩
  rcases k4 j hj with q | q
  · exact .inl q
  · exact .inr (Nat.le_trans e.size q)
end Go.Proofs.YtigknpfjhegkgaaGreat
end

section
/- The ranks of places, compared. -/
namespace Go.Proofs.YtigknpfjhegkgaaGreat
open Go Go.AS
set_option maxRecDepth 100000
set_option linter.unusedSimpArgs false
set_option linter.unusedVariables false
attribute [local irreducible] Trie.set Trie.get Env.rd
attribute [local simp ↓] wV_b2s
attribute [local simp] Nat.add_assoc wD_cons'' wD_nil' wC_seq wC_ops wC_opsD_nil wC_cond wC_skip wC_ret wC_exit wC_block wO_cons' wO_nil wantedA wV_eq lop qop ev wL_some wL_none wPut envOf rd_set rd_leaf eqA thenC blockC wB_true wB_false endF unwindA resultsA resA tupleA rdCell rdCells wrCells cl fillP lay rep bi_eql bi_neq bi_lss bi_leq bi_gtr bi_geq bi_add bi_sub bs_eql bs_neq bi_shr4 unA get_set' AHeap.get_alloc oneCell beqd bned idxA
attribute [local simp] Op.len Op.one Op.take Op.at0 Op.head? Op.getCap Op.getAd Op.layAll Op.zeroC Op.vb

def rkO (l : List Op) (i : Nat) : Int := match l[i]? with
  | some x => rankO x
  | none => -1
def szO (l : List Op) (i : Nat) : Nat := match l[i]? with
  | some x => takes x
  | none => 0
theorem rkO_at {l : List Op} {i : Nat} (h : i < l.length) : rkO l i = rankO l[i] := by
  unfold rkO; rw [List.getElem?_eq_getElem h]
theorem szO_at {l : List Op} {i : Nat} (h : i < l.length) : szO l i = takes l[i] := by
  unfold szO; rw [List.getElem?_eq_getElem h]
theorem rankO_in (x : Op) : 0 ≤ rankO x ∧ rankO x < 10 := by
  unfold rankO
  (repeat' split) <;> omega
theorem rkO_in {l : List Op} {i : Nat} (h : 0 ≤ rkO l i) : i < l.length := by
  unfold rkO at h
  by_cases q : i < l.length
  · exact q
  · rw [List.getElem?_eq_none (by omega)] at h
    simp at h
/-- The rank of the thing at a place. -/
def numV (b : Nat) : Value := .func (.func 23) #[] #[.pointer (some ⟨b, 0, none⟩)]
theorem num_ok (A : AHeap) (b opn : Nat) (lv : Value) (l : List Op) (i : Nat) (hb : A.get b = some (.cells [lv] false opn)) (hl : ReadAt A 38 lv l.length (opsC l)) (hi : i < l.length) (hn : l.length < 1000000) (Q : Value → AHeap → Prop) (hq : ∀ A', Ext NoB A A' → Q (.int .i64 (rkO l i)) A') : wF T (numV b) [.int .i64 (i : Nat)] A Q := by
  refine wF_func (first := []) (captured := [.pointer (some ⟨b, 0, none⟩)]) t23 ⟨rfl, by decide⟩ ?_
  dsimp only [c23]
  obtain ⟨d1, p1, cc1, bs1, ro1, opn1, q1, q2, q3, q4⟩ := hl.elem2 hi
  rw [opsC_at l i hi] at q4
  rw [Nat.add_assoc] at q3
  rw [rkO_at hi] at hq
  subst q1
  generalize l[i] = x at q4 hq
  simp [hb, hi, q2, q3, q4]
  refine rank_ok A x _ fun A' e => ?_
  simp
  exact hq _ e
/-- What compares two places. -/
def cmpV (k : Nat) : Value := .func (.func 31) #[] #[.pointer (some ⟨k, 0, none⟩)]
theorem cmp_ok (A : AHeap) (b k d opn opk : Nat) (lv : Value) (l : List Op) (hb : A.get b = some (.cells [lv] false opn)) (hk : A.get k = some (.cells [numV b] false opk)) (hl : ReadAt A 38 lv l.length (opsC l)) (hn : l.length < 1000000) (hbd : b ≠ d) (hkd : k ≠ d) (hld : ¬ Own lv d) : Cmp (rkO l) (cmpV k) d A := by
  intro B eB x y hx hy Q hq
  have hx' := rkO_in hx.2
  have hy' := rkO_in hy.2
  have gb := eB.get hb hbd
  have gk := eB.get hk hkd
  have hl' := hl.ext eB fun j hj q => hld (by cases q; exact hj)
  refine wF_func (first := []) (captured := [.pointer (some ⟨k, 0, none⟩)]) t31 ⟨rfl, by decide⟩ ?_
  dsimp only [c31]
  simp
  refine wC_opsD_chk ?_
  simp [gk]
  refine num_ok B b opn lv l x gb hl' hx' hn _ fun B1 e1 => ?_
  have gk1 := e1.get gk id
  simp [gk1]
  refine num_ok B1 b opn lv l y (e1.get gb id) (hl'.ext e1 fun _ _ q => q) hy' hn _ fun B2 e2 => ?_
  have r1 := rankO_in (l[x])
  have r2 := rankO_in (l[y])
  rw [rkO_at hx', rkO_at hy'] at hq ⊢
  have w : IntKind.i64.wrap (rankO l[x] - rankO l[y]) = rankO l[x] - rankO l[y] := IntWalk.i64_in _ (by omega)
  simp [w]
  refine wE_intro ?_ ?_
  · simp only [List.all_cons, List.all_nil, chkOk, List.nil_append, List.cons_append, List.getElem?_cons_succ, List.getElem?_cons_zero]
    simp [Bx, gk, gk1, numV, vbeq, vbeq.vbeqs]
  · simp
    exact hq B2 _ (e1.trans e2) (by omega)
theorem RowAt.of {A : AHeap} {d o c : Nat} {L : List Nat} (h : SliceAt A 1 (.slice (some ⟨d, o, none⟩) L.length c) L.length (L.map pc)) : RowAt A d o L := by
  rcases h with ⟨h, _⟩ | ⟨d', o', c', bs, opn, h1, h2, h3, h4, _⟩
  · cases h
  · cases h1
    exact ⟨bs, opn, h2, by omega, by rw [h4, Nat.mul_one]⟩
theorem clone_ok (A : AHeap) (d o c : Nat) (L : List Nat) (hr : ReadAt A 1 (.slice (some ⟨d, o, none⟩) L.length c) L.length (L.map pc)) (hn : L.length < 1000000) (Q : Value → AHeap → Prop)
    (hq : ∀ A' d' o' c', Ext NoB A A' → RowAt A' d' o' L → A.size ≤ d' → Q (.slice (some ⟨d', o', none⟩) L.length c') A') : wF T (.func (.func 29) #[] #[]) [.slice (some ⟨d, o, none⟩) L.length c] A Q := by
  refine wF_func (first := []) (captured := []) t29 ⟨rfl, by decide⟩ ?_
  dsimp only [c29]
  simp
  by_cases h0 : L = []
  · subst h0
    simp [appA, lenA, fitsA, isStr, firstA]
    exact hq _ _ _ _ Ext.alloc ⟨[], 0, by simp, by simp, rfl⟩ (Nat.le_refl _)
  obtain ⟨a', c', A', k1, k2, k3, k4⟩ := copyP A (.slice (some ⟨d, o, none⟩) L.length c) L (hr.ext (S := NoB) Ext.alloc fun _ _ q => q) hn
  simp [k1]
  have hp : 0 < L.length := List.length_pos_iff.2 h0
  rcases k2 with ⟨h, _⟩ | ⟨d', o', c'', bs, opn, h1, h2, h3, h4, h5⟩
  · have h := (Value.slice.inj h).2.1; omega
  · have h1' := Value.slice.inj h1
    obtain rfl := h1'.1; obtain rfl := h1'.2.2
    exact hq A' _ _ _ k3 ⟨bs, opn, h2, by omega, by rw [h4, Nat.mul_one]⟩ (k4 d' ⟨o', _, _, rfl⟩)
theorem sorted_ok (A : AHeap) (b opn d o c : Nat) (lv : Value) (l : List Op) (L : List Nat) (hb : A.get b = some (.cells [lv] false opn)) (hl : ReadAt A 38 lv l.length (opsC l)) (hn : l.length ≤ 30) (hL : L.Pairwise (· < ·)) (hLn : L.length ≤ 30) (hv : ∀ y ∈ L, y < l.length)
    (hr : ReadAt A 1 (.slice (some ⟨d, o, none⟩) L.length c) L.length (L.map pc)) (hlv : ∀ j, Own lv j → j < A.size) (Q : Value → AHeap → Prop)
    (hq : ∀ A' d' o' c' L', Ext NoB A A' → IsOrd (rkO l) L L' → RowAt A' d' o' L' → A.size ≤ d' → Q (.slice (some ⟨d', o', none⟩) L.length c') A') : wF T (.func (.func 22) #[] #[]) [.slice (some ⟨d, o, none⟩) L.length c, numV b] A Q := by
  refine wF_func (first := []) (captured := []) t22 ⟨rfl, by decide⟩ ?_
  dsimp only [c22]
  simp [numV]
  generalize hB : AHeap.alloc A _ = B
  have eB : Ext NoB A B := by subst hB; exact Ext.alloc
  have gB : B.get A.size = some (.cells [numV b] false 0) := by subst hB; simp [numV]
  have zB : B.size = A.size + 1 := by subst hB; rfl
  refine clone_ok B d o c L (hr.ext eB fun _ _ q => q) (by omega) _ fun C d' o' c' e1 r1 l1 => ?_
  have lb := AHeap.get_lt hb
  simp
  refine sorts_ok (rkO l) C d' o' c' L (cmpV A.size) r1 (cmp_ok C b A.size d' opn 0 lv l ((eB.trans e1).get hb id) (e1.get gB id) (hl.ext (eB.trans e1) fun _ _ q => q) (by omega) (by omega) (by omega) (fun q => by have := hlv _ q; omega)) hL hLn
    (fun y hy => ⟨by have := hv y hy; omega, by rw [rkO_at (hv y hy)]; exact (rankO_in _).1⟩) _ fun D L' e2 o2 r2 => ?_
  simp
  refine hq D d' o' c' L' ?_ o2 r2 (by omega)
  exact (eB.trans e1).trans2 e2 fun j hj q => by cases q; omega
end Go.Proofs.YtigknpfjhegkgaaGreat
end
