/- Texts of this claim, one behind the other. -/
import Derived.Test.YtigknpfjhegkgaaGreatClm
import Derived.KernelRfl
section
/- Which option goes first. -/
namespace Go.Proofs.YtigknpfjhegkgaaGreat
open Go Go.AS
set_option maxRecDepth 100000
set_option linter.unusedSimpArgs false
set_option linter.unusedVariables false
attribute [local irreducible] Trie.set Trie.get Env.rd
attribute [local simp ↓] wV_b2s
attribute [local simp] Nat.add_assoc wD_cons'' wD_nil' wC_seq wC_ops wC_opsD_nil wC_cond wC_skip wC_ret wC_exit wC_block wO_cons' wO_nil wantedA wV_eq lop qop ev wL_some wL_none wPut envOf rd_set rd_leaf eqA thenC blockC wB_true wB_false endF unwindA resultsA resA tupleA rdCell rdCells wrCells cl fillP lay rep bi_eql bi_neq bi_lss bi_leq bi_gtr bi_geq bi_add bi_sub bs_eql bs_neq bi_shr4 unA get_set' AHeap.get_alloc oneCell beqd bned idxA

attribute [local simp] Op.len Op.one Op.take Op.at0 Op.head? Op.getCap Op.getAd Op.layAll Op.zeroC Op.vb

def rankO (x : Op) : Int := if x.sub = 2 then 0 else if x.sub = 0 then 0 else if x.sub = 1 then 1 else if x.sub = 7 then 2 else if x.sub = 6 then 3 else if x.sub = 8 then 4 else if x.sub = 3 then (if x.ad.echo then 5 else 6) else if x.sub = 4 then 7 else if x.sub = 5 then 8 else 9
theorem Op.c0 (x : Op) : x.cells[0]? = some (.int .i64 x.sub) := rfl
theorem Op.c26 (x : Op) : x.cells[26]? = some (.bool x.ad.echo) := rfl
theorem rrank_ok (A : AHeap) (x : Op) (Q : Value → AHeap → Prop) (hq : ∀ A', Ext NoB A A' → Q (.int .i64 (rankO x)) A') : wF T (.func (.func 10) #[] #[]) [.agg ⟨x.cells⟩] A Q := by
  refine wF_func (first := []) (captured := []) t10 ⟨rfl, by decide⟩ ?_
  dsimp only [c10]
  have e0 : Ext NoB A (A.alloc (.cells x.cells false 0)) := Ext.alloc
  have c0 := x.c0
  have c26 := x.c26
  unfold rankO at hq
  by_cases h2 : x.sub = 2
  · simp [h2] at hq
    simp [c0, h2]
    exact hq _ e0
  by_cases h0 : x.sub = 0
  · simp [h0] at hq
    simp [c0, h0]
    exact hq _ e0
  by_cases h1 : x.sub = 1
  · simp [h1] at hq
    simp [c0, h1]
    exact hq _ e0
  by_cases h7 : x.sub = 7
  · simp [h7] at hq
    simp [c0, h7]
    exact hq _ e0
  by_cases h6 : x.sub = 6
  · simp [h6] at hq
    simp [c0, h6]
    exact hq _ e0
  by_cases h8 : x.sub = 8
  · simp [h8] at hq
    simp [c0, h8]
    exact hq _ e0
  by_cases h3 : x.sub = 3
  · cases he : x.ad.echo with
    | true =>
      rw [he] at c26
      simp [h3, he] at hq
      simp [c0, h3, c26]
      exact hq _ e0
    | false =>
      rw [he] at c26
      simp [h3, he] at hq
      simp [c0, h3, c26]
      exact hq _ e0
  by_cases h4 : x.sub = 4
  · simp [h4] at hq
    simp [c0, h4]
    exact hq _ e0
  by_cases h5 : x.sub = 5
  · simp [h5] at hq
    simp [c0, h5]
    exact hq _ e0
  simp [h0, h1, h2, h3, h4, h5, h6, h7, h8] at hq
  simp [c0, h0, h1, h2, h3, h4, h5, h6, h7, h8]
  exact hq _ e0
end Go.Proofs.YtigknpfjhegkgaaGreat
end

section
/- A number's place in a row; the program's Rank. -/
namespace Go.Proofs.YtigknpfjhegkgaaGreat
open Go Go.AS
set_option maxRecDepth 100000
set_option linter.unusedSimpArgs false
set_option linter.unusedVariables false
attribute [local irreducible] Trie.set Trie.get Env.rd
attribute [local simp ↓] wV_b2s
attribute [local simp] Nat.add_assoc wD_cons'' wD_nil' wC_seq wC_ops wC_opsD_nil wC_cond wC_skip wC_ret wC_exit wC_block wO_cons' wO_nil wantedA wV_eq lop qop ev wL_some wL_none wPut envOf rd_set rd_leaf eqA thenC blockC wB_true wB_false endF unwindA resultsA resA tupleA rdCell rdCells wrCells cl fillP lay rep bi_eql bi_neq bi_lss bi_leq bi_gtr bi_geq bi_add bi_sub bs_eql bs_neq bi_shr4 unA get_set' AHeap.get_alloc oneCell beqd bned idxA

attribute [local simp] Op.len Op.one Op.take Op.at0 Op.head? Op.getCap Op.getAd Op.layAll Op.zeroC Op.vb

def ixO : List Int → Int → Nat → Int
  | [], _, _ => -1
  | u :: us, v, k => if v = u then (k : Int) else ixO us v (k + 1)
theorem index_ok (A : AHeap) (q c : Nat) (vs : List Int) (v : Int) (h : A.get q = some (.cells (vs.map (.int .i64 ·)) false 0)) (hn : vs.length < 1000) (Q : Value → AHeap → Prop) (hq : Q (.int .i64 (ixO vs v 0)) A) : wF T (.func (.func 21) #[] #[]) [.slice (some ⟨q, 0, none⟩) vs.length c, .int .i64 v] A Q := by
  refine wF_func (first := []) (captured := []) t21 ⟨rfl, by decide⟩ ?_
  dsimp only [c21]
  simp
  refine wC_loop_inv (fun m st => ∃ i, m + i = vs.length ∧ ixO vs v 0 = ixO (vs.drop i) v i ∧ st.n = 19 ∧ st.dfs = [] ∧ st.A = A ∧ (st.env.rd 0 = .slice (some ⟨q, 0, none⟩) vs.length c ∧ st.env.rd 1 = .int .i64 v ∧ st.env.rd 7 = .int .i64 (vs.length : Nat) ∧ st.env.rd 8 = .int .i64 (i : Nat))) ?_ vs.length _ ⟨0, rfl, rfl, rfl, rfl, rfl, by simp, by simp, by simp, by simp⟩
  rintro m ⟨env, n, dfs, A'⟩ ⟨i, k1, k2, k3, k4, k5, r0, r1, r7, r8⟩
  simp only at k3 k4 k5 r0 r1 r7 r8
  subst k3; subst k4; subst k5
  by_cases hi : i < vs.length
  · have hii : (i : Int) < (vs.length : Int) := by omega
    have hd : vs.drop i = vs[i] :: vs.drop (i + 1) := List.drop_eq_getElem_cons hi
    have hg : (vs.map (Value.int .i64 ·))[i]? = some (.int .i64 vs[i]) := by rw [List.getElem?_map, List.getElem?_eq_getElem hi]; rfl
    have hl : (vs.map (Value.int .i64 ·)).length = vs.length := by simp
    rw [hd] at k2
    generalize vs[i] = u at hg k2
    generalize vs.map (Value.int .i64 ·) = cs at h hg hl
    have hg' : ∀ hh : i < cs.length, cs[i]'hh = .int .i64 u := fun hh => Option.some.inj ((List.getElem?_eq_getElem hh).symm.trans hg)
    have w1 : IntKind.i64.wrap ((i : Int) + 1) = ((i + 1 : Nat) : Int) := IntWalk.i64_in _ (by omega)
    by_cases hu : v = u
    · simp [r0, r1, r7, r8, hi, hii, h, hg, hg', hl, hu, show i + 1 ≤ vs.length by omega]
      rw [k2] at hq
      simpa [ixO, hu] using hq
    · simp [r0, r1, r7, r8, hi, hii, h, hg, hg', hl, hu, w1, show i + 1 ≤ vs.length by omega]
      refine ⟨m - 1, by omega, i + 1, by omega, ?_, by omega⟩
      rw [k2]; simp [ixO, hu]
  · have hii : ¬ (i : Int) < (vs.length : Int) := by omega
    have hd : vs.drop i = [] := List.drop_eq_nil_of_le (by omega)
    rw [hd] at k2
    simp [r7, r8, hi, hii]
    rw [k2] at hq
    exact hq
end Go.Proofs.YtigknpfjhegkgaaGreat
end

section
/- The program's Rank. -/
namespace Go.Proofs.YtigknpfjhegkgaaGreat
open Go Go.AS
set_option maxRecDepth 100000
set_option linter.unusedSimpArgs false
set_option linter.unusedVariables false
attribute [local irreducible] Trie.set Trie.get Env.rd
attribute [local simp ↓] wV_b2s
attribute [local simp] Nat.add_assoc wD_cons'' wD_nil' wC_seq wC_ops wC_opsD_nil wC_cond wC_skip wC_ret wC_exit wC_block wO_cons' wO_nil wantedA wV_eq lop qop ev wL_some wL_none wPut envOf rd_set rd_leaf eqA thenC blockC wB_true wB_false endF unwindA resultsA resA tupleA rdCell rdCells wrCells cl fillP lay rep bi_eql bi_neq bi_lss bi_leq bi_gtr bi_geq bi_add bi_sub bs_eql bs_neq bi_shr4 unA get_set' AHeap.get_alloc oneCell beqd bned idxA

attribute [local simp] Op.len Op.one Op.take Op.at0 Op.head? Op.getCap Op.getAd Op.layAll Op.zeroC Op.vb

theorem ix_rank (x : Op) (h2 : ¬ x.sub = 2) (h0 : ¬ x.sub = 0) (h3 : x.sub = 3 → x.ad.echo = true) : (if 0 ≤ ixO [1, 7, 6, 8, 3, 9, 4, 5] x.sub 0 ∧ ¬ x.sub = 9 then ixO [1, 7, 6, 8, 3, 9, 4, 5] x.sub 0 + 1 else 9) = rankO x := by
  unfold rankO
  rw [if_neg h2, if_neg h0]
  by_cases h : x.sub = 1
  · simp [h, ixO]
  by_cases g7 : x.sub = 7
  · simp [g7, ixO]
  by_cases g6 : x.sub = 6
  · simp [g6, ixO]
  by_cases g8 : x.sub = 8
  · simp [g8, ixO]
  by_cases g3 : x.sub = 3
  · simp [g3, ixO, h3 g3]
  by_cases g9 : x.sub = 9
  · simp [g9, ixO]
  by_cases g4 : x.sub = 4
  · simp [g4, ixO]
  by_cases g5 : x.sub = 5
  · simp [g5, ixO]
  simp [h, g7, g6, g8, g3, g9, g4, g5, ixO]
end Go.Proofs.YtigknpfjhegkgaaGreat
end

section
/- The program's Rank, walked. -/
namespace Go.Proofs.YtigknpfjhegkgaaGreat
open Go Go.AS
set_option maxRecDepth 100000
set_option linter.unusedSimpArgs false
set_option linter.unusedVariables false
attribute [local irreducible] Trie.set Trie.get Env.rd
attribute [local simp ↓] wV_b2s
attribute [local simp] Nat.add_assoc wD_cons'' wD_nil' wC_seq wC_ops wC_opsD_nil wC_cond wC_skip wC_ret wC_exit wC_block wO_cons' wO_nil wantedA wV_eq lop qop ev wL_some wL_none wPut envOf rd_set rd_leaf eqA thenC blockC wB_true wB_false endF unwindA resultsA resA tupleA rdCell rdCells wrCells cl fillP lay rep bi_eql bi_neq bi_lss bi_leq bi_gtr bi_geq bi_add bi_sub bs_eql bs_neq bi_shr4 unA get_set' AHeap.get_alloc oneCell beqd bned idxA

attribute [local simp] Op.len Op.one Op.take Op.at0 Op.head? Op.getCap Op.getAd Op.layAll Op.zeroC Op.vb

theorem rank_ok (A : AHeap) (x : Op) (Q : Value → AHeap → Prop) (hq : ∀ A', Ext NoB A A' → Q (.int .i64 (rankO x)) A') : wF T (.func (.func 9) #[] #[]) [.agg ⟨x.cells⟩] A Q := by
  refine wF_func (first := []) (captured := []) t9 ⟨rfl, by decide⟩ ?_
  dsimp only [c9]
  have e0 : Ext NoB A (A.alloc (.cells x.cells false 0)) := Ext.alloc
  have c0 := x.c0
  have c26 := x.c26
  by_cases h2 : x.sub = 2
  · simp [rankO, h2] at hq
    simp [c0, h2]
    exact hq _ e0
  by_cases h0 : x.sub = 0
  · simp [rankO, h0] at hq
    simp [c0, h0]
    exact hq _ e0
  by_cases h3 : x.sub = 3 ∧ x.ad.echo = false
  · obtain ⟨h3, he⟩ := h3
    rw [he] at c26
    simp [rankO, h3, he] at hq
    simp [c0, h3, c26]
    exact hq _ e0
  have h3' : x.sub = 3 → x.ad.echo = true := fun q => by
    cases he : x.ad.echo with
    | true => rfl
    | false => exact absurd ⟨q, he⟩ h3
  rw [← ix_rank x h2 h0 h3'] at hq
  by_cases g3 : x.sub = 3
  · have he := h3' g3
    rw [he] at c26
    simp [c0, g3, c26]
    refine index_ok _ (A.size + 1) 8 [1, 7, 6, 8, 3, 9, 4, 5] 3 (by simp) (by decide) _ ?_
    have i3 : ixO [1, 7, 6, 8, 3, 9, 4, 5] 3 0 = 4 := by decide
    have w5 : IntKind.i64.wrap 5 = 5 := by decide
    rw [g3, i3] at hq
    rw [i3]
    simp at hq
    simp [c0, g3, c26, w5]
    exact hq _ (e0.trans Ext.alloc)
  · simp [c0, h2, h0, g3]
    refine index_ok _ (A.size + 1) 8 [1, 7, 6, 8, 3, 9, 4, 5] x.sub (by simp) (by decide) _ ?_
    have hb : -1 ≤ ixO [1, 7, 6, 8, 3, 9, 4, 5] x.sub 0 ∧ ixO [1, 7, 6, 8, 3, 9, 4, 5] x.sub 0 ≤ 7 := by
      simp only [ixO]
      (repeat' split) <;> omega
    generalize ixO [1, 7, 6, 8, 3, 9, 4, 5] x.sub 0 = i at hq hb ⊢
    have w1 : IntKind.i64.wrap (i + 1) = i + 1 := IntWalk.i64_in _ (by omega)
    have w9 : IntKind.i64.wrap 9 = 9 := by decide
    have e1 := hq ((A.alloc (.cells x.cells false 0)).alloc (.cells [.int .i64 1, .int .i64 7, .int .i64 6, .int .i64 8, .int .i64 3, .int .i64 9, .int .i64 4, .int .i64 5] false 0)) (e0.trans Ext.alloc)
    by_cases p0 : 0 ≤ i
    · by_cases p9 : x.sub = 9
      · rw [if_neg (by simp [p9])] at e1
        simp [c0, p0, p9, w1, w9]
        exact e1
      · rw [if_pos ⟨p0, p9⟩] at e1
        simp [c0, p0, p9, w1, w9]
        exact e1
    · rw [if_neg (fun q => p0 q.1)] at e1
      simp [c0, p0, w1, w9]
      exact e1
end Go.Proofs.YtigknpfjhegkgaaGreat
end

section
/- A row of places copied. -/
namespace Go.Proofs.YtigknpfjhegkgaaGreat
open Go Go.AS
set_option maxRecDepth 100000
set_option linter.unusedSimpArgs false
set_option linter.unusedVariables false
attribute [local irreducible] Trie.set Trie.get Env.rd
attribute [local simp ↓] wV_b2s
attribute [local simp] Nat.add_assoc wD_cons'' wD_nil' wC_seq wC_ops wC_opsD_nil wC_cond wC_skip wC_ret wC_exit wC_block wO_cons' wO_nil wantedA wV_eq lop qop ev wL_some wL_none wPut envOf rd_set rd_leaf eqA thenC blockC wB_true wB_false endF unwindA resultsA resA tupleA rdCell rdCells wrCells cl fillP lay rep bi_eql bi_neq bi_lss bi_leq bi_gtr bi_geq bi_add bi_sub bs_eql bs_neq bi_shr4 unA get_set' AHeap.get_alloc oneCell beqd bned idxA


theorem pc_one (l : List Nat) : (l.map pc).all oneCell = true := by
  induction l with
  | nil => rfl
  | cons x l ih => simp only [List.map_cons, List.all_cons, ih]; rfl
theorem copyP (A : AHeap) (x : Value) (l : List Nat) (hx' : ReadAt (A.alloc (.cells [] false 0)) 1 x l.length (l.map pc)) (hn : l.length < 1000000) :
    ∃ a c A', appA (A.alloc (.cells [] false 0)) 1 8 (.slice (some ⟨A.size, 0, none⟩) 0 0) x = some (.slice a l.length c, A') ∧ SliceAt A' 1 (.slice a l.length c) l.length (l.map pc) ∧ Ext NoB A A' ∧ ∀ j, Own (.slice a l.length c) j → A.size ≤ j := by
  have e : Ext NoB A (A.alloc (.cells [] false 0)) := Ext.alloc
  have hf := hx'.firstA (Nat.le_refl _)
  rw [List.take_of_length_le (by rw [hx'.length]; omega)] at hf
  have s0 : SliceAt (A.alloc (.cells [] false 0)) 1 (.slice (some ⟨A.size, 0, none⟩) 0 0) 0 [] := .inr ⟨A.size, 0, 0, [], 0, rfl, by rw [AHeap.get_alloc, if_pos rfl], by simp, by simp, .inr (.inl ⟨rfl, by decide⟩)⟩
  obtain ⟨v', A', k1, k2, k3, k4⟩ := s0.append (x := x) (m := l.length) (bytes := 8) (new := l.map pc) (by decide) hx'.lenA hf (pc_one l) (by simp) (by omega) (by decide) (by obtain ⟨a, c, rfl⟩ := hx'.val; simp [isStr])
  obtain ⟨a', c', hv⟩ := k2.read.val
  subst hv
  rw [Nat.zero_add] at k1 k2 k4
  refine ⟨a', c', A', k1, by simpa using k2, e.trans2 (S' := Own (.slice (some ⟨A.size, 0, none⟩) 0 0)) k3 ?_, fun j hj => ?_⟩
  · rintro j hj ⟨o, n, c, q⟩; cases q; omega
  · rcases k4 j hj with ⟨o, n, c, q⟩ | q
    · cases q; exact Nat.le_refl _
    · simp at q; omega
end Go.Proofs.YtigknpfjhegkgaaGreat
end
