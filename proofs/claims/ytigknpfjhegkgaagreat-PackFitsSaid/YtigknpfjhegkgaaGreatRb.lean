/- The reference's capable options, laid. -/
import Derived.Test.YtigknpfjhegkgaaGreatRa
import Derived.KernelRfl
namespace Go.Proofs.YtigknpfjhegkgaaGreat
open Go Go.AS
set_option maxRecDepth 100000
set_option linter.unusedSimpArgs false
set_option linter.unusedVariables false
attribute [local irreducible] Trie.set Trie.get Env.rd
attribute [local simp ↓] wV_b2s
attribute [local simp] Nat.add_assoc wD_cons'' wD_nil' wC_seq wC_ops wC_opsD_nil wC_cond wC_skip wC_ret wC_exit wC_block wO_cons' wO_nil wantedA wV_eq lop qop ev wL_some wL_none wPut envOf rd_set rd_leaf eqA thenC blockC wB_true wB_false endF unwindA resultsA resA tupleA rdCell rdCells wrCells cl fillP lay rep binA unA get_set' AHeap.get_alloc oneCell beqd bned idxA

def csize (f : Int) : Nat := if f = 0 then 2 else if f = 1 then 10 else 14 + 2 * f.toNat
theorem csize_ok (A : AHeap) (f : Int) (h0 : 0 ≤ f) (h5 : f < 5) (Q : Value → AHeap → Prop) (hq : Q (.int .i64 (csize f : Nat)) A) : wF T (.func (.func 119) #[] #[]) [.int .i64 f] A Q := by
  refine wF_func (first := []) (captured := []) t119 ⟨rfl, by decide⟩ ?_
  dsimp only [c119]
  have : f = 0 ∨ f = 1 ∨ f = 2 ∨ f = 3 ∨ f = 4 := by omega
  rcases this with rfl | rfl | rfl | rfl | rfl <;> simp [show IntKind.i64.wrap 4 = 4 by decide, show IntKind.i64.wrap 6 = 6 by decide, show IntKind.i64.wrap 8 = 8 by decide, show IntKind.i64.wrap 18 = 18 by decide, show IntKind.i64.wrap 20 = 20 by decide, show IntKind.i64.wrap 22 = 22 by decide] <;> exact hq
theorem rcmay_ok (A : AHeap) (x : Cap) (Q : Value → AHeap → Prop) (hq : ∀ A', Ext NoB A A' → Q (.bool x.may) A') : wF T (.func (.func 117) #[] #[]) [.agg ⟨x.cells⟩] A Q := by
  refine wF_func (first := []) (captured := []) t117 ⟨rfl, by decide⟩ ?_
  dsimp only [c117]
  simp [Cap.cells]
  generalize hA1 : A.alloc _ = A1
  obtain ⟨g1, e1, z1⟩ := alloc_facts hA1
  have hq := hq A1 e1
  by_cases a0 : x.form < 0
  · rw [show x.may = false by simp only [Cap.may, Bool.and_eq_false_iff, decide_eq_false_iff_not]; left; omega] at hq
    simp [g1, a0]
    exact hq
  by_cases a1 : 5 ≤ x.form
  · rw [show x.may = false by simp only [Cap.may, Bool.and_eq_false_iff, decide_eq_false_iff_not]; left; omega] at hq
    simp [g1, a0, a1]
    exact hq
  by_cases a2 : x.ver < 0
  · rw [show x.may = false by simp only [Cap.may, Bool.and_eq_false_iff, decide_eq_false_iff_not]; left; omega] at hq
    simp [g1, a0, a1, a2]
    exact hq
  by_cases a3 : 15 < x.ver
  · rw [show x.may = false by simp only [Cap.may, Bool.and_eq_false_iff, decide_eq_false_iff_not]; left; omega] at hq
    simp [g1, a0, a1, a2, a3]
    exact hq
  by_cases a4 : x.len < 0
  · rw [show x.may = false by simp only [Cap.may, Bool.and_eq_false_iff, decide_eq_false_iff_not]; left; omega] at hq
    simp [g1, a0, a1, a2, a3, a4]
    exact hq
  by_cases a5 : 65535 < x.len
  · rw [show x.may = false by simp only [Cap.may, Bool.and_eq_false_iff, decide_eq_false_iff_not]; left; omega] at hq
    simp [g1, a0, a1, a2, a3, a4, a5]
    exact hq
  have hm : x.may = x.lacks := by
    unfold Cap.may
    rw [show decide (0 ≤ x.form ∧ x.form < 5 ∧ 0 ≤ x.ver ∧ x.ver < 16 ∧ 0 ≤ x.len ∧ x.len < 65536) = true from decide_eq_true (by omega), Bool.true_and]
  rw [hm] at hq
  by_cases f0 : x.form = 0
  · by_cases o0 : x.own = 0 <;> by_cases p0 : x.peer = 0 <;> by_cases l0 : x.len = 0 <;> by_cases s0 : x.sum = 0 <;> (simp [g1, a2, a3, a4, a5, f0, o0, p0, l0, s0, undef]; simpa [Cap.lacks, f0, o0, p0, l0, s0] using hq)
  · by_cases f1 : x.form = 1
    · by_cases p0 : x.peer = 0 <;> by_cases l0 : x.len = 0 <;> by_cases s0 : x.sum = 0 <;> (simp [g1, a2, a3, a4, a5, f1, p0, l0, s0, undef]; simpa [Cap.lacks, f1, p0, l0, s0] using hq)
    · by_cases f2 : x.form = 2
      · by_cases l0 : x.len = 0 <;> by_cases s0 : x.sum = 0 <;> (simp [g1, a2, a3, a4, a5, f2, l0, s0, undef]; simpa [Cap.lacks, f2, l0, s0] using hq)
      · by_cases f3 : x.form = 3
        · by_cases s0 : x.sum = 0 <;> (simp [g1, a2, a3, a4, a5, f3, s0, undef]; simpa [Cap.lacks, f3, s0] using hq)
        · have f4 : x.form = 4 := by omega
          simp [g1, a2, a3, a4, a5, f4, undef]
          simpa [Cap.lacks, f4] using hq
def Cap.all (x : Cap) : List UInt8 := be x.ver.toNat 1 ++ (be x.flags 1 ++ (be x.own 8 ++ (be x.peer 8 ++ (be x.len.toNat 2 ++ be x.sum 2))))
theorem Cap.take_all (x : Cap) (h0 : 0 ≤ x.form) (h5 : x.form < 5) : x.all.take (csize x.form) = x.body := by
  have : x.form = 0 ∨ x.form = 1 ∨ x.form = 2 ∨ x.form = 3 ∨ x.form = 4 := by omega
  unfold Cap.all Cap.body csize
  rcases this with f | f | f | f | f <;> simp [f, List.take_append, be_len, List.take_of_length_le]
theorem rcenc_ok (A : AHeap) (x : Cap) (hw : x.W) (Q : Value → AHeap → Prop) (hq : ∀ A', Ext NoB A A' → Q (resE x.enc) A') : wF T (.func (.func 68) #[] #[]) [.agg ⟨x.cells⟩] A Q := by
  refine wF_func (first := []) (captured := []) t68 ⟨rfl, by decide⟩ ?_
  dsimp only [c68]
  simp [Cap.cells]
  generalize hA1 : A.alloc _ = A1
  obtain ⟨g1, e1, z1⟩ := alloc_facts hA1
  simp [g1]
  refine rcmay_ok A1 x _ fun A2 e2 => ?_
  have g2 := e2.get g1 id
  have e12 := e1.trans e2
  cases hm : x.may
  · have := hq A2 e12
    rw [Cap.enc, hm] at this
    simp
    exact this
  have hq' : ∀ A', Ext NoB A A' → Q (.tuple ⟨[.string ⟨⟨x.body⟩⟩, .int .i64 0]⟩) A' := fun A' e => by
    have := hq A' e
    rwa [Cap.enc, hm] at this
  have hm' := hm
  simp only [Cap.may, Bool.and_eq_true, decide_eq_true_eq] at hm'
  obtain ⟨⟨h1, h2, h3, h4, h5, h6⟩, -⟩ := hm'
  obtain ⟨v, hv, hv2⟩ : ∃ n : Nat, x.ver = n ∧ n < 16 := ⟨x.ver.toNat, by omega, by omega⟩
  obtain ⟨l, hl, hl2⟩ : ∃ n : Nat, x.len = n ∧ n < 65536 := ⟨x.len.toNat, by omega, by omega⟩
  have hvw : IntKind.u64.wrap (v : Int) = v := IntWalk.u64_in _ (by omega)
  have hlw : IntKind.u64.wrap (l : Int) = l := IntWalk.u64_in _ (by omega)
  have hsw : IntKind.u64.wrap (x.sum : Int) = x.sum := IntWalk.u64_in _ (by have := hw.sum; omega)
  have hta := x.take_all h1 h2
  have hall : x.all = be v 1 ++ (be x.flags 1 ++ (be x.own 8 ++ (be x.peer 8 ++ (be l 2 ++ be x.sum 2)))) := by rw [Cap.all, hv, hl]; rfl
  have hsl := sl_to x.all .i64 (csize x.form) (by rw [hall]; simp [be_len]; unfold csize; split <;> (try split) <;> omega)
  rw [hta, hall] at hsl
  cases hs : x.sums <;> cases ha : x.alone
  · have hf : x.flags = 1 := by rw [Cap.flags, hs, ha]; rfl
    rw [hf] at hsl
    simp [g2, hs, ha]
    refine wC_opsD_chk ?_
    simp [g2, hv, hl, hvw, hs, ha]
    refine laid_ok _ v 1 (by decide) _ fun A3 e3 => ?_
    have g3 := e3.get g2 id
    simp
    refine laid_ok _ 1 1 (by decide) _ fun A4 e4 => ?_
    have g4 := e4.get g3 id
    simp [be_len, g4]
    refine laid_ok _ x.own 8 (by decide) _ fun A5 e5 => ?_
    have g5 := e5.get g4 id
    simp [be_len, g5]
    refine laid_ok _ x.peer 8 (by decide) _ fun A6 e6 => ?_
    have g6 := e6.get g5 id
    simp [be_len, g6, hl, hlw]
    refine laid_ok _ l 2 (by decide) _ fun A7 e7 => ?_
    have g7 := e7.get g6 id
    simp [be_len, g7, hsw]
    refine laid_ok _ x.sum 2 (by decide) _ fun A8 e8 => ?_
    have g8 := e8.get g7 id
    simp [be_len]
    refine wE_intro ?_ ?_
    · simp only [List.all_cons, List.all_nil, chkOk, List.nil_append, List.cons_append, List.getElem?_cons_succ, List.getElem?_cons_zero]
      simp [Bx, g2, g3, g4, g5, g6, g7, g8, vbeq, hl, hv]
    · simp [g8]
      refine csize_ok A8 x.form h1 h2 _ ?_
      simp [hsl]
      exact hq' A8 (((((((e12.trans e3).trans e4).trans e5).trans e6).trans e7).trans e8))
  · have hf : x.flags = 33 := by rw [Cap.flags, hs, ha]; rfl
    rw [hf] at hsl
    simp [g2, hs, ha]
    refine wC_opsD_chk ?_
    simp [g2, hv, hl, hvw, hs, ha]
    refine laid_ok _ v 1 (by decide) _ fun A3 e3 => ?_
    have g3 := e3.get g2 id
    simp
    refine laid_ok _ 33 1 (by decide) _ fun A4 e4 => ?_
    have g4 := e4.get g3 id
    simp [be_len, g4]
    refine laid_ok _ x.own 8 (by decide) _ fun A5 e5 => ?_
    have g5 := e5.get g4 id
    simp [be_len, g5]
    refine laid_ok _ x.peer 8 (by decide) _ fun A6 e6 => ?_
    have g6 := e6.get g5 id
    simp [be_len, g6, hl, hlw]
    refine laid_ok _ l 2 (by decide) _ fun A7 e7 => ?_
    have g7 := e7.get g6 id
    simp [be_len, g7, hsw]
    refine laid_ok _ x.sum 2 (by decide) _ fun A8 e8 => ?_
    have g8 := e8.get g7 id
    simp [be_len]
    refine wE_intro ?_ ?_
    · simp only [List.all_cons, List.all_nil, chkOk, List.nil_append, List.cons_append, List.getElem?_cons_succ, List.getElem?_cons_zero]
      simp [Bx, g2, g3, g4, g5, g6, g7, g8, vbeq, hl, hv]
    · simp [g8]
      refine csize_ok A8 x.form h1 h2 _ ?_
      simp [hsl]
      exact hq' A8 (((((((e12.trans e3).trans e4).trans e5).trans e6).trans e7).trans e8))
  · have hf : x.flags = 129 := by rw [Cap.flags, hs, ha]; rfl
    rw [hf] at hsl
    simp [g2, hs, ha]
    refine wC_opsD_chk ?_
    simp [g2, hv, hl, hvw, hs, ha]
    refine laid_ok _ v 1 (by decide) _ fun A3 e3 => ?_
    have g3 := e3.get g2 id
    simp
    refine laid_ok _ 129 1 (by decide) _ fun A4 e4 => ?_
    have g4 := e4.get g3 id
    simp [be_len, g4]
    refine laid_ok _ x.own 8 (by decide) _ fun A5 e5 => ?_
    have g5 := e5.get g4 id
    simp [be_len, g5]
    refine laid_ok _ x.peer 8 (by decide) _ fun A6 e6 => ?_
    have g6 := e6.get g5 id
    simp [be_len, g6, hl, hlw]
    refine laid_ok _ l 2 (by decide) _ fun A7 e7 => ?_
    have g7 := e7.get g6 id
    simp [be_len, g7, hsw]
    refine laid_ok _ x.sum 2 (by decide) _ fun A8 e8 => ?_
    have g8 := e8.get g7 id
    simp [be_len]
    refine wE_intro ?_ ?_
    · simp only [List.all_cons, List.all_nil, chkOk, List.nil_append, List.cons_append, List.getElem?_cons_succ, List.getElem?_cons_zero]
      simp [Bx, g2, g3, g4, g5, g6, g7, g8, vbeq, hl, hv]
    · simp [g8]
      refine csize_ok A8 x.form h1 h2 _ ?_
      simp [hsl]
      exact hq' A8 (((((((e12.trans e3).trans e4).trans e5).trans e6).trans e7).trans e8))
  · have hf : x.flags = 161 := by rw [Cap.flags, hs, ha]; rfl
    rw [hf] at hsl
    simp [g2, hs, ha]
    refine wC_opsD_chk ?_
    simp [g2, hv, hl, hvw, hs, ha]
    refine laid_ok _ v 1 (by decide) _ fun A3 e3 => ?_
    have g3 := e3.get g2 id
    simp
    refine laid_ok _ 161 1 (by decide) _ fun A4 e4 => ?_
    have g4 := e4.get g3 id
    simp [be_len, g4]
    refine laid_ok _ x.own 8 (by decide) _ fun A5 e5 => ?_
    have g5 := e5.get g4 id
    simp [be_len, g5]
    refine laid_ok _ x.peer 8 (by decide) _ fun A6 e6 => ?_
    have g6 := e6.get g5 id
    simp [be_len, g6, hl, hlw]
    refine laid_ok _ l 2 (by decide) _ fun A7 e7 => ?_
    have g7 := e7.get g6 id
    simp [be_len, g7, hsw]
    refine laid_ok _ x.sum 2 (by decide) _ fun A8 e8 => ?_
    have g8 := e8.get g7 id
    simp [be_len]
    refine wE_intro ?_ ?_
    · simp only [List.all_cons, List.all_nil, chkOk, List.nil_append, List.cons_append, List.getElem?_cons_succ, List.getElem?_cons_zero]
      simp [Bx, g2, g3, g4, g5, g6, g7, g8, vbeq, hl, hv]
    · simp [g8]
      refine csize_ok A8 x.form h1 h2 _ ?_
      simp [hsl]
      exact hq' A8 (((((((e12.trans e3).trans e4).trans e5).trans e6).trans e7).trans e8))

end Go.Proofs.YtigknpfjhegkgaaGreat
