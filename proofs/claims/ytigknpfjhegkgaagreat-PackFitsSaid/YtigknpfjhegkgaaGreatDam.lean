/- The examples work. -/
import Derived.Test.YtigknpfjhegkgaaGreatCzm
import Derived.KernelRfl
namespace Go.Proofs.YtigknpfjhegkgaaGreat
open Go Go.AS
set_option maxRecDepth 100000
set_option linter.unusedSimpArgs false
set_option linter.unusedVariables false
attribute [local irreducible] Trie.set Trie.get Env.rd
attribute [local simp ↓] wV_b2s
attribute [local simp] Nat.add_assoc wD_cons'' wD_nil' wC_seq wC_ops wC_opsD_nil wC_cond wC_skip wC_ret wC_exit wC_block wO_cons' wO_nil wantedA wV_eq lop qop ev wL_some wL_none wPut envOf rd_set rd_leaf eqA thenC blockC wB_true wB_false endF unwindA resultsA resA tupleA rdCell rdCells wrCells cl fillP lay rep bi_eql bi_neq bi_lss bi_leq bi_gtr bi_geq bi_add bi_sub bs_eql bs_neq bi_shr4 unA get_set' AHeap.get_alloc oneCell beqd bned idxA
attribute [local simp] Op.len Op.one Op.take Op.at0 Op.head? Op.getCap Op.getAd Op.layAll Op.zeroC Op.vb

theorem readSl {A : AHeap} {k opn : Nat} {l : List Op} {ro : Bool} (h : A.get k = some (.cells (opsC l) ro opn)) (hn : l.length < 1000000) : ReadAt A 38 (.slice (some ⟨k, 0, none⟩) l.length l.length) l.length (opsC l) := by
  have hl := opsC_len l
  refine .inr (.inl ⟨k, 0, l.length, opsC l, ro, opn, rfl, h, by omega, ?_, fun q => ?_⟩)
  · rw [List.drop_zero, List.take_of_length_le (by omega)]
  · rw [q] at hn; exact absurd hn (by decide)
theorem some_w : ∀ x ∈ some4, OkO x := by
  intro x hx
  refine OkO.of ?_
  simp only [some4, List.mem_cons, List.not_mem_nil, or_false] at hx
  rcases hx with rfl | rfl | rfl | rfl <;> exact ⟨⟨by decide, by decide, by decide⟩, ⟨by decide, by decide, by decide⟩, ⟨by decide, by decide, by decide, by decide⟩, ⟨by decide, by decide⟩, by decide, by decide, by decide⟩
def some3 : List Op := [o0, o1, o2]
theorem some3_w : ∀ x ∈ some3, OkO x := fun x hx => some_w x (by
  simp only [some3, some4, List.mem_cons, List.not_mem_nil, or_false] at hx ⊢
  rcases hx with h | h | h <;> simp [h])
theorem tk0 : takes o0 = 3 := by decide +kernel
theorem tk1 : takes o1 = 8 := by decide +kernel
theorem tk3 : takes o3 = 20 := by decide +kernel
theorem pk1 : takeO some3 (min 40 40) = [o1, o2, o0] ∧ leftO some3 (min 40 40) = [] := by decide +kernel
theorem pk2 : takeO some3 (min 19 40) = [o1, o0] ∧ leftO some3 (min 19 40) = [o2] := by decide +kernel
theorem pk3 : takeO some3 (min 2 40) = [] ∧ leftO some3 (min 2 40) = some3 := by decide +kernel
theorem s4_0 : (opsC some4).take 38 = o0.cells := rfl
theorem s4_1 : ((opsC some4).drop 38).take 38 = o1.cells := rfl
theorem s4_2 : ((opsC some4).drop 76).take 38 = o2.cells := rfl
theorem s4_3 : ((opsC some4).drop 114).take 38 = o3.cells := rfl
theorem b3 : fillP (rep 3 Op.zero.cells) [(0, 38, .agg ⟨o0.cells⟩), (38, 38, .agg ⟨o1.cells⟩), (76, 38, .agg ⟨o2.cells⟩)] = some (opsC some3) := fill_row some3
theorem b3b : fillP (rep 3 Op.zero.cells) [(0, 38, .agg ⟨o1.cells⟩), (38, 38, .agg ⟨o2.cells⟩), (76, 38, .agg ⟨o0.cells⟩)] = some (opsC [o1, o2, o0]) := fill_row [o1, o2, o0]
theorem b2 : fillP (rep 2 Op.zero.cells) [(0, 38, .agg ⟨o1.cells⟩), (38, 38, .agg ⟨o0.cells⟩)] = some (opsC [o1, o0]) := fill_row [o1, o0]
theorem b1 : fillP (rep 1 Op.zero.cells) [(0, 38, .agg ⟨o2.cells⟩)] = some (opsC [o2]) := fill_row [o2]
theorem works_ok (A : AHeap) (Q : Value → AHeap → Prop) (hq : ∀ A', Ext NoB A A' → Q (.bool true) A') : wF T (.func (.func 14) #[] #[]) [] A Q := by
  refine wF_func (first := []) (captured := []) t14 ⟨rfl, by decide⟩ ?_
  dsimp only [c14]
  simp
  refine some_ok A _ fun B eB => ?_
  simp [-rep, -fillP, -AS.lay, s4_len, z4_len, s4_lay, s4_one, s4_0, s4_1, s4_2, b3]
  generalize hC : AHeap.alloc (AHeap.set _ _ _) _ = C
  have zC : C.size = B.size + 2 := by subst hC; rfl
  have eC : Ext NoB B C := by
    subst hC
    (repeat first | exact Ext.refl | assumption | refine Ext.allocN ?_ | refine Ext.setN ?_ (by first | omega | (simp; done) | (simp; omega)))
  have g1 : C.get B.size = some (.cells (opsC some4) false 0) := by subst hC; simp
  have g2 : C.get (B.size + 1) = some (.cells (opsC some3) false 0) := by subst hC; simp
  have l3 := readSl g2 (by decide)
  have hL : some3.length = 3 := rfl
  have own : ∀ j, Own (.slice (some ⟨B.size + 1, 0, none⟩) some3.length some3.length) j → j < C.size := fun j ⟨_, _, _, q⟩ => by cases q; omega
  rw [hL] at l3 own
  refine pack_ok C _ some3 40 (by rw [hL]; exact l3) own (by decide) some3_w _ fun D tv fv e1 t1 f1 _ _ => ?_
  rw [pk1.1] at t1; rw [pk1.2] at f1
  simp
  have own1 : ∀ j, Own (.slice (some ⟨B.size + 1, 0, none⟩) 3 3) j → j < D.size := fun j hj => Nat.lt_of_lt_of_le (own j hj) e1.size
  refine pack_ok D _ some3 19 (by rw [hL]; exact l3.ext e1 fun _ _ q => q) own1 (by decide) some3_w _ fun E tv2 fv2 e2 t2 f2 _ _ => ?_
  rw [pk2.1] at t2; rw [pk2.2] at f2
  simp
  have e12 := e1.trans e2
  refine pack_ok E _ some3 2 (by rw [hL]; exact l3.ext e12 fun _ _ q => q) (fun j hj => Nat.lt_of_lt_of_le (own1 j hj) e2.size) (by decide) some3_w _ fun F tv3 fv3 e3 t3 f3 _ _ => ?_
  rw [pk3.1] at t3; rw [pk3.2] at f3
  have e13 := e12.trans e3
  have gF := e13.get g1 id
  simp [-rep, -fillP, -AS.lay, gF, s4_len, s4_0]
  refine size_ok F o0 (some_w o0 (by simp [some4])).1 _ (some_w o0 (by simp [some4])).2 fun G e4 => ?_
  rw [tk0]
  have gG := e4.get gF id
  simp [-rep, -fillP, -AS.lay, gG, s4_len, s4_1]
  refine size_ok G o1 (some_w o1 (by simp [some4])).1 _ (some_w o1 (by simp [some4])).2 fun H e5 => ?_
  rw [tk1]
  have gH := e5.get gG id
  simp [-rep, -fillP, -AS.lay, gH, s4_len, s4_3]
  refine size_ok H o3 (some_w o3 (by simp [some4])).1 _ (some_w o3 (by simp [some4])).2 fun I e6 => ?_
  rw [tk3]
  have gI := e6.get gH id
  have eFI := (e4.trans e5).trans e6
  simp [-rep, -fillP, -AS.lay, gI, s4_len, s4_0, s4_1, s4_2, b3b]
  have eDI := (e2.trans e3).trans eFI
  have eEI := e3.trans eFI
  obtain ⟨fa, fc, hfv⟩ := f1.read.val
  obtain ⟨ta, tc, htv⟩ := t3.read.val
  refine same_ok tv _ [o1, o2, o0] [o1, o2, o0] _ _ (t1.read.ext (eDI.trans Ext.alloc) fun _ _ q => q) (readSl (A := (I.alloc (.cells (opsC [o1, o2, o0]) false 0))) (k := I.size) (l := [o1, o2, o0]) (ro := false) (opn := 0) (by simp) (by decide)) (by decide) ?_
  have lI := AHeap.get_lt gI
  have n1 : ¬ B.size = I.size := by omega
  have n2 : ¬ B.size = I.size + 1 := by omega
  have n3 : ¬ B.size = I.size + 2 := by omega
  have hfv' : fv = .slice fa 0 fc := hfv
  have htv' : tv3 = .slice ta 0 tc := htv
  simp [-rep, -fillP, -AS.lay, hfv', n1, n2, n3, gI, s4_len, s4_0, s4_1, s4_2, b2]
  refine same_ok tv2 _ [o1, o0] [o1, o0] _ _ (t2.read.ext ((eEI.trans Ext.alloc).trans Ext.alloc) fun _ _ q => q) (readSl (A := ((I.alloc (.cells (opsC [o1, o2, o0]) false 0)).alloc (.cells (opsC [o1, o0]) false 0))) (k := (I.size + 1)) (l := [o1, o0]) (ro := false) (opn := 0) (by simp) (by decide)) (by decide) ?_
  simp [-rep, -fillP, -AS.lay, n1, n2, n3, gI, s4_len, s4_0, s4_1, s4_2, b1]
  refine same_ok fv2 _ [o2] [o2] _ _ (f2.read.ext (((eEI.trans Ext.alloc).trans Ext.alloc).trans Ext.alloc) fun _ _ q => q) (readSl (A := (((I.alloc (.cells (opsC [o1, o2, o0]) false 0)).alloc (.cells (opsC [o1, o0]) false 0)).alloc (.cells (opsC [o2]) false 0))) (k := (I.size + 2)) (l := [o2]) (ro := false) (opn := 0) (by simp) (by decide)) (by decide) ?_
  simp [-rep, -fillP, -AS.lay, htv']
  have eI3 : Ext NoB I (((I.alloc (.cells (opsC [o1, o2, o0]) false 0)).alloc (.cells (opsC [o1, o0]) false 0)).alloc (.cells (opsC [o2]) false 0)) := (Ext.alloc.trans Ext.alloc).trans Ext.alloc
  refine same_ok fv3 _ some3 some3 _ _ (f3.read.ext (eFI.trans eI3) fun _ _ q => q) (by rw [hL]; exact l3.ext (e13.trans (eFI.trans eI3)) fun _ _ q => q) (by decide) ?_
  simp
  exact hq _ ((((eB.trans eC).trans e13).trans eFI).trans eI3)
end Go.Proofs.YtigknpfjhegkgaaGreat
