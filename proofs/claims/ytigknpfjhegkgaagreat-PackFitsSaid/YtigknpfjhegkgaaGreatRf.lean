/- The reference's options, laid. -/
import Derived.Test.YtigknpfjhegkgaaGreatRd
import Derived.KernelRfl
namespace Go.Proofs.YtigknpfjhegkgaaGreat
open Go Go.AS
set_option maxRecDepth 100000
set_option linter.unusedSimpArgs false
set_option linter.unusedVariables false
attribute [local irreducible] Trie.set Trie.get Env.rd
attribute [local simp ↓] wV_b2s
attribute [local simp] Nat.add_assoc wD_cons'' wD_nil' wC_seq wC_ops wC_opsD_nil wC_cond wC_skip wC_ret wC_exit wC_block wO_cons' wO_nil wantedA wV_eq lop qop ev wL_some wL_none wPut envOf rd_set rd_leaf eqA thenC blockC wB_true wB_false endF unwindA resultsA resA tupleA rdCell rdCells wrCells cl fillP lay rep binA unA get_set' AHeap.get_alloc oneCell beqd bned idxA
attribute [local simp] Op.len Op.one Cap.ln Jn.len Ds.ln Ad.len Cap.one Jn.one Ds.one Ad.one Op.take Op.at0 Op.head? Op.getCap Op.tCap Op.getJn Op.getDs Op.getAd Op.getIds Op.getPrio Op.getFail Op.getFast Op.getRst Op.putCap Op.putJn Op.putDs Op.putAd Op.putSub Op.putIds Op.putPrio Op.putFail Op.putFast Op.putRf Op.putRr Op.layAll Op.zeroC Op.vb
theorem rhas_ok (A : AHeap) (x : Op) (Q : Value → AHeap → Prop) (hq : ∀ A', Ext NoB A A' → Q (.agg ⟨x.has.cells⟩) A') : wF T (.func (.func 28) #[] #[]) [.agg ⟨x.cells⟩] A Q := by
  refine wF_func (first := []) (captured := []) t28 ⟨rfl, by decide⟩ ?_
  dsimp only [c28]
  by_cases h0 : x.sub = 0
  · have hh : x.has = { Op.only 0 with cap := x.cap } := by rw [Op.has, h0]; rfl
    rw [hh] at hq
    simp [h0]
    exact hq _ (by (repeat first | exact Ext.refl | assumption | refine Ext.allocN ?_ | refine Ext.setN ?_ (by first | omega | (simp; done) | (simp; omega))))
  by_cases h1 : x.sub = 1
  · have hh : x.has = { Op.only 1 with jn := x.jn } := by rw [Op.has, h1]; rfl
    rw [hh] at hq
    simp [h1]
    exact hq _ (by (repeat first | exact Ext.refl | assumption | refine Ext.allocN ?_ | refine Ext.setN ?_ (by first | omega | (simp; done) | (simp; omega))))
  by_cases h2 : x.sub = 2
  · have hh : x.has = { Op.only 2 with ds := x.ds } := by rw [Op.has, h2]; rfl
    rw [hh] at hq
    simp [h2]
    exact hq _ (by (repeat first | exact Ext.refl | assumption | refine Ext.allocN ?_ | refine Ext.setN ?_ (by first | omega | (simp; done) | (simp; omega))))
  by_cases h3 : x.sub = 3
  · have hh : x.has = { Op.only 3 with ad := x.ad } := by rw [Op.has, h3]; rfl
    rw [hh] at hq
    simp [h3]
    exact hq _ (by (repeat first | exact Ext.refl | assumption | refine Ext.allocN ?_ | refine Ext.setN ?_ (by first | omega | (simp; done) | (simp; omega))))
  by_cases h4 : x.sub = 4
  · have hh : x.has = { Op.only 4 with ids := x.ids } := by rw [Op.has, h4]; rfl
    rw [hh] at hq
    simp [h4]
    exact hq _ (by (repeat first | exact Ext.refl | assumption | refine Ext.allocN ?_ | refine Ext.setN ?_ (by first | omega | (simp; done) | (simp; omega))))
  by_cases h5 : x.sub = 5
  · have hh : x.has = { Op.only 5 with prio := x.prio } := by rw [Op.has, h5]; rfl
    rw [hh] at hq
    simp [h5]
    exact hq _ (by (repeat first | exact Ext.refl | assumption | refine Ext.allocN ?_ | refine Ext.setN ?_ (by first | omega | (simp; done) | (simp; omega))))
  by_cases h6 : x.sub = 6
  · have hh : x.has = { Op.only 6 with fail := x.fail } := by rw [Op.has, h6]; rfl
    rw [hh] at hq
    simp [h6]
    exact hq _ (by (repeat first | exact Ext.refl | assumption | refine Ext.allocN ?_ | refine Ext.setN ?_ (by first | omega | (simp; done) | (simp; omega))))
  by_cases h7 : x.sub = 7
  · have hh : x.has = { Op.only 7 with fast := x.fast } := by rw [Op.has, h7]; rfl
    rw [hh] at hq
    simp [h7]
    exact hq _ (by (repeat first | exact Ext.refl | assumption | refine Ext.allocN ?_ | refine Ext.setN ?_ (by first | omega | (simp; done) | (simp; omega))))
  by_cases h8 : x.sub = 8
  · have hh : x.has = { Op.only 8 with rf := x.rf, rr := x.rr } := by rw [Op.has, h8]; rfl
    rw [hh] at hq
    simp [h8]
    exact hq _ (by (repeat first | exact Ext.refl | assumption | refine Ext.allocN ?_ | refine Ext.setN ?_ (by first | omega | (simp; done) | (simp; omega))))
  have hh : x.has = Op.only x.sub := by simp only [Op.has, h0, h1, h2, h3, h4, h5, h6, h7, h8, if_false]
  rw [hh] at hq
  simp [h0, h1, h2, h3, h4, h5, h6, h7, h8]
  exact hq _ (by (repeat first | exact Ext.refl | assumption | refine Ext.allocN ?_ | refine Ext.setN ?_ (by first | omega | (simp; done) | (simp; omega))))
theorem body_ok (A : AHeap) (x : Op) (hw : x.W) (Q : Value → AHeap → Prop) (hq : ∀ A', Ext NoB A A' → Q (resE x.lay) A') : wF T (.func (.func 27) #[] #[]) [.agg ⟨x.cells⟩] A Q := by
  refine wF_func (first := []) (captured := []) t27 ⟨rfl, by decide⟩ ?_
  dsimp only [c27]
  simp
  generalize hA1 : A.alloc _ = A1
  obtain ⟨g1, e1, z1⟩ := alloc_facts hA1
  by_cases h0 : x.sub = 0
  · have hl : x.lay = x.cap.enc := by simp only [Op.lay, h0]; rfl
    rw [hl] at hq
    simp [g1, h0]
    refine rcenc_ok _ x.cap hw.cap _ fun A2 e2 => ?_
    have hq := hq A2 (e1.trans e2)
    cases hx : (x.cap.enc) <;> rw [hx] at hq <;> simp [resE] <;> exact hq
  by_cases h1 : x.sub = 1
  · have hl : x.lay = x.jn.enc := by simp only [Op.lay, h1]; rfl
    rw [hl] at hq
    simp [g1, h1]
    refine rjenc_ok _ x.jn hw.jn _ fun A2 e2 => ?_
    have hq := hq A2 (e1.trans e2)
    cases hx : (x.jn.enc) <;> rw [hx] at hq <;> simp [resE] <;> exact hq
  by_cases h2 : x.sub = 2
  · have hl : x.lay = x.ds.enc := by simp only [Op.lay, h2]; rfl
    rw [hl] at hq
    simp [g1, h2]
    refine rdenc_ok _ x.ds hw.ds _ fun A2 e2 => ?_
    have hq := hq A2 (e1.trans e2)
    cases hx : (x.ds.enc) <;> rw [hx] at hq <;> simp [resE] <;> exact hq
  by_cases h3 : x.sub = 3
  · have hl : x.lay = x.ad.enc := by simp only [Op.lay, h3]; rfl
    rw [hl] at hq
    simp [g1, h3]
    refine raenc_ok _ x.ad hw.ad _ fun A2 e2 => ?_
    have hq := hq A2 (e1.trans e2)
    cases hx : (x.ad.enc) <;> rw [hx] at hq <;> simp [resE] <;> exact hq
  by_cases h4 : x.sub = 4
  · have hl : x.lay = remE x.ids := by simp only [Op.lay, h4]; rfl
    rw [hl] at hq
    simp [g1, h4]
    refine rrenc_ok _ x.ids hw.ids _ fun A2 e2 => ?_
    have hq := hq A2 (e1.trans e2)
    cases hx : (remE x.ids) <;> rw [hx] at hq <;> simp [resE] <;> exact hq
  by_cases h5 : x.sub = 5
  · have hl : x.lay = some (prioE x.prio) := by simp only [Op.lay, h5]; rfl
    rw [hl] at hq
    simp [g1, h5]
    refine rpenc_ok _ x.prio _ fun A2 e2 => ?_
    have hq := hq A2 (e1.trans e2)
    simp
    exact hq
  by_cases h6 : x.sub = 6
  · have hl : x.lay = some (bigE 6 x.fail) := by simp only [Op.lay, h6]; rfl
    rw [hl] at hq
    simp [g1, h6]
    refine rfenc_ok _ x.fail _ fun A2 e2 => ?_
    have hq := hq A2 (e1.trans e2)
    simp
    exact hq
  by_cases h7 : x.sub = 7
  · have hl : x.lay = some (bigE 7 x.fast) := by simp only [Op.lay, h7]; rfl
    rw [hl] at hq
    simp [g1, h7]
    refine rkenc_ok _ x.fast _ fun A2 e2 => ?_
    have hq := hq A2 (e1.trans e2)
    simp
    exact hq
  by_cases h8 : x.sub = 8
  · have hl : x.lay = rstE x.rf x.rr := by simp only [Op.lay, h8]; rfl
    rw [hl] at hq
    simp [g1, h8]
    refine rtenc_ok _ x.rf x.rr _ fun A2 e2 => ?_
    have hq := hq A2 (e1.trans e2)
    cases hx : (rstE x.rf x.rr) <;> rw [hx] at hq <;> simp [resE] <;> exact hq
  have hl : x.lay = none := by simp only [Op.lay, h0, h1, h2, h3, h4, h5, h6, h7, h8, if_false]
  rw [hl] at hq
  simp [g1, h0, h1, h2, h3, h4, h5, h6, h7, h8]
  exact hq A1 e1
theorem rencode_ok (A : AHeap) (x : Op) (hw : x.W) (Q : Value → AHeap → Prop) (hq : ∀ A', Ext NoB A A' → Q (resI x.enc) A') : wF T (.func (.func 20) #[] #[]) [.agg ⟨x.cells⟩] A Q := by
  refine wF_func (first := []) (captured := []) t20 ⟨rfl, by decide⟩ ?_
  dsimp only [c20]
  simp
  generalize hA2 : (A.alloc (ABlk.cells x.cells false 0)).alloc _ = A2
  have g1 : A2.get A.size = some (.cells x.cells false 0) := by subst hA2; simp
  have g2 : A2.get (A.size + 1) = some (.cells [.int .i64 0, .string ⟨⟨[]⟩⟩] false 0) := by subst hA2; simp
  have e2 : Ext NoB A A2 := by subst hA2; (repeat first | exact Ext.refl | assumption | refine Ext.allocN ?_ | refine Ext.setN ?_ (by first | omega | (simp; done) | (simp; omega)))
  refine body_ok A2 x hw _ fun A3 e3 => ?_
  have g1' := e3.get g1 id
  have g2' := e3.get g2 id
  have l3 := AHeap.get_lt g2'
  have ea := e2.trans e3
  cases hv : x.lay with
  | none =>
    have he : x.enc = none := by unfold Op.enc; rw [hv]; split <;> rfl
    rw [he] at hq
    simp [resE]
    refine wC_opsD_chk ?_
    simp [g1', undef]
    refine wE_intro ?_ ?_
    · simp only [List.all_cons, List.all_nil, chkOk, List.nil_append, List.cons_append, List.getElem?_cons_succ, List.getElem?_cons_zero]
      simp [Bx, g1', g2', vbeq]
    · simp [g1', g2', l3]
      exact hq _ (by (repeat first | exact Ext.refl | assumption | refine Ext.allocN ?_ | refine Ext.setN ?_ (by first | omega | (simp; done) | (simp; omega))))
  | some l =>
    simp [resE]
    refine wC_opsD_chk ?_
    simp [g1']
    refine rhas_ok A3 x _ fun A4 e4 => ?_
    have g1'' := e4.get g1' id
    have g2'' := e4.get g2' id
    have l4 := AHeap.get_lt g2''
    have eb := ea.trans e4
    by_cases hx : x.has = x
    · have he : x.enc = some l := by rw [Op.enc, if_pos hx.symm, hv]
      rw [he] at hq
      have hx' : (x.has = x) = True := eq_true hx
      simp [g1'', eqOp, hx']
      refine wE_intro ?_ ?_
      · simp only [List.all_cons, List.all_nil, chkOk, List.nil_append, List.cons_append, List.getElem?_cons_succ, List.getElem?_cons_zero]
        simp [Bx, g1', g2', g1'', g2'', vbeq]
      · simp [g1'', g2'', l4]
        exact hq _ (by (repeat first | exact Ext.refl | assumption | refine Ext.allocN ?_ | refine Ext.setN ?_ (by first | omega | (simp; done) | (simp; omega))))
    · have he : x.enc = none := by rw [Op.enc, if_neg fun q => hx q.symm]
      rw [he] at hq
      have hx' : (x.has = x) = False := eq_false hx
      simp [g1'', eqOp, hx']
      refine wE_intro ?_ ?_
      · simp only [List.all_cons, List.all_nil, chkOk, List.nil_append, List.cons_append, List.getElem?_cons_succ, List.getElem?_cons_zero]
        simp [Bx, g1', g2', g1'', g2'', vbeq]
      · simp [g1'', g2'', l4]
        exact hq _ (by (repeat first | exact Ext.refl | assumption | refine Ext.allocN ?_ | refine Ext.setN ?_ (by first | omega | (simp; done) | (simp; omega))))
end Go.Proofs.YtigknpfjhegkgaaGreat
