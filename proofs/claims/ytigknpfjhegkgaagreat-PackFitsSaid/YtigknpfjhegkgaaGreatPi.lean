/- Options laid into items. -/
import Derived.Test.YtigknpfjhegkgaaGreatPh
import Derived.KernelRfl
namespace Go.Proofs.YtigknpfjhegkgaaGreat
open Go Go.AS
set_option maxRecDepth 100000
set_option linter.unusedSimpArgs false
set_option linter.unusedVariables false
attribute [local irreducible] Trie.set Trie.get Env.rd
attribute [local simp ↓] wV_b2s
attribute [local simp] Nat.add_assoc wD_cons'' wD_nil' wC_seq wC_ops wC_opsD_nil wC_cond wC_skip wC_ret wC_exit wC_block wO_cons' wO_nil wantedA wV_eq lop qop ev wL_some wL_none wPut envOf rd_set rd_leaf eqA thenC blockC wB_true wB_false endF unwindA resultsA resA tupleA rdCell rdCells wrCells cl fillP lay rep binA unA get_set' AHeap.get_alloc oneCell beqd bned idxA
attribute [local simp] Op.len Op.one Cap.ln Jn.len Ds.ln Ad.len Cap.one Jn.one Ds.one Ad.one Op.take Op.at0 Op.head? Op.getCap Op.tCap Op.getJn Op.getDs Op.getAd Op.getIds Op.getPrio Op.getFail Op.getFast Op.getRst Op.putCap Op.putJn Op.putDs Op.putAd Op.putSub Op.putIds Op.putPrio Op.putFail Op.putFast Op.putRf Op.putRr Op.layAll Op.zeroC
def itemV (k : Int) (l : List UInt8) : Value := .agg ⟨[.int .i64 k, .string ⟨⟨l⟩⟩]⟩
def resI : Option (List UInt8) → Value
  | some l => .tuple ⟨[itemV 30 l, .int .i64 0]⟩
  | none => .tuple ⟨[itemV 0 [], .int .i64 2]⟩
theorem Op.vb (x : Op) : vbeq.vbeqs 3 x.cells x.cells = true := by simp [Op.cells, Cap.cells, Jn.cells, Ds.cells, Ad.cells, vbeq.vbeqs, vbeq]
attribute [local simp] Op.vb
theorem encode_ok (A : AHeap) (x : Op) (hw : x.W) (Q : Value → AHeap → Prop) (hq : ∀ A', Ext NoB A A' → Q (resI x.enc) A') : wF T (.func (.func 19) #[] #[]) [.agg ⟨x.cells⟩] A Q := by
  refine wF_func (first := []) (captured := []) t19 ⟨rfl, by decide⟩ ?_
  dsimp only [c19]
  simp
  generalize hA2 : (A.alloc (ABlk.cells x.cells false 0)).alloc _ = A2
  have g1 : A2.get A.size = some (.cells x.cells false 0) := by subst hA2; simp
  have g2 : A2.get (A.size + 1) = some (.cells [.int .i64 0, .string ⟨⟨[]⟩⟩] false 0) := by subst hA2; simp
  have l2 : A.size + 1 < A2.size := by subst hA2; simp
  have e2 : Ext NoB A A2 := by subst hA2; (repeat first | exact Ext.refl | assumption | refine Ext.allocN ?_ | refine Ext.setN ?_ (by first | omega | (simp; done) | (simp; omega)))
  by_cases hs : x.sub < 0 ∨ 9 ≤ x.sub
  · have hx : x.enc = none := by
      unfold Op.enc Op.lay
      split
      · repeat rw [if_neg (by omega)]
      · rfl
    rw [hx] at hq
    refine wC_opsD_chk ?_
    by_cases h0 : x.sub < 0
    · simp [g1, h0]
      refine wE_intro ?_ ?_
      · simp only [List.all_cons, List.all_nil, chkOk, List.nil_append, List.cons_append, List.getElem?_cons_succ, List.getElem?_cons_zero]
        simp [Bx, g1, g2, vbeq]
      · simp [g1, g2, l2]
        exact hq _ (by (repeat first | exact Ext.refl | assumption | refine Ext.allocN ?_ | refine Ext.setN ?_ (by first | omega | (simp; done) | (simp; omega))))
    · have h9 : 9 ≤ x.sub := by omega
      simp [g1, h0, h9]
      refine wE_intro ?_ ?_
      · simp only [List.all_cons, List.all_nil, chkOk, List.nil_append, List.cons_append, List.getElem?_cons_succ, List.getElem?_cons_zero]
        simp [Bx, g1, g2, vbeq]
      · simp [g1, g2, l2]
        exact hq _ (by (repeat first | exact Ext.refl | assumption | refine Ext.allocN ?_ | refine Ext.setN ?_ (by first | omega | (simp; done) | (simp; omega))))
  · have h0 : ¬ x.sub < 0 := by omega
    have h9 : ¬ 9 ≤ x.sub := by omega
    refine wC_opsD_chk ?_
    simp [g1, h0, h9]
    refine has_ok _ x _ fun A3 e3 => ?_
    have g1' := e3.get g1 id
    have g2' := e3.get g2 id
    have l3 : A.size + 1 < A3.size := Nat.lt_of_lt_of_le l2 e3.size
    by_cases hx : x = x.has
    · have hx' : (x = x.has) = True := eq_true hx
      simp [eqOp, hx']
      refine wE_intro ?_ ?_
      · simp only [List.all_cons, List.all_nil, chkOk, List.nil_append, List.cons_append, List.getElem?_cons_succ, List.getElem?_cons_zero]
        simp [Bx, g1, g2, g1', g2', vbeq]
      · have he : x.enc = x.lay := if_pos hx
        rw [he] at hq
        simp
        refine wC_opsD_chk ?_
        simp [g1', g2']
        refine all_ok _ _ fun A4 e4 => ?_
        have g1'' := e4.get g1' id
        have g2'' := e4.get g2' id
        have ea : Ext NoB A A4 := (e2.trans e3).trans e4
        have hc : x.sub = 0 ∨ x.sub = 1 ∨ x.sub = 2 ∨ x.sub = 3 ∨ x.sub = 4 ∨ x.sub = 5 ∨ x.sub = 6 ∨ x.sub = 7 ∨ x.sub = 8 := by omega
        rcases hc with k | k | k | k | k | k | k | k | k
        · have hl : x.lay = x.cap.enc := by simp only [Op.lay, k]; rfl
          rw [hl] at hq
          simp [g1'', k]
          refine lay0_ok _ x hw _ fun A5 e5 => ?_
          have h1 := e5.get g1'' id
          have h2 := e5.get g2'' id
          have l5 := AHeap.get_lt h2
          cases hv : (x.cap.enc) <;> rw [hv] at hq <;> simp [resE]
          · refine wE_intro ?_ ?_
            · simp only [List.all_cons, List.all_nil, chkOk, List.nil_append, List.cons_append, List.getElem?_cons_succ, List.getElem?_cons_zero]
              simp [Bx, g1', g2', g1'', g2'', h1, h2, vbeq, k]
            · simp [h1, h2, l5]
              exact hq _ (by have := ea.trans e5; (repeat first | exact Ext.refl | assumption | refine Ext.allocN ?_ | refine Ext.setN ?_ (by first | omega | (simp; done) | (simp; omega))))
          · refine wE_intro ?_ ?_
            · simp only [List.all_cons, List.all_nil, chkOk, List.nil_append, List.cons_append, List.getElem?_cons_succ, List.getElem?_cons_zero]
              simp [Bx, g1', g2', g1'', g2'', h1, h2, vbeq, k]
            · simp [h1, h2, l5]
              exact hq _ (by have := ea.trans e5; (repeat first | exact Ext.refl | assumption | refine Ext.allocN ?_ | refine Ext.setN ?_ (by first | omega | (simp; done) | (simp; omega))))
        · have hl : x.lay = x.jn.enc := by simp only [Op.lay, k]; rfl
          rw [hl] at hq
          simp [g1'', k]
          refine lay1_ok _ x hw _ fun A5 e5 => ?_
          have h1 := e5.get g1'' id
          have h2 := e5.get g2'' id
          have l5 := AHeap.get_lt h2
          cases hv : (x.jn.enc) <;> rw [hv] at hq <;> simp [resE]
          · refine wE_intro ?_ ?_
            · simp only [List.all_cons, List.all_nil, chkOk, List.nil_append, List.cons_append, List.getElem?_cons_succ, List.getElem?_cons_zero]
              simp [Bx, g1', g2', g1'', g2'', h1, h2, vbeq, k]
            · simp [h1, h2, l5]
              exact hq _ (by have := ea.trans e5; (repeat first | exact Ext.refl | assumption | refine Ext.allocN ?_ | refine Ext.setN ?_ (by first | omega | (simp; done) | (simp; omega))))
          · refine wE_intro ?_ ?_
            · simp only [List.all_cons, List.all_nil, chkOk, List.nil_append, List.cons_append, List.getElem?_cons_succ, List.getElem?_cons_zero]
              simp [Bx, g1', g2', g1'', g2'', h1, h2, vbeq, k]
            · simp [h1, h2, l5]
              exact hq _ (by have := ea.trans e5; (repeat first | exact Ext.refl | assumption | refine Ext.allocN ?_ | refine Ext.setN ?_ (by first | omega | (simp; done) | (simp; omega))))
        · have hl : x.lay = x.ds.enc := by simp only [Op.lay, k]; rfl
          rw [hl] at hq
          simp [g1'', k]
          refine lay2_ok _ x hw _ fun A5 e5 => ?_
          have h1 := e5.get g1'' id
          have h2 := e5.get g2'' id
          have l5 := AHeap.get_lt h2
          cases hv : (x.ds.enc) <;> rw [hv] at hq <;> simp [resE]
          · refine wE_intro ?_ ?_
            · simp only [List.all_cons, List.all_nil, chkOk, List.nil_append, List.cons_append, List.getElem?_cons_succ, List.getElem?_cons_zero]
              simp [Bx, g1', g2', g1'', g2'', h1, h2, vbeq, k]
            · simp [h1, h2, l5]
              exact hq _ (by have := ea.trans e5; (repeat first | exact Ext.refl | assumption | refine Ext.allocN ?_ | refine Ext.setN ?_ (by first | omega | (simp; done) | (simp; omega))))
          · refine wE_intro ?_ ?_
            · simp only [List.all_cons, List.all_nil, chkOk, List.nil_append, List.cons_append, List.getElem?_cons_succ, List.getElem?_cons_zero]
              simp [Bx, g1', g2', g1'', g2'', h1, h2, vbeq, k]
            · simp [h1, h2, l5]
              exact hq _ (by have := ea.trans e5; (repeat first | exact Ext.refl | assumption | refine Ext.allocN ?_ | refine Ext.setN ?_ (by first | omega | (simp; done) | (simp; omega))))
        · have hl : x.lay = x.ad.enc := by simp only [Op.lay, k]; rfl
          rw [hl] at hq
          simp [g1'', k]
          refine lay3_ok _ x hw _ fun A5 e5 => ?_
          have h1 := e5.get g1'' id
          have h2 := e5.get g2'' id
          have l5 := AHeap.get_lt h2
          cases hv : (x.ad.enc) <;> rw [hv] at hq <;> simp [resE]
          · refine wE_intro ?_ ?_
            · simp only [List.all_cons, List.all_nil, chkOk, List.nil_append, List.cons_append, List.getElem?_cons_succ, List.getElem?_cons_zero]
              simp [Bx, g1', g2', g1'', g2'', h1, h2, vbeq, k]
            · simp [h1, h2, l5]
              exact hq _ (by have := ea.trans e5; (repeat first | exact Ext.refl | assumption | refine Ext.allocN ?_ | refine Ext.setN ?_ (by first | omega | (simp; done) | (simp; omega))))
          · refine wE_intro ?_ ?_
            · simp only [List.all_cons, List.all_nil, chkOk, List.nil_append, List.cons_append, List.getElem?_cons_succ, List.getElem?_cons_zero]
              simp [Bx, g1', g2', g1'', g2'', h1, h2, vbeq, k]
            · simp [h1, h2, l5]
              exact hq _ (by have := ea.trans e5; (repeat first | exact Ext.refl | assumption | refine Ext.allocN ?_ | refine Ext.setN ?_ (by first | omega | (simp; done) | (simp; omega))))
        · have hl : x.lay = remE x.ids := by simp only [Op.lay, k]; rfl
          rw [hl] at hq
          simp [g1'', k]
          refine lay4_ok _ x hw _ fun A5 e5 => ?_
          have h1 := e5.get g1'' id
          have h2 := e5.get g2'' id
          have l5 := AHeap.get_lt h2
          cases hv : (remE x.ids) <;> rw [hv] at hq <;> simp [resE]
          · refine wE_intro ?_ ?_
            · simp only [List.all_cons, List.all_nil, chkOk, List.nil_append, List.cons_append, List.getElem?_cons_succ, List.getElem?_cons_zero]
              simp [Bx, g1', g2', g1'', g2'', h1, h2, vbeq, k]
            · simp [h1, h2, l5]
              exact hq _ (by have := ea.trans e5; (repeat first | exact Ext.refl | assumption | refine Ext.allocN ?_ | refine Ext.setN ?_ (by first | omega | (simp; done) | (simp; omega))))
          · refine wE_intro ?_ ?_
            · simp only [List.all_cons, List.all_nil, chkOk, List.nil_append, List.cons_append, List.getElem?_cons_succ, List.getElem?_cons_zero]
              simp [Bx, g1', g2', g1'', g2'', h1, h2, vbeq, k]
            · simp [h1, h2, l5]
              exact hq _ (by have := ea.trans e5; (repeat first | exact Ext.refl | assumption | refine Ext.allocN ?_ | refine Ext.setN ?_ (by first | omega | (simp; done) | (simp; omega))))
        · have hl : x.lay = some (prioE x.prio) := by simp only [Op.lay, k]; rfl
          rw [hl] at hq
          simp [g1'', k]
          refine lay5_ok _ x hw _ fun A5 e5 => ?_
          have h1 := e5.get g1'' id
          have h2 := e5.get g2'' id
          have l5 := AHeap.get_lt h2
          cases hv : (some (prioE x.prio)) <;> rw [hv] at hq <;> simp [resE]
          · refine wE_intro ?_ ?_
            · simp only [List.all_cons, List.all_nil, chkOk, List.nil_append, List.cons_append, List.getElem?_cons_succ, List.getElem?_cons_zero]
              simp [Bx, g1', g2', g1'', g2'', h1, h2, vbeq, k]
            · simp [h1, h2, l5]
              exact hq _ (by have := ea.trans e5; (repeat first | exact Ext.refl | assumption | refine Ext.allocN ?_ | refine Ext.setN ?_ (by first | omega | (simp; done) | (simp; omega))))
          · refine wE_intro ?_ ?_
            · simp only [List.all_cons, List.all_nil, chkOk, List.nil_append, List.cons_append, List.getElem?_cons_succ, List.getElem?_cons_zero]
              simp [Bx, g1', g2', g1'', g2'', h1, h2, vbeq, k]
            · simp [h1, h2, l5]
              exact hq _ (by have := ea.trans e5; (repeat first | exact Ext.refl | assumption | refine Ext.allocN ?_ | refine Ext.setN ?_ (by first | omega | (simp; done) | (simp; omega))))
        · have hl : x.lay = some (bigE 6 x.fail) := by simp only [Op.lay, k]; rfl
          rw [hl] at hq
          simp [g1'', k]
          refine lay6_ok _ x hw _ fun A5 e5 => ?_
          have h1 := e5.get g1'' id
          have h2 := e5.get g2'' id
          have l5 := AHeap.get_lt h2
          cases hv : (some (bigE 6 x.fail)) <;> rw [hv] at hq <;> simp [resE]
          · refine wE_intro ?_ ?_
            · simp only [List.all_cons, List.all_nil, chkOk, List.nil_append, List.cons_append, List.getElem?_cons_succ, List.getElem?_cons_zero]
              simp [Bx, g1', g2', g1'', g2'', h1, h2, vbeq, k]
            · simp [h1, h2, l5]
              exact hq _ (by have := ea.trans e5; (repeat first | exact Ext.refl | assumption | refine Ext.allocN ?_ | refine Ext.setN ?_ (by first | omega | (simp; done) | (simp; omega))))
          · refine wE_intro ?_ ?_
            · simp only [List.all_cons, List.all_nil, chkOk, List.nil_append, List.cons_append, List.getElem?_cons_succ, List.getElem?_cons_zero]
              simp [Bx, g1', g2', g1'', g2'', h1, h2, vbeq, k]
            · simp [h1, h2, l5]
              exact hq _ (by have := ea.trans e5; (repeat first | exact Ext.refl | assumption | refine Ext.allocN ?_ | refine Ext.setN ?_ (by first | omega | (simp; done) | (simp; omega))))
        · have hl : x.lay = some (bigE 7 x.fast) := by simp only [Op.lay, k]; rfl
          rw [hl] at hq
          simp [g1'', k]
          refine lay7_ok _ x hw _ fun A5 e5 => ?_
          have h1 := e5.get g1'' id
          have h2 := e5.get g2'' id
          have l5 := AHeap.get_lt h2
          cases hv : (some (bigE 7 x.fast)) <;> rw [hv] at hq <;> simp [resE]
          · refine wE_intro ?_ ?_
            · simp only [List.all_cons, List.all_nil, chkOk, List.nil_append, List.cons_append, List.getElem?_cons_succ, List.getElem?_cons_zero]
              simp [Bx, g1', g2', g1'', g2'', h1, h2, vbeq, k]
            · simp [h1, h2, l5]
              exact hq _ (by have := ea.trans e5; (repeat first | exact Ext.refl | assumption | refine Ext.allocN ?_ | refine Ext.setN ?_ (by first | omega | (simp; done) | (simp; omega))))
          · refine wE_intro ?_ ?_
            · simp only [List.all_cons, List.all_nil, chkOk, List.nil_append, List.cons_append, List.getElem?_cons_succ, List.getElem?_cons_zero]
              simp [Bx, g1', g2', g1'', g2'', h1, h2, vbeq, k]
            · simp [h1, h2, l5]
              exact hq _ (by have := ea.trans e5; (repeat first | exact Ext.refl | assumption | refine Ext.allocN ?_ | refine Ext.setN ?_ (by first | omega | (simp; done) | (simp; omega))))
        · have hl : x.lay = rstE x.rf x.rr := by simp only [Op.lay, k]; rfl
          rw [hl] at hq
          simp [g1'', k]
          refine lay8_ok _ x hw _ fun A5 e5 => ?_
          have h1 := e5.get g1'' id
          have h2 := e5.get g2'' id
          have l5 := AHeap.get_lt h2
          cases hv : (rstE x.rf x.rr) <;> rw [hv] at hq <;> simp [resE]
          · refine wE_intro ?_ ?_
            · simp only [List.all_cons, List.all_nil, chkOk, List.nil_append, List.cons_append, List.getElem?_cons_succ, List.getElem?_cons_zero]
              simp [Bx, g1', g2', g1'', g2'', h1, h2, vbeq, k]
            · simp [h1, h2, l5]
              exact hq _ (by have := ea.trans e5; (repeat first | exact Ext.refl | assumption | refine Ext.allocN ?_ | refine Ext.setN ?_ (by first | omega | (simp; done) | (simp; omega))))
          · refine wE_intro ?_ ?_
            · simp only [List.all_cons, List.all_nil, chkOk, List.nil_append, List.cons_append, List.getElem?_cons_succ, List.getElem?_cons_zero]
              simp [Bx, g1', g2', g1'', g2'', h1, h2, vbeq, k]
            · simp [h1, h2, l5]
              exact hq _ (by have := ea.trans e5; (repeat first | exact Ext.refl | assumption | refine Ext.allocN ?_ | refine Ext.setN ?_ (by first | omega | (simp; done) | (simp; omega))))
    · have hx' : (x = x.has) = False := eq_false hx
      have he : x.enc = none := if_neg hx
      rw [he] at hq
      simp [eqOp, hx']
      refine wE_intro ?_ ?_
      · simp only [List.all_cons, List.all_nil, chkOk, List.nil_append, List.cons_append, List.getElem?_cons_succ, List.getElem?_cons_zero]
        simp [Bx, g1, g2, g1', g2', vbeq]
      · simp [g1', g2', l3]
        exact hq _ (by have := e2.trans e3; (repeat first | exact Ext.refl | assumption | refine Ext.allocN ?_ | refine Ext.setN ?_ (by first | omega | (simp; done) | (simp; omega))))
theorem may_ok (A : AHeap) (x : Op) (hw : x.W) (Q : Value → AHeap → Prop) (hq : ∀ A', Ext NoB A A' → Q (.bool x.enc.isSome) A') : wF T (.func (.func 16) #[] #[]) [.agg ⟨x.cells⟩] A Q := by
  refine wF_func (first := []) (captured := []) t16 ⟨rfl, by decide⟩ ?_
  dsimp only [c16]
  simp
  refine encode_ok _ x hw _ fun A2 e2 => ?_
  have ea := Ext.alloc.trans e2
  cases hv : x.enc <;> rw [hv] at hq <;> simp [resI, itemV] <;> exact hq _ (by have := ea.size; (repeat first | exact Ext.refl | assumption | refine Ext.allocN ?_ | refine Ext.setN ?_ (by first | omega | (simp; done) | (simp; omega))))
end Go.Proofs.YtigknpfjhegkgaaGreat
