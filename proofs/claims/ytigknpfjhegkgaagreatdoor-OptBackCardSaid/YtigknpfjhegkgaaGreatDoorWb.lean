/- What the law of reading back answers. -/
import Derived.Test.YtigknpfjhegkgaaGreatDoorWa
import Derived.Test.YtigknpfjhegkgaaGreatDoorVl
import Derived.Test.YtigknpfjhegkgaaGreatDoorKg
import Derived.KernelRfl
namespace Go.Proofs.YtigknpfjhegkgaaGreatDoor
open Go Go.AS
set_option maxRecDepth 100000
set_option linter.unusedSimpArgs false
set_option linter.unusedVariables false
attribute [local irreducible] Trie.set Trie.get Env.rd
attribute [local simp ↓] wV_b2s
attribute [local simp] Nat.add_assoc wD_cons'' wD_nil' wC_seq wC_ops wC_opsD_nil wC_cond wC_skip wC_ret wC_exit wC_block wO_cons' wO_nil wantedA wV_eq lop qop ev wL_some wL_none wPut envOf rd_set rd_leaf eqA thenC blockC wB_true wB_false endF unwindA resultsA resA tupleA rdCell rdCells wrCells cl fillP lay rep bi_eql bi_neq bi_lss bi_leq bi_gtr bi_geq bi_add bi_sub bs_eql bs_neq bi_shr4 unA get_set' AHeap.get_alloc oneCell beqd bned idxA
attribute [local simp] Op.len Op.one Cap.ln Jn.len Ds.ln Ad.len Cap.one Jn.one Ds.one Ad.one Op.take Op.at0 Op.head? Op.getCap Op.tCap Op.getJn Op.getDs Op.getAd Op.getIds Op.getPrio Op.getFail Op.getFast Op.getRst Op.putCap Op.putJn Op.putDs Op.putAd Op.putSub Op.putIds Op.putPrio Op.putFail Op.putFast Op.putRf Op.putRr Op.layAll Op.zeroC Op.vb
theorem eqItem (a c : Int) (l m : List UInt8) : eqL [(0, .i), (1, .s)] [.int .i64 a, .string ⟨⟨l⟩⟩] [.int .i64 c, .string ⟨⟨m⟩⟩] = some (decide (a = c ∧ l = m)) := by
  simp only [eqL, leafEq, List.getElem?_cons_zero, List.getElem?_cons_succ, if_true]
  rw [Option.some.injEq, Bool.eq_iff_iff]
  simp only [Bool.and_eq_true, beq_iff_eq, decide_eq_true_eq, and_true]
/-- The second half: of any option. -/
theorem back2_ok (A : AHeap) (q5 q7 q13 : Nat) (x : Op) (hx : x.W0) (z : Op) (hE : EH A) (g5 : A.get q5 = some (.cells x.cells false 0)) (g13 : A.get q13 = some (.cells z.cells false 0)) (env : Env) (r5 : env.rd 5 = .pointer (some ⟨q5, 0, none⟩)) (r13 : env.rd 13 = .pointer (some ⟨q13, 0, none⟩)) (hq : q5 ≠ q13) :
    wC T 6 none c6t { env := env, n := 112, dfs := [], A := A } (endF [.inl 6] (fun v _ => v = .bool true)) := by
  dsimp only [c6t]
  have hw := hx.short
  simp [r5, g5]
  refine short_ok A x _ fun B eB => ?_
  have b5 := eB.get g5 id
  have b13 := eB.get g13 id
  simp
  refine encode_ok B _ hw _ fun C eC => ?_
  have c5 := eC.get b5 id
  have c13 := eC.get b13 id
  have l5 := AHeap.get_lt c5
  have l13 := AHeap.get_lt c13
  have eeC := eB.trans eC
  have fin : ∀ (l : List UInt8) (k : Int), ∃ D, D = (C.alloc (.cells [.int .i64 0, .string ⟨⟨[]⟩⟩] false 0)).set C.size (.cells [.int .i64 k, .string ⟨⟨l⟩⟩] false 0) ∧ D.get q5 = some (.cells x.cells false 0) ∧ D.get q13 = some (.cells z.cells false 0) ∧ D.get C.size = some (.cells [.int .i64 k, .string ⟨⟨l⟩⟩] false 0) ∧ EH D ∧ C.size < D.size := by
    intro l k
    refine ⟨_, rfl, ?_, ?_, ?_, ?_, by simp⟩
    · simp [c5, show q5 ≠ C.size by omega]
    · simp [c13, show q13 ≠ C.size by omega]
    · simp
    · exact hE.extN (A' := (C.alloc _).set C.size _) (by have := eeC.size; (repeat first | exact Ext.refl | assumption | refine Ext.allocN ?_ | refine Ext.setN ?_ (by first | omega | (simp; done) | (simp; omega))))
  cases hv : x.short.enc with
  | none =>
    obtain ⟨D, hD, d5, d13, d15, hED, lD⟩ := fin [] 0
    simp [resI, itemV, r5, c5, show q5 ≠ C.size by omega]
    rw [← hD]
    refine short_ok D x _ fun E eE => ?_
    have e15 := eE.get d15 id
    simp
    refine may_ok E _ hw _ fun F eF => ?_
    have f15 := eF.get e15 id
    rw [hv]
    simp [f15, eqItem]
  | some l =>
    obtain ⟨D, hD, d5, d13, d15, hED, lD⟩ := fin l 30
    simp [resI, itemV, r5, c5, show q5 ≠ C.size by omega]
    rw [← hD]
    refine short_ok D x _ fun E eE => ?_
    have e15 := eE.get d15 id
    have e5 := eE.get d5 id
    have e13 := eE.get d13 id
    simp
    refine may_ok E _ hw _ fun F eF => ?_
    have f15 := eF.get e15 id
    have f5 := eF.get e5 id
    have f13 := eF.get e13 id
    rw [hv]
    simp [f15]
    have hl : l.length < 1000000 := enc_len hw hv
    refine decode_ok F 30 l hl (hED.extN (eE.trans eF)) _ fun G eG => ?_
    have g15 := eG.get f15 id
    have g5' := eG.get f5 id
    have g13' := eG.get f13 id
    have lG := AHeap.get_lt g13'
    rw [Op.rt hw hv]
    simp [resO, resD, r13, r5, g13', lG]
    generalize hH : AHeap.set _ _ _ = H
    have h13 : H.get q13 = some (.cells x.short.cells false 0) := by subst hH; simp [lG]
    have h5 : H.get q5 = some (.cells x.cells false 0) := by subst hH; simp [g5', hq]
    refine wC_opsD_chk ?_
    simp [r13, r5, h13, h5]
    refine short_ok H x _ fun I eI => ?_
    have i13 := eI.get h13 id
    simp [eqOp]
    refine wE_intro ?_ ?_
    · simp only [List.all_cons, List.all_nil, chkOk, List.nil_append, List.cons_append, List.getElem?_cons_succ, List.getElem?_cons_zero]
      simp [Bx, r13, h13, i13, vbeq]
    simp
theorem vb_bc : ∀ l : List UInt8, vbeq.vbeqs 3 (bcells l) (bcells l) = true
  | [] => rfl
  | b :: l => by
    show (vbeq 3 (byt b) (byt b) && vbeq.vbeqs 3 (bcells l) (bcells l)) = true
    rw [vb_bc l]; simp [byt, vbeq]
theorem Dr.vb (d : Dr) : vbeq.vbeqs 3 d.cells d.cells = true := by
  simp only [Dr.cells, vbeq.vbeqs, vb_bc]; simp [vbeq]
set_option maxHeartbeats 1000000 in
theorem back_ok (A : AHeap) (d b : Dr) (x : Op) (hd : d.W) (hb : b.W) (hx : x.W0) (ho : d.opt.W) (hbo : b.opt.W) (hE : EH A) : wF T (.func (.func 6) #[] #[]) [.agg ⟨d.cells⟩, .agg ⟨b.cells⟩, .agg ⟨x.cells⟩] A (fun v _ => v = .bool true) := by
  refine wF_func (first := []) (captured := []) t6 ⟨rfl, by decide⟩ ?_
  dsimp only [c6]
  have hl := d.len hd.bytes
  have ht := d.take hd.bytes
  have hl2 := b.len hb.bytes
  have ht2 := b.take hb.bytes
  simp [hl, hl2]
  generalize hB : AHeap.alloc _ _ = B
  have b0 : B.get A.size = some (.cells d.cells false 0) := by subst hB; simp
  have b1 : B.get (A.size + 1) = some (.cells b.cells false 0) := by subst hB; simp
  have b2 : B.get (A.size + 2) = some (.cells x.cells false 0) := by subst hB; simp
  have eB : Ext NoB A B := by subst hB; (repeat first | exact Ext.refl | assumption | refine Ext.allocN ?_ | refine Ext.setN ?_ (by first | omega | (simp; done) | (simp; omega)))
  refine works_ok B _ (hE.extN eB) ?_
  simp
  refine wC_opsD_chk ?_
  simp [b0, hl, ht]
  refine dopt_ok _ d hd _ fun C eC => ?_
  have c0 := eC.get b0 id
  have c1 := eC.get b1 id
  have c2 := eC.get b2 id
  simp [c1, hl2, ht2]
  refine dopt_ok _ b hb _ fun D eD => ?_
  have d0 := eD.get c0 id
  have d1 := eD.get c1 id
  have d2 := eD.get c2 id
  have l2 := AHeap.get_lt d2
  simp
  refine wE_intro ?_ ?_
  · simp only [List.all_cons, List.all_nil, chkOk, List.nil_append, List.cons_append, List.getElem?_cons_succ, List.getElem?_cons_zero]
    simp [Bx, b0, b1, b2, c0, c1, c2, d0, d1, d2, hl, hl2, ht2, vbeq, Dr.vb]
  simp
  generalize hF : AHeap.set _ _ _ = F
  have f2 : F.get (A.size + 2) = some (.cells x.cells false 0) := by subst hF; simp [d2, show A.size + 2 ≠ D.size by omega, show A.size + 2 ≠ D.size + 1 by omega]
  have f7 : F.get D.size = some (.cells d.opt.cells false 0) := by subst hF; simp
  have f8 : F.get (D.size + 1) = some (.cells b.opt.cells false 0) := by subst hF; simp
  have eF : Ext NoB A F := by subst hF; have := (eB.trans eC).trans eD; have := this.size; (repeat first | exact Ext.refl | assumption | refine Ext.allocN ?_ | refine Ext.setN ?_ (by first | omega | (simp; done) | (simp; omega)))
  obtain ⟨la, ha, ha1, ha2⟩ := Dr.enc hd
  obtain ⟨lb, hb', hb1, hb2⟩ := Dr.enc hb
  have zD : A.size + 2 < D.size := l2
  simp [f7]
  refine encode_ok F d.opt ho _ fun G eG => ?_
  have g2 := eG.get f2 id
  have g7 := eG.get f7 id
  have g8 := eG.get f8 id
  have l8 := AHeap.get_lt g8
  rw [ha]
  simp [resI, itemV, g8, show D.size + 1 ≠ G.size by omega]
  generalize hH : AHeap.set _ _ _ = H
  have h2 : H.get (A.size + 2) = some (.cells x.cells false 0) := by subst hH; simp [g2, show A.size + 2 ≠ G.size by omega]
  have h7 : H.get D.size = some (.cells d.opt.cells false 0) := by subst hH; simp [g7, show D.size ≠ G.size by omega]
  have h8 : H.get (D.size + 1) = some (.cells b.opt.cells false 0) := by subst hH; simp [g8, show D.size + 1 ≠ G.size by omega]
  have h9 : H.get G.size = some (.cells [.int .i64 30, .string ⟨⟨la⟩⟩] false 0) := by subst hH; simp
  have eH : Ext NoB A H := by subst hH; have := eF.trans eG; have := this.size; (repeat first | exact Ext.refl | assumption | refine Ext.allocN ?_ | refine Ext.setN ?_ (by first | omega | (simp; done) | (simp; omega)))
  refine encode_ok H b.opt hbo _ fun I eI => ?_
  have i2 := eI.get h2 id
  have i7 := eI.get h7 id
  have i8 := eI.get h8 id
  have i9 := eI.get h9 id
  have l9 := AHeap.get_lt i9
  rw [hb']
  simp [resI, itemV, i9, show G.size ≠ I.size by omega]
  generalize hJ : AHeap.set _ _ _ = J
  have j2 : J.get (A.size + 2) = some (.cells x.cells false 0) := by subst hJ; simp [i2, show A.size + 2 ≠ I.size by omega]
  have j7 : J.get D.size = some (.cells d.opt.cells false 0) := by subst hJ; simp [i7, show D.size ≠ I.size by omega]
  have j8 : J.get (D.size + 1) = some (.cells b.opt.cells false 0) := by subst hJ; simp [i8, show D.size + 1 ≠ I.size by omega]
  have j9 : J.get G.size = some (.cells [.int .i64 30, .string ⟨⟨la⟩⟩] false 0) := by subst hJ; simp [i9, show G.size ≠ I.size by omega]
  have j11 : J.get I.size = some (.cells [.int .i64 30, .string ⟨⟨lb⟩⟩] false 0) := by subst hJ; simp
  have eJ : Ext NoB A J := by subst hJ; have := eH.trans eI; have := this.size; (repeat first | exact Ext.refl | assumption | refine Ext.allocN ?_ | refine Ext.setN ?_ (by first | omega | (simp; done) | (simp; omega)))
  refine decode_ok J 30 la (by omega) (hE.extN eJ) _ fun K eK => ?_
  have k2 := eK.get j2 id
  have k7 := eK.get j7 id
  have k8 := eK.get j8 id
  have k9 := eK.get j9 id
  have k11 := eK.get j11 id
  have l11 := AHeap.get_lt k11
  rw [Op.rt ho ha]
  simp [resO, resD, k7, show D.size ≠ K.size by omega, eqOp]
  generalize hL : AHeap.set _ _ _ = L
  have m2 : L.get (A.size + 2) = some (.cells x.cells false 0) := by subst hL; simp [k2, show A.size + 2 ≠ K.size by omega]
  have m7 : L.get D.size = some (.cells d.opt.cells false 0) := by subst hL; simp [k7, show D.size ≠ K.size by omega]
  have m8 : L.get (D.size + 1) = some (.cells b.opt.cells false 0) := by subst hL; simp [k8, show D.size + 1 ≠ K.size by omega]
  have m9 : L.get G.size = some (.cells [.int .i64 30, .string ⟨⟨la⟩⟩] false 0) := by subst hL; simp [k9, show G.size ≠ K.size by omega]
  have m11 : L.get I.size = some (.cells [.int .i64 30, .string ⟨⟨lb⟩⟩] false 0) := by subst hL; simp [k11, show I.size ≠ K.size by omega]
  have m13 : L.get K.size = some (.cells d.opt.cells false 0) := by subst hL; simp
  have eL : Ext NoB A L := by subst hL; have := eJ.trans eK; have := this.size; (repeat first | exact Ext.refl | assumption | refine Ext.allocN ?_ | refine Ext.setN ?_ (by first | omega | (simp; done) | (simp; omega)))
  refine may_ok L d.opt ho _ fun M eM => ?_
  have n2 := eM.get m2 id
  have n7 := eM.get m7 id
  have n8 := eM.get m8 id
  have n9 := eM.get m9 id
  have n11 := eM.get m11 id
  have n13 := eM.get m13 id
  have eMM := eL.trans eM
  rw [ha]
  have hsame : (la = lb) = (d.opt = b.opt) := by
    apply propext
    constructor
    · intro q; rw [← q] at hb'; exact Op.inj ho hbo ha hb'
    · intro q; rw [← q, ha] at hb'; cases hb'; rfl
  have hlen : ¬ (38 : Int) < (la.length : Int) := by omega
  simp [n7, n8, n9, n11, eqItem, eqOp, hsame, hlen]
  exact back2_ok M (A.size + 2) D.size K.size x hx d.opt (hE.extN eMM) n2 n13 _ (by simp) (by simp) (by omega)
end Go.Proofs.YtigknpfjhegkgaaGreatDoor
