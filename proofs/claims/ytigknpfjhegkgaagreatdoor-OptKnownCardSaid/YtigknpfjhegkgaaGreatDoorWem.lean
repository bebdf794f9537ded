/- The options of an area. -/
import Derived.Test.YtigknpfjhegkgaaGreatDoorWdm
import Derived.KernelRfl
namespace Go.Proofs.YtigknpfjhegkgaaGreatDoor
open Go Go.AS
set_option maxRecDepth 100000
set_option linter.unusedSimpArgs false
set_option linter.unusedVariables false
attribute [local irreducible] Trie.set Trie.get Env.rd
attribute [local simp ↓] wV_b2s
attribute [local simp] Nat.add_assoc wD_cons'' wD_nil' wC_seq wC_ops wC_opsD_nil wC_cond wC_skip wC_ret wC_exit wC_block wO_cons' wO_nil wantedA wV_eq lop qop ev wL_some wL_none wPut envOf rd_set rd_leaf eqA thenC blockC wB_true wB_false endF unwindA resultsA resA tupleA rdCell rdCells wrCells cl fillP lay rep bi_eql bi_neq bi_lss bi_leq bi_gtr bi_geq bi_add bi_sub bs_eql bs_neq bi_shr4 unA get_set' AHeap.get_alloc oneCell beqd bned idxA
attribute [local simp] Op.len Op.one Cap.ln Jn.len Ds.ln Ad.len Cap.one Jn.one Ds.one Ad.one Op.take Op.at0 Op.head? Op.getCap Op.tCap Op.getJn Op.getDs Op.getAd Op.getIds Op.getPrio Op.getFail Op.getFast Op.getRst Op.putCap Op.putJn Op.putDs Op.putAd Op.putSub Op.putIds Op.putPrio Op.putFail Op.putFast Op.putRf Op.putRr Op.layAll Op.zeroC Op.vb
/-- What items are read as: options, and what is wrong. -/
def dAll : List Ar.It → List Op × Int
  | [] => ([], 0)
  | x :: r => match Op.dec x.kind x.body.data.toList with
    | .ok o => (o :: (dAll r).1, (dAll r).2)
    | .error e => if e = 7 then dAll r else ([], e)
def allO (s : List UInt8) : List Op × Int := if (Ar.walkR s).2 ≠ 0 then ([], (Ar.walkR s).2) else if (dAll (Ar.walkR s).1).2 = 0 then ((dAll (Ar.walkR s).1).1, 0) else ([], (dAll (Ar.walkR s).1).2)
def AllI (A0 : AHeap) (sv : Value) (its : List Ar.It) (q5 : Nat) (m : Nat) (st : St) : Prop := ∃ i v l, m + i = its.length ∧ st.n = 49 ∧ st.dfs = [] ∧ st.env.rd 18 = sv ∧ st.env.rd 19 = .int .i64 (its.length : Nat) ∧ st.env.rd 20 = .int .i64 (i : Nat) ∧ st.env.rd 2 = v ∧ st.env.rd 5 = .pointer (some ⟨q5, 0, none⟩) ∧
  Ext NoB A0 st.A ∧ SliceAt st.A 38 v l.length (opsC l) ∧ (∀ j, Own v j → A0.size + 1 ≤ j) ∧ st.A.get q5 = some (.cells [.int .i64 0] false 0) ∧ q5 = A0.size ∧ dAll its = (l ++ (dAll (its.drop i)).1, (dAll (its.drop i)).2) ∧ l.length ≤ i
theorem all_read (A : AHeap) (s : List UInt8) (hs : s.length < 1000000) (hE : EH A) (Q : Value → AHeap → Prop)
    (hq : ∀ A' v, Ext NoB A A' → SliceAt A' 38 v (allO s).1.length (opsC (allO s).1) → (∀ j, Own v j → A.size ≤ j) → Q (.tuple ⟨[v, .int .i64 (allO s).2]⟩) A') : wF T (.func (.func 19) #[] #[]) [.string ⟨⟨s⟩⟩] A Q := by
  refine wF_func (first := []) (captured := []) t19 ⟨rfl, by decide⟩ ?_
  dsimp only [c19]
  simp
  have no : ∀ k j, Own (.slice none 0 0) j → k ≤ j := fun k j ⟨_, _, _, q⟩ => by cases q
  refine Ar.walk_ok ⟨⟨s⟩⟩ A _ hs fun B sv y1 y2 y3 => ?_
  have wl := Ar.walkR_len s
  have hkeep : ∀ x ∈ (Ar.walkR s).1, x.body.data.toList.length < 1000000 := by
    intro x hx
    have := Ar.walkR_body s x hx
    omega
  unfold allO at hq
  change SliceAt B 2 sv (Ar.walkR s).1.length (Ar.icells (Ar.walkR s).1) at y1
  generalize hW : Ar.walkR s = W at y1 hq wl hkeep ⊢
  obtain ⟨its, e⟩ := W
  simp only at y1 hq wl hkeep
  obtain ⟨a1, c1, hsv⟩ := y1.read.val
  subst hsv
  by_cases he : e = 0
  case neg =>
    rw [if_pos he] at hq
    simp [he]
    exact hq _ _ y2 .nil (no _)
  subst he
  rw [if_neg (by decide)] at hq
  simp
  generalize hC : AHeap.alloc _ _ = C
  have eC : Ext NoB B C := by subst hC; (repeat first | exact Ext.refl | assumption | refine Ext.allocN ?_ | refine Ext.setN ?_ (by first | omega | (simp; done) | (simp; omega)))
  have c5 : C.get B.size = some (.cells [.int .i64 0] false 0) := by subst hC; simp
  refine wC_loop_inv (AllI B (.slice a1 its.length c1) its B.size) ?_ its.length _ ⟨0, .slice none 0 0, [], by omega, rfl, rfl, by simp, by simp, by simp, by simp, by simp, eC, .nil, no _, c5, rfl, by simp, by simp⟩
  rintro m ⟨env, nn, dfs, D⟩ ⟨i, v, l, k0, k1, k2, k18, k19, k20, k2', k5, e1, s1, o1, g5, _, hd, hll⟩
  simp only at k1 k2 k18 k19 k20 k2' k5 e1 s1 g5
  subst k1; subst k2
  have zD := AHeap.get_lt g5
  have eAD : Ext NoB A D := y2.trans e1
  by_cases hi : i < its.length
  · obtain ⟨d1, p1, cc1, bs1, ro1, opn1, q1, q2, q3, q4⟩ := (y1.read.ext e1 fun _ _ q => q).elem2 hi
    rw [Ar.icells_at its i hi] at q4
    cases q1
    rw [Nat.add_assoc] at q3
    have hdr : its.drop i = its[i] :: its.drop (i + 1) := List.drop_eq_getElem_cons hi
    have hxl := hkeep its[i] (List.getElem_mem hi)
    rw [hdr] at hd
    generalize its[i] = x at q4 hd hxl
    obtain ⟨k, ⟨⟨b⟩⟩⟩ := x
    simp only at q4 hxl
    have hii : (i : Int) < (its.length : Int) := by omega
    simp [k18, k19, k20, hi, hii, q2, q3, q4]
    generalize hF : AHeap.set _ _ _ = F
    have f5 : F.get B.size = some (.cells [.int .i64 0] false 0) := by subst hF; simp [g5, show B.size ≠ D.size by omega]
    have f7 : F.get D.size = some (.cells [.int .i64 k, .string ⟨⟨b⟩⟩] false 0) := by subst hF; simp
    have eF : Ext NoB D F := by subst hF; (repeat first | exact Ext.refl | assumption | refine Ext.allocN ?_ | refine Ext.setN ?_ (by first | omega | (simp; done) | (simp; omega)))
    refine read_ok F k b hxl _ fun G eG => ?_
    have g5' := eG.get f5 id
    have eDG := eF.trans eG
    have ws := wrap_succ i (by omega)
    cases hx : Op.dec k b with
    | ok y =>
      have hd2 : dAll its = ((l ++ [y]) ++ (dAll (its.drop (i + 1))).1, (dAll (its.drop (i + 1))).2) := by
        rw [hd]; simp [dAll, hx]
      simp [resR, k2']
      generalize hH : AHeap.set _ _ _ = H
      have zH : H.size = G.size + 1 := by subst hH; rfl
      have h5 : H.get B.size = some (.cells [.int .i64 0] false 0) := by subst hH; simp [g5', show B.size ≠ G.size by have := eDG.size; omega]
      have eH : Ext NoB D H := by subst hH; have := eDG.size; (repeat first | exact Ext.refl | assumption | refine Ext.allocN ?_ | refine Ext.setN ?_ (by first | omega | (simp; done) | (simp; omega)))
      have hlen : l.length < 1000000 := by omega
      obtain ⟨a2, c2, A2, s2, t2, u2, v2⟩ := appO H (H.alloc (.cells y.cells false 0)) v (.slice (some ⟨H.size, 0, none⟩) 1 1) l y (s1.ext eH fun _ _ q => q) Ext.alloc rfl (by simp [firstA, rdCells, ENDCAP]) rfl hlen
      rw [zH] at s2
      simp [s2]
      simp [k20, ws]
      refine ⟨m - 1, by omega, i + 1, _, l ++ [y], by omega, rfl, rfl, by simp [k18], by simp [k19], by simp, by simp; rfl, by simp [k5], ?_, ?_, ?_, ?_, rfl, hd2, by simp; omega⟩
      · exact (e1.trans eH).trans2 u2 fun j hj q => by have := o1 j q; omega
      · simpa using t2
      · intro j hj
        have := e1.size
        have := eH.size
        rcases v2 j hj with q | q
        · exact o1 j q
        · omega
      · exact u2.get h5 fun q => by have := o1 _ q; omega
    | error er =>
      have her := op_err hx
      simp [resR]
      generalize hH : AHeap.set _ _ _ = H
      have h5 : H.get B.size = some (.cells [.int .i64 0] false 0) := by subst hH; simp [g5', show B.size ≠ G.size by have := eDG.size; omega]
      have eH : Ext NoB D H := by subst hH; have := eDG.size; (repeat first | exact Ext.refl | assumption | refine Ext.allocN ?_ | refine Ext.setN ?_ (by first | omega | (simp; done) | (simp; omega)))
      have z5 := AHeap.get_lt h5
      have eAH := eAD.trans eH
      simp [k5]
      refine as_ok H er _ h5 (hE.extN eAH) _ ?_
      by_cases h7 : er = 7
      · have hd2 : dAll its = (l ++ (dAll (its.drop (i + 1))).1, (dAll (its.drop (i + 1))).2) := by
          rw [hd]; simp [dAll, hx, h7]
        simp [h7, z5, k5, k20, ws]
        refine ⟨m - 1, by omega, i + 1, _, l, by omega, rfl, rfl, by simp [k18], by simp [k19], by simp, by simp [k2'], by simp [k5], ?_, ?_, o1, ?_, rfl, hd2, by omega⟩
        · have := e1.trans eH
          have := e1.size
          (repeat first | exact Ext.refl | assumption | refine Ext.allocN ?_ | refine Ext.setN ?_ (by first | omega | (simp; done) | (simp; omega)))
        · refine (s1.ext eH fun _ _ q => q).ext (S := fun j => j = B.size) ((Ext.set (S := fun j => j = B.size) rfl).trans (Ext.set rfl)) fun j hj q => ?_
          have := o1 j hj
          omega
        · simp [z5]
      · have hd2 : dAll its = (l, er) := by rw [hd]; simp [dAll, hx, h7]
        rw [hd2] at hq
        simp only at hq
        rw [if_neg her] at hq
        simp [h7, z5, k5, her]
        refine hq _ _ ?_ .nil (no _)
        have := y2.size
        (repeat first | exact Ext.refl | assumption | refine Ext.allocN ?_ | refine Ext.setN ?_ (by first | omega | (simp; done) | (simp; omega)))
  · have hm : its.drop i = [] := List.drop_eq_nil_of_le (by omega)
    rw [hm] at hd
    simp only [dAll, List.append_nil] at hd
    rw [hd] at hq
    simp only [if_true] at hq
    have hii : ¬ (i : Int) < (its.length : Int) := by omega
    simp [k18, k19, k20, hi, hii, k5, g5, k2']
    refine hq D v eAD s1 fun j hj => ?_
    have := o1 j hj
    have := y2.size
    omega
end Go.Proofs.YtigknpfjhegkgaaGreatDoor
