/- Rows of options, laid. -/
import Derived.Test.YtigknpfjhegkgaaGreatCym
import Derived.Test.YtigknpfjhegkgaaGreatXb
import Derived.Test.YtigknpfjhegkgaaGreatKh
import Derived.KernelRfl
namespace Go.Proofs.YtigknpfjhegkgaaGreat
open Go Go.AS
set_option maxRecDepth 100000
set_option linter.unusedSimpArgs false
set_option linter.unusedVariables false
attribute [local irreducible] Trie.set Trie.get Env.rd
attribute [local simp ↓] wV_b2s
attribute [local simp] Nat.add_assoc wD_cons'' wD_nil' wC_seq wC_ops wC_opsD_nil wC_cond wC_skip wC_ret wC_exit wC_block wO_cons' wO_nil wantedA wV_eq lop qop ev wL_some wL_none wPut envOf rd_set rd_leaf eqA thenC blockC wB_true wB_false endF unwindA resultsA resA tupleA rdCell rdCells wrCells cl fillP lay rep bi_eql bi_neq bi_lss bi_leq bi_gtr bi_geq bi_add bi_sub bs_eql bs_neq bi_shr4 unA get_set' AHeap.get_alloc oneCell beqd bned idxA
attribute [local simp] Op.len Op.one Op.take Op.at0 Op.head? Op.getCap Op.getAd Op.layAll Op.zeroC Op.vb
/-- What a row of options is laid as. -/
def itO (x : Op) : Ar.It := ⟨30, ⟨⟨x.enc.getD []⟩⟩⟩
def layO (l : List Op) : ByteArray × Int := if l.all (fun x => x.enc.isSome) then Ar.layR (l.map itO) else (⟨⟨[]⟩⟩, 2)
def LayI (A0 : AHeap) (lv : Value) (l : List Op) (m : Nat) (st : St) : Prop := ∃ i v, m + i = l.length ∧ st.n = 32 ∧ st.dfs = [] ∧ st.env.rd 9 = lv ∧ st.env.rd 10 = .int .i64 (l.length : Nat) ∧ st.env.rd 11 = .int .i64 (i : Nat) ∧ st.env.rd 4 = v ∧
  Ext NoB A0 st.A ∧ SliceAt st.A 2 v ((l.take i).map itO).length (Ar.icells ((l.take i).map itO)) ∧ (∀ j, Own v j → A0.size ≤ j) ∧ (l.take i).all (fun x => x.enc.isSome) = true
theorem laying_ok (l : List Op) (lv : Value) (A0 : AHeap) (Q : Value → AHeap → Prop) (h : ReadAt A0 38 lv l.length (opsC l)) (hw : ∀ x ∈ l, x.W) (hn : l.length ≤ 1000)
    (hq : ∀ A', Ext NoB A0 A' → Q (.tuple ⟨[.string (layO l).1, .int .i64 (layO l).2]⟩) A') : wF T (.func (.func 17) #[] #[]) [lv] A0 Q := by
  obtain ⟨a1, c1, rfl⟩ := h.val
  refine wF_func (first := []) (captured := []) t17 ⟨rfl, by decide⟩ ?_
  dsimp only [c17]; simp
  refine wC_loop_inv (LayI A0 (.slice a1 l.length c1) l) ?_ l.length _ ⟨0, .slice none 0 0, by omega, rfl, rfl, by simp, by simp, by simp, by simp, Ext.refl, .nil, (fun j ⟨_, _, _, q⟩ => by cases q), by simp⟩
  rintro m ⟨env, nn, dfs, A⟩ ⟨i, v, k0, k1, k2, k9, k10, k11, k4, e1, s1, o1, hok⟩
  simp only at k1 k2 k9 k10 k11 k4 e1 s1
  subst k1; subst k2
  by_cases hi : i < l.length
  · obtain ⟨d1, p1, cc1, bs1, ro1, opn1, q1, q2, q3, q4⟩ := (h.ext e1 fun _ _ q => q).elem2 hi
    rw [opsC_at l i hi] at q4
    cases q1
    rw [Nat.add_assoc] at q3
    have ht : l.take (i + 1) = l.take i ++ [l[i]] := by rw [List.take_add_one, List.getElem?_eq_getElem hi]; rfl
    have hxw := hw l[i] (List.getElem_mem hi)
    have hmem := List.getElem_mem hi
    generalize l[i] = x at q4 ht hxw hmem
    have hii : (i : Int) < (l.length : Int) := by omega
    simp [k9, k10, k11, hi, hii, q2, q3, q4]
    generalize hB : AHeap.set _ _ _ = B
    have b6 : B.get A.size = some (.cells x.cells false 0) := by subst hB; simp
    have eB : Ext NoB A B := by subst hB; (repeat first | exact Ext.refl | assumption | refine Ext.allocN ?_ | refine Ext.setN ?_ (by first | omega | (simp; done) | (simp; omega)))
    refine encode_ok B x hxw _ fun C eC => ?_
    have eC' := eB.trans eC
    cases hv : x.enc with
    | none =>
      simp [resI, itemV]
      have hbad : l.all (fun x => x.enc.isSome) = false := by
        rw [List.all_eq_false]
        exact ⟨x, hmem, by rw [hv]; simp⟩
      have hR : layO l = (⟨⟨[]⟩⟩, 2) := by unfold layO; rw [hbad]; rfl
      rw [hR] at hq
      refine hq _ ?_
      have := (e1.trans eC'); have := this.size; (repeat first | exact Ext.refl | assumption | refine Ext.allocN ?_ | refine Ext.setN ?_ (by first | omega | (simp; done) | (simp; omega)))
    | some t =>
      simp [resI, itemV, k4]
      generalize hD : AHeap.set _ _ _ = D
      have eD : Ext NoB A D := by subst hD; have := eC'.size; (repeat first | exact Ext.refl | assumption | refine Ext.allocN ?_ | refine Ext.setN ?_ (by first | omega | (simp; done) | (simp; omega)))
      have zD : D.size = C.size + 1 := by subst hD; rfl
      have ti : itO x = ⟨30, ⟨⟨t⟩⟩⟩ := by unfold itO; rw [hv]; rfl
      have hlen : ((l.take i).map itO).length < 1000000 := by rw [List.length_map, List.length_take]; omega
      obtain ⟨its, hits⟩ : ∃ its, its = (l.take i).map itO := ⟨_, rfl⟩
      rw [← hits] at s1 hlen
      obtain ⟨a2, c2, A2, s2, t2, u2, v2⟩ := Ar.appI D (D.alloc (.cells [.int .i64 30, .string ⟨⟨t⟩⟩] false 0)) v (.slice (some ⟨D.size, 0, none⟩) 1 1) _ (itO x) (s1.ext eD fun _ _ q => q) Ext.alloc rfl (by rw [ti]; simp [firstA, rdCells, ENDCAP]) hlen
      rw [zD] at s2
      simp [s2]
      have ws := wrap_succ i (by omega)
      simp [k11, ws]
      refine ⟨m - 1, by omega, i + 1, _, by omega, rfl, rfl, by simp [k9], by simp [k10], by simp, by simp; rfl, ?_, ?_, ?_, ?_⟩
      · exact (e1.trans eD).trans2 u2 fun j hj q => by have := o1 j q; omega
      · have em : (l.take (i + 1)).map itO = (l.take i).map itO ++ [itO x] := by rw [ht]; simp
        rw [em, ← hits]; exact t2
      · intro j hj
        have := e1.size
        have := eD.size
        rcases v2 j hj with q | q
        · exact o1 j q
        · omega
      · rw [ht, List.all_append, hok]; simp [hv]
  · have hm : l.take i = l := List.take_of_length_le (by omega)
    rw [hm] at s1 hok
    have hii : ¬ (i : Int) < (l.length : Int) := by omega
    simp [k9, k10, k11, hi, hii, k4]
    refine Ar.lay_ok _ v A _ s1.read (by rw [List.length_map]; exact hn) fun A' e' => ?_
    have hR : layO l = Ar.layR (l.map itO) := by unfold layO; rw [hok]; rfl
    rw [hR] at hq
    simp
    exact hq _ (e1.trans e')
end Go.Proofs.YtigknpfjhegkgaaGreat
