/- The closed law: rows laid, areas read. -/
import Derived.Test.YtigknpfjhegkgaaGreatDoorWpm
import Derived.KernelRfl
namespace Go.Proofs.YtigknpfjhegkgaaGreatDoor
open Go Go.AS
set_option maxRecDepth 100000
set_option linter.unusedSimpArgs false
set_option linter.unusedVariables false
attribute [local irreducible] Trie.set Trie.get Env.rd
attribute [local simp ↓] wV_b2s
attribute [local simp] Nat.add_assoc wD_cons'' wD_nil' wC_seq wC_ops wC_opsD_nil wC_cond wC_skip wC_ret wC_exit wC_block wO_cons' wO_nil wantedA wV_eq lop qop ev wL_some wL_none wPut envOf rd_set rd_leaf eqA thenC blockC wB_true wB_false endF unwindA resultsA resA tupleA rdCell rdCells wrCells cl fillP lay rep bi_eql bi_neq bi_lss bi_leq bi_gtr bi_geq bi_add bi_sub bs_eql bs_neq bi_shr4 unA get_set' AHeap.get_alloc oneCell beqd bned idxA
attribute [local simp] Op.len Op.one Cap.ln Jn.len Ds.ln Ad.len Cap.one Jn.one Ds.one Ad.one Op.take Op.at0 Op.head? Op.getCap Op.tCap Op.getJn Op.getDs Op.getAd Op.getIds Op.getPrio Op.getFail Op.getFast Op.getRst Op.putCap Op.putJn Op.putDs Op.putAd Op.putSub Op.putIds Op.putPrio Op.putFail Op.putFast Op.putRf Op.putRr Op.layAll Op.zeroC Op.vb


theorem q_ok (A0 A : AHeap) (v2 : Value) (hE : EH A0) (ex : Ext NoB A0 A) (h2 : ReadAt A 38 v2 good.length (opsC good))
    (env : Env) (r1 : env.rd 1 = .string ⟨⟨zids⟩⟩) (r2 : env.rd 2 = v2) :
    wC T 9 none c9q { env := env, n := 231, dfs := [], A := A } (endF [.inl 0] (fun v _ => v = .bool true)) := by
  dsimp only [c9q]
  obtain ⟨full, hf1, hf2, hf3⟩ := full_ok
  have hw0 : ∀ x ∈ [({ Op.only 4 with ids := zids } : Op)], x.W := by
    intro x hx
    rw [List.mem_singleton.1 hx]
    exact ⟨⟨by decide, by decide, by decide⟩, ⟨by decide, by decide, by decide⟩, ⟨by decide, by decide, by decide, by decide⟩, ⟨by decide, by decide⟩, by decide, by decide, by decide⟩
  generalize zids = z at r1 hf1 hw0
  simp [r1, r2]
  refine laying_ok [({ Op.only 4 with ids := z } : Op)] _ _ _ (.inr (.inl ⟨A.size, 0, 1, _, false, 0, rfl, by rw [AHeap.get_alloc, if_pos rfl], by simp, by simp [opsC, Op.only], fun q => by cases q⟩)) hw0 (by simp) fun B eB => ?_
  rw [hf1]
  have e1 : Ext NoB A B := Ext.trans Ext.alloc eB
  simp [r2]
  have h2B := h2.ext e1 fun _ _ q => q
  refine laying_ok good v2 B _ h2B good_w (by decide) fun C eC => ?_
  have hrow := row_ok
  generalize layO good = p at hrow ⊢
  obtain ⟨⟨⟨s2⟩⟩, e2⟩ := p
  simp only at hrow
  subst hrow
  simp
  refine laying_ok [] _ C _ (.inl ⟨rfl, rfl, rfl⟩) (by simp) (by simp) fun D eD => ?_
  rw [rowNone]
  simp
  have eD' := ((ex.trans e1).trans eC).trans eD
  refine all_read D [] (by simp) (hE.extN eD') _ fun F v19 eF sF oF => ?_
  rw [all0] at sF ⊢
  obtain ⟨a19, c19, rfl⟩ := sF.read.val
  have eF' := eD'.trans eF
  simp
  have bs1 : binA .add (.string ⟨⟨full⟩⟩) (.string ⟨⟨[0, 0, 0, 0]⟩⟩) = some (.string ⟨⟨full ++ [0, 0, 0, 0]⟩⟩) := by
    simp only [binA, hf2, List.length_cons, List.length_nil]
    rw [if_neg (by decide)]
  simp [bs1]
  refine all_read F (full ++ [0, 0, 0, 0]) (by simp [hf2]) (hE.extN eF') _ fun G v21 eG sG oG => ?_
  have eG' := eF'.trans eG
  rw [hf3]
  simp
  refine all_read G [30, 2, 0, 0] (by simp) (hE.extN eG') _ fun H v23 eH sH oH => ?_
  have eH' := eG'.trans eH
  rw [all1]
  simp
  refine all_read H [30, 4, 80, 0, 30, 2, 0, 0] (by simp) (hE.extN eH') _ fun I v25 eI sI oI => ?_
  rw [all2]
  simp
  refine z_ok I full hf2 (hE.extN (eH'.trans eI)) a19 c19 _ ?_ ?_ ?_ ?_ ?_ ?_ ?_ ?_ ?_ ?_ <;> simp
end Go.Proofs.YtigknpfjhegkgaaGreatDoor
