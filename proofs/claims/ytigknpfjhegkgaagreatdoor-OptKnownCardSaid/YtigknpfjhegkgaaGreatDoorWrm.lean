/- The closed law: options that may not be. -/
import Derived.Test.YtigknpfjhegkgaaGreatDoorWqm
import Derived.KernelRfl
namespace Go.Proofs.YtigknpfjhegkgaaGreatDoor
open Go Go.AS
set_option maxRecDepth 100000
set_option linter.unusedSimpArgs false
set_option linter.unusedVariables false
attribute [local irreducible] Trie.set Trie.get Env.rd
attribute [local simp ↓] wV_b2s
attribute [local simp] Nat.add_assoc wD_cons'' wD_nil' wC_seq wC_ops wC_opsD_nil wC_cond wC_skip wC_ret wC_exit wC_block wO_cons' wO_nil wantedA wV_eq lop qop ev wL_some wL_none wPut envOf rd_set rd_leaf eqA thenC blockC wB_true wB_false endF unwindA resultsA resA tupleA rdCell rdCells wrCells cl fillP lay rep bi_eql bi_neq bi_lss bi_leq bi_gtr bi_geq bi_add bi_sub bs_eql bs_neq bi_shr4 unA get_set' AHeap.get_alloc oneCell beqd bned idxA
attribute [local simp] Op.len Op.one Cap.ln Jn.len Ds.ln Ad.len Cap.one Jn.one Ds.one Ad.one Op.take Op.at0 Op.head? Op.getCap Op.tCap Op.getJn Op.getDs Op.getAd Op.getIds Op.getPrio Op.getFail Op.getFast Op.getRst Op.putCap Op.putJn Op.putDs Op.putAd Op.putSub Op.putIds Op.putPrio Op.putFail Op.putFast Op.putRf Op.putRr Op.layAll Op.zeroC Op.vb


theorem lay_bad (x y : Op) (h : y.enc = none) : layO [x, y] = (⟨⟨[]⟩⟩, 2) := by
  unfold layO
  rw [if_neg (by simp [h])]
def BdI (A0 : AHeap) (v2 v7 : Value) (m : Nat) (st : St) : Prop := ∃ i : Nat, i ≤ 8 ∧ m = 8 - i ∧ st.n = 231 ∧ st.dfs = [] ∧ (st.env.rd 1 = .string ⟨⟨zids⟩⟩ ∧ st.env.rd 2 = v2 ∧ st.env.rd 7 = v7 ∧ st.env.rd 8 = .int .i64 (i : Nat)) ∧ Ext NoB A0 st.A
theorem m_ok (A0 A : AHeap) (v2 v7 : Value) (hE : EH A0) (ex : Ext NoB A0 A) (h2 : ReadAt A 38 v2 good.length (opsC good)) (h7 : ReadAt A 38 v7 bads.length (opsC bads))
    (env : Env) (r1 : env.rd 1 = .string ⟨⟨zids⟩⟩) (r2 : env.rd 2 = v2) (r7 : env.rd 7 = v7) :
    wC T 9 none c9m { env := env, n := 231, dfs := [], A := A } (thenC (fun st => wC T 9 none c9q st (endF [.inl 0] (fun v _ => v = .bool true))) (endF [.inl 0] (fun v _ => v = .bool true))) := by
  dsimp only [c9m]
  simp
  refine wC_loop_inv (BdI A v2 v7) ?_ 8 _ ⟨0, by omega, rfl, rfl, rfl, ⟨by simp [r1], by simp [r2], by simp [r7], by simp⟩, Ext.refl⟩
  rintro m ⟨env, nn, dfs, B⟩ ⟨i, hi8, rfl, k1, k2, ⟨r1, r2, r7, r8⟩, eB⟩
  simp only at k1 k2 r1 r2 r7 r8 eB
  subst k1; subst k2
  have h2B := h2.ext eB fun _ _ q => q
  have h7B := h7.ext eB fun _ _ q => q
  by_cases hi : i < 8
  case neg =>
    have hii : ¬ (i : Int) < 8 := by omega
    obtain ⟨a7, c7, e7⟩ := h7.val
    have hbl : bads.length = 8 := rfl
    rw [e7, hbl] at r7
    simp [r7, r8, hii]
    exact q_ok A0 B v2 hE (ex.trans eB) h2B _ (by simp [r1]) (by simp [r2])
  have hib : i < bads.length := hi
  have hxw := bads_w bads[i] (List.getElem_mem hib)
  have hxe := bads_enc bads[i] (List.getElem_mem hib)
  obtain ⟨d7, p7, cc7, bs7, ro7, opn7, q1, q2, q3, q4⟩ := h7B.elem2 hib
  obtain ⟨d2, p2, cc2, bs2, ro2, opn2, s1, s2, s3, s4⟩ := h2B.elem2 (show 0 < good.length by decide)
  rw [opsC_at bads i hib] at q4
  rw [opsC_at good 0 (by decide)] at s4
  generalize bads[i] = x at q4 hxw hxe
  have hgw := good_w good[0] (List.getElem_mem (by decide))
  generalize good[0]'(by decide) = g at s4 hgw
  rw [Nat.add_assoc] at q3
  have hbl : bads.length = 8 := rfl
  have hgl : good.length = 9 := rfl
  rw [hbl] at q1
  rw [hgl] at s1
  simp only [Nat.zero_mul, Nat.add_zero, Nat.zero_add] at s3 s4
  subst q1; subst s1
  have hii : (i : Int) < 8 := by omega
  have w1 : IntKind.i64.wrap ((i : Int) + 1) = ((i + 1 : Nat) : Int) := IntWalk.i64_in _ (by omega)
  simp [r2, r7, r8, hi, hii, q2, q3, q4]
  refine encode_ok B x hxw _ fun C eC => ?_
  rw [hxe]
  have ld7 := AHeap.get_lt q2
  have ld2 := AHeap.get_lt s2
  have zC := eC.size
  have q2C := eC.get q2 id
  have s2C := eC.get s2 id
  have hfill : fillP (rep 2 Op.zero.cells) [(0, 38, .agg ⟨g.cells⟩), (38, 38, .agg ⟨x.cells⟩)] = some (opsC [g, x]) := fill_row [g, x]
  simp [-rep, -fillP, resI, itemV, r2, r7, r8, hi, hii, q2C, s2C, q3, q4, s3, s4, hfill, show ¬ d7 = C.size by omega, show ¬ d2 = C.size by omega]
  generalize hG : AHeap.set _ _ _ = G
  have eG : Ext NoB B G := by subst hG; (repeat first | exact Ext.refl | assumption | refine Ext.allocN ?_ | refine Ext.setN ?_ (by first | omega | (simp; done) | (simp; omega)))
  have zG : G.size = C.size + 1 := by subst hG; rfl
  rw [← zG]
  have hwr : ∀ y ∈ [g, x], y.W := by
    intro y hy
    simp only [List.mem_cons, List.not_mem_nil, or_false] at hy
    rcases hy with rfl | rfl
    · exact hgw
    · exact hxw
  refine laying_ok [g, x] _ _ _ (.inr (.inl ⟨G.size, 0, 2, _, false, 0, rfl, by rw [AHeap.get_alloc, if_pos rfl], by simp [opsC_len], by rw [List.drop_zero, List.take_of_length_le (by simp [opsC_len])], fun q => by cases q⟩)) hwr (by simp) fun D eD => ?_
  have eBD : Ext NoB B D := (eG.trans Ext.alloc).trans eD
  rw [lay_bad g x hxe]
  have q2D := eBD.get q2 id
  simp [r2, r7, r8, hi, hii, q2D, q3, q4]
  refine may_ok D x hxw _ fun F eF => ?_
  rw [hxe]
  simp [r8, w1]
  exact ⟨8 - (i + 1), by omega, i + 1, by omega, rfl, rfl, rfl, ⟨by simp [r1], by simp [r2], by simp [r7], by simp⟩, (eB.trans eBD).trans eF⟩
end Go.Proofs.YtigknpfjhegkgaaGreatDoor
