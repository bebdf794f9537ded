/- The closed law: its end. -/
import Derived.Test.YtigknpfjhegkgaaGreatDoorWom
import Derived.KernelRfl
namespace Go.Proofs.YtigknpfjhegkgaaGreatDoor
open Go Go.AS
set_option maxRecDepth 100000
set_option linter.unusedSimpArgs false
set_option linter.unusedVariables false
attribute [local irreducible] Trie.set Trie.get Env.rd
attribute [local simp ↓] wV_b2s
attribute [local simp] Nat.add_assoc wD_cons'' wD_nil' wC_seq wC_ops wC_opsD_nil wC_cond wC_skip wC_ret wC_exit wC_block wO_cons' wO_nil wantedA wV_eq lop qop ev wL_some wL_none wPut envOf rd_set rd_leaf eqA thenC blockC wB_true wB_false endF unwindA resultsA resA tupleA rdCell rdCells wrCells cl fillP lay rep bi_eql bi_neq bi_lss bi_leq bi_gtr bi_geq bi_add bi_sub bs_eql bs_neq bi_shr4 unA get_set' AHeap.get_alloc oneCell beqd bned idxA
attribute [local simp] Op.len Op.one Cap.ln Jn.len Ds.ln Ad.len Cap.one Jn.one Ds.one Ad.one Op.take Op.at0 Op.head? Op.getCap Op.tCap Op.getJn Op.getDs Op.getAd Op.getIds Op.getPrio Op.getFail Op.getFast Op.getRst Op.putCap Op.putJn Op.putDs Op.putAd Op.putSub Op.putIds Op.putPrio Op.putFail Op.putFast Op.putRf Op.putRr Op.layAll Op.zeroC Op.vb


theorem z_ok (A : AHeap) (full : List UInt8) (hf : full.length = 40) (hE : EH A) (a19 : Option Addr) (c19 : Nat)
    (env : Env) (r13 : env.rd 13 = .string ⟨⟨full⟩⟩) (r14 : env.rd 14 = .int .i64 0) (r16 : env.rd 16 = .int .i64 6) (r17 : env.rd 17 = .string ⟨⟨[]⟩⟩) (r18 : env.rd 18 = .int .i64 0) (r19 : env.rd 19 = .slice a19 0 c19) (r20 : env.rd 20 = .int .i64 0) (r22 : env.rd 22 = .int .i64 6) (r24 : env.rd 24 = .int .i64 4) (r26 : env.rd 26 = .int .i64 5) :
    wC T 9 none c9z { env := env, n := 231, dfs := [], A := A } (endF [.inl 0] (fun v _ => v = .bool true)) := by
  dsimp only [c9z]
  simp [r13, r14, r16, r17, r18, r19, r20, r22, r24, r26, hf]
  refine works_ok A _ hE ?_
  simp [r13, r14, r16, r17, r18, r19, r20, r22, r24, r26, hf]
theorem full_ok : ∃ l : List UInt8, layO [{ Op.only 4 with ids := zids }] = (⟨⟨l⟩⟩, 0) ∧ l.length = 40 ∧ (allO (l ++ [0, 0, 0, 0])).2 = 6 := ⟨((layO [{ Op.only 4 with ids := zids }]).1).data.toList, by decide +kernel, by decide +kernel, by decide +kernel⟩
theorem row_ok : (layO good).2 = 6 := by decide +kernel
theorem rowNone : layO [] = (⟨⟨[]⟩⟩, 0) := by decide +kernel
theorem all0 : allO [] = ([], 0) := by decide +kernel
theorem all1 : (allO [30, 2, 0, 0]).2 = 4 := by decide +kernel
theorem all2 : (allO [30, 4, 80, 0, 30, 2, 0, 0]).2 = 5 := by decide +kernel
end Go.Proofs.YtigknpfjhegkgaaGreatDoor
