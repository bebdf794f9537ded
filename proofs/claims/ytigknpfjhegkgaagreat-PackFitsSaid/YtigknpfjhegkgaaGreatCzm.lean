/- The four options of the examples. -/
import Derived.Test.YtigknpfjhegkgaaGreatCym
import Derived.KernelRfl
namespace Go.Proofs.YtigknpfjhegkgaaGreat
open Go Go.AS
set_option maxRecDepth 100000
set_option linter.unusedSimpArgs false
set_option linter.unusedVariables false
attribute [local irreducible] Trie.set Trie.get Env.rd
attribute [local simp ↓] wV_b2s
attribute [local simp] Nat.add_assoc wD_cons'' wD_nil' wC_seq wC_ops wC_opsD_nil wC_cond wC_skip wC_ret wC_exit wC_block wO_cons' wO_nil wantedA wV_eq lop qop ev wL_some wL_none wPut envOf rd_set rd_leaf eqA thenC blockC wB_true wB_false endF unwindA resultsA resA tupleA rdCell rdCells wrCells cl fillP lay rep bi_eql bi_neq bi_lss bi_leq bi_gtr bi_geq bi_add bi_sub bs_eql bs_neq bi_shr4 unA get_set' AHeap.get_alloc oneCell beqd bned idxA
attribute [local simp] Op.len Op.one Op.take Op.at0 Op.head? Op.getCap Op.getAd Op.layAll Op.zeroC Op.vb

def ds1 : Ds := { Op.zero.ds with hasAck := true, ack := 5 }
def ds3 : Ds := { Op.zero.ds with hasAck := true, hasMap := true, len := 1, hasSum := true }
def o0 : Op := Op.only 5
def o1 : Op := { Op.only 2 with ds := ds1 }
def o2 : Op := { Op.only 6 with fail := 9 }
def o3 : Op := { Op.only 2 with ds := ds3 }
def some4 : List Op := [o0, o1, o2, o3]
theorem fo0 : fillP Op.zero.cells [(0, 1, .int .i64 5)] = some o0.cells := rfl
theorem fd1 : fillP [.bool false, .bool false, .bool false, .int .u64 0, .bool false, .bool false, .int .u64 0, .int .u32 0, .int .i64 0, .bool false, .int .u16 0] [(1, 1, .bool true), (3, 1, .int .u64 5)] = some ds1.cells := rfl
theorem fo1 : fillP Op.zero.cells [(0, 1, .int .i64 2), (15, 11, .agg ⟨ds1.cells⟩)] = some o1.cells := rfl
theorem ff2 : fillP [.int .u64 0] [(0, 1, .int .u64 9)] = some [.int .u64 9] := rfl
theorem fo2 : fillP Op.zero.cells [(0, 1, .int .i64 6), (34, 1, .agg ⟨[.int .u64 9]⟩)] = some o2.cells := rfl
theorem fd3 : fillP [.bool false, .bool false, .bool false, .int .u64 0, .bool false, .bool false, .int .u64 0, .int .u32 0, .int .i64 0, .bool false, .int .u16 0] [(1, 1, .bool true), (4, 1, .bool true), (8, 1, .int .i64 1), (9, 1, .bool true)] = some ds3.cells := rfl
theorem fo3 : fillP Op.zero.cells [(0, 1, .int .i64 2), (15, 11, .agg ⟨ds3.cells⟩)] = some o3.cells := rfl
theorem fs4 : fillP opZ4 [(0, 38, .agg ⟨o0.cells⟩), (38, 38, .agg ⟨o1.cells⟩), (76, 38, .agg ⟨o2.cells⟩), (114, 38, .agg ⟨o3.cells⟩)] = some (opsC some4) := fill_row some4
theorem s4_len : (opsC some4).length = 152 := rfl
theorem z4_len : opZ4.length = 152 := rfl
theorem s4_lay : AS.lay opZ4 0 (opsC some4) = opsC some4 := rfl
theorem s4_one : (opsC some4).all oneCell = true := rfl
theorem s4_take : (opsC some4).take 152 = opsC some4 := rfl
theorem some_ok (A : AHeap) (Q : Value → AHeap → Prop) (hq : ∀ A', Ext NoB A A' → Q (.agg ⟨opsC some4⟩) A') : wF T (.func (.func 15) #[] #[]) [] A Q := by
  refine wF_func (first := []) (captured := []) t15 ⟨rfl, by decide⟩ ?_
  dsimp only [c15]
  simp [-rep, -fillP, -AS.lay, fo0, fd1, fo1, ff2, fo2, fd3, fo3, fs4, s4_len, z4_len, s4_lay, s4_one, s4_take]
  refine hq _ ?_
  (repeat first | exact Ext.refl | assumption | refine Ext.allocN ?_ | refine Ext.setN ?_ (by first | omega | (simp; done) | (simp; omega)))
end Go.Proofs.YtigknpfjhegkgaaGreat
