/- Options with short texts. -/
import Derived.Test.YtigknpfjhegkgaaGreatDoorDbm
import Derived.Test.YtigknpfjhegkgaaGreatDoorEk
import Derived.KernelRfl
namespace Go.Proofs.YtigknpfjhegkgaaGreatDoor
open Go Go.AS
set_option maxRecDepth 100000
set_option linter.unusedSimpArgs false
set_option linter.unusedVariables false
attribute [local irreducible] Trie.set Trie.get Env.rd
attribute [local simp ↓] wV_b2s
attribute [local simp] Nat.add_assoc wD_cons'' wD_nil' wC_seq wC_ops wC_opsD_nil wC_cond wC_skip wC_ret wC_exit wC_block wO_cons' wO_nil wantedA wV_eq lop qop ev wL_some wL_none wPut envOf rd_set rd_leaf eqA thenC blockC wB_true wB_false endF unwindA resultsA resA tupleA rdCell rdCells wrCells cl fillP lay rep binA unA get_set' AHeap.get_alloc oneCell beqd bned idxA
attribute [local simp] Op.len Op.one Cap.ln Jn.len Ds.ln Ad.len Cap.one Jn.one Ds.one Ad.one Op.take Op.at0 Op.head? Op.getCap Op.tCap Op.getJn Op.getDs Op.getAd Op.getIds Op.getPrio Op.getFail Op.getFast Op.getRst Op.putCap Op.putJn Op.putDs Op.putAd Op.putSub Op.putIds Op.putPrio Op.putFail Op.putFast Op.putRf Op.putRr Op.layAll Op.zeroC Op.vb

def short60 (l : List UInt8) : List UInt8 := l.take (min l.length 60)
theorem short60_len (l : List UInt8) : (short60 l).length ≤ 60 := by simp [short60]; omega
def Op.short (x : Op) : Op := { x with jn := { x.jn with mac := short60 x.jn.mac }, ad := { x.ad with ip := short60 x.ad.ip, mac := short60 x.ad.mac }, ids := short60 x.ids }
/-- What any option's numbers are. -/
structure Op.W0 (x : Op) : Prop where
  cap : x.cap.W
  token : x.jn.token < 256 ^ 4
  nonce : x.jn.nonce < 256 ^ 4
  ds : x.ds.W
  fail : x.fail < 256 ^ 8
  fast : x.fast < 256 ^ 8
theorem Op.W0.short {x : Op} (h : x.W0) : x.short.W where
  cap := h.cap
  jn := ⟨h.token, h.nonce, Nat.lt_of_le_of_lt (short60_len _) (by decide)⟩
  ds := h.ds
  ad := ⟨Nat.lt_of_le_of_lt (short60_len _) (by decide), Nat.lt_of_le_of_lt (short60_len _) (by decide)⟩
  ids := Nat.lt_of_le_of_lt (short60_len _) (by decide)
  fail := h.fail
  fast := h.fast
theorem min60 (l : List UInt8) : foldV minV (.int .i64 ((l.length : Nat) : Int)) [.int .i64 60] = some (.int .i64 ((min l.length 60 : Nat) : Int)) := by
  simp only [foldV, minV]
  by_cases h : (60 : Int) < (l.length : Int)
  · rw [if_pos h, Nat.min_eq_right (by omega)]; rfl
  · rw [if_neg h, Nat.min_eq_left (by omega)]
theorem Op.e14 (x : Op) (h : 14 < x.cells.length) : x.cells[14]'h = .string ⟨⟨x.jn.mac⟩⟩ := rfl
theorem Op.e28 (x : Op) (h : 28 < x.cells.length) : x.cells[28]'h = .string ⟨⟨x.ad.ip⟩⟩ := rfl
theorem Op.e31 (x : Op) (h : 31 < x.cells.length) : x.cells[31]'h = .string ⟨⟨x.ad.mac⟩⟩ := rfl
theorem Op.e32 (x : Op) (h : 32 < x.cells.length) : x.cells[32]'h = .string ⟨⟨x.ids⟩⟩ := rfl
theorem Op.p14 (x : Op) (l : List UInt8) : x.cells.set 14 (.string ⟨⟨l⟩⟩) = ({ x with jn := { x.jn with mac := l } } : Op).cells := rfl
theorem Op.p28 (x : Op) (l : List UInt8) : x.cells.set 28 (.string ⟨⟨l⟩⟩) = ({ x with ad := { x.ad with ip := l } } : Op).cells := rfl
theorem Op.p31 (x : Op) (l : List UInt8) : x.cells.set 31 (.string ⟨⟨l⟩⟩) = ({ x with ad := { x.ad with mac := l } } : Op).cells := rfl
theorem Op.f14 (x : Op) : x.cells[14]? = some (.string ⟨⟨x.jn.mac⟩⟩) := rfl
theorem Op.f28 (x : Op) : x.cells[28]? = some (.string ⟨⟨x.ad.ip⟩⟩) := rfl
theorem Op.f31 (x : Op) : x.cells[31]? = some (.string ⟨⟨x.ad.mac⟩⟩) := rfl
theorem Op.f32 (x : Op) : x.cells[32]? = some (.string ⟨⟨x.ids⟩⟩) := rfl
attribute [local simp] Op.f14 Op.f28 Op.f31 Op.f32 Op.e14 Op.e28 Op.e31 Op.e32 Op.p14 Op.p28 Op.p31
theorem short_ok (A : AHeap) (x : Op) (Q : Value → AHeap → Prop) (hq : ∀ A', Ext NoB A A' → Q (.agg ⟨x.short.cells⟩) A') : wF T (.func (.func 15) #[] #[]) [.agg ⟨x.cells⟩] A Q := by
  refine wF_func (first := []) (captured := []) t15 ⟨rfl, by decide⟩ ?_
  dsimp only [c15]
  have m1 := min60 x.jn.mac
  have m2 := min60 x.ad.ip
  have m3 := min60 x.ad.mac
  have m4 := min60 x.ids
  have s : ∀ l : List UInt8, sliceSA (.string ⟨⟨l⟩⟩) none (some (.int .i64 ((min l.length 60 : Nat) : Int))) = some (.string ⟨⟨short60 l⟩⟩) := fun l => sl_to l .i64 _ (Nat.min_le_left _ _)
  have s1 := s x.jn.mac
  have s2 := s x.ad.ip
  have s3 := s x.ad.mac
  have s4 := s x.ids
  generalize min x.jn.mac.length 60 = k1 at m1 s1
  generalize min x.ad.ip.length 60 = k2 at m2 s2
  generalize min x.ad.mac.length 60 = k3 at m3 s3
  generalize min x.ids.length 60 = k4 at m4 s4
  simp [m1, m2, m3, m4, s1, s2, s3, s4]
  exact hq _ (by (repeat first | exact Ext.refl | assumption | refine Ext.allocN ?_ | refine Ext.setN ?_ (by first | omega | (simp; done) | (simp; omega))))
end Go.Proofs.YtigknpfjhegkgaaGreatDoor
