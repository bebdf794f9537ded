/- Signals, read. -/
import Derived.Test.YtigknpfjhegkgaaGreatDoorVd
import Derived.KernelRfl
namespace Go.Proofs.YtigknpfjhegkgaaGreatDoor
open Go Go.AS
set_option maxRecDepth 100000
set_option linter.unusedSimpArgs false
set_option linter.unusedVariables false
attribute [local irreducible] Trie.set Trie.get Env.rd
attribute [local simp ↓] wV_b2s
attribute [local simp] Nat.add_assoc wD_cons'' wD_nil' wC_seq wC_ops wC_opsD_nil wC_cond wC_skip wC_ret wC_exit wC_block wO_cons' wO_nil wantedA wV_eq lop qop ev wL_some wL_none wPut envOf rd_set rd_leaf eqA thenC blockC wB_true wB_false endF unwindA resultsA resA tupleA rdCell rdCells wrCells cl fillP lay rep bi_eql bi_neq bi_lss bi_leq bi_gtr bi_geq bi_add bi_sub bs_eql bs_neq bi_shr4 unA get_set' AHeap.get_alloc oneCell beqd bned idxA

def dz : List Value := [.bool false, .bool false, .bool false, .int .u64 0, .bool false, .bool false, .int .u64 0, .int .u32 0, .int .i64 0, .bool false, .int .u16 0]
theorem none_ok (A : AHeap) (Q : Value → AHeap → Prop) (hq : ∀ A', Ext NoB A A' → Q (.agg ⟨dz⟩) A') : wF T (.func (.func 140) #[] #[]) [] A Q := by
  refine wF_func (first := []) (captured := []) t140 ⟨rfl, by decide⟩ ?_
  dsimp only [c140]
  simp
  exact hq _ (by (repeat first | exact Ext.refl | assumption | refine Ext.allocN ?_ | refine Ext.setN ?_ (by first | omega | (simp; done) | (simp; omega))))
/-- A reader: its cursor, and whether numbers are long. -/
theorem rnum_ok (A : AHeap) (q p : Nat) (c : Cur) (l : Bool) (g : A.get q = some (.cells [.pointer (some ⟨p, 0, none⟩), .bool l] false 0)) (hc : CurAt A p c) (Q : Value → AHeap → Prop) (hq : ∀ A', CurAt A' p (c.go (wide l)) → Ext (fun j => j = p) A A' → Q (.int .u64 (val (c.got (wide l)) : Nat)) A') :
    wF T (.func (.func 142) ⟨[.pointer (some ⟨q, 0, none⟩)]⟩ ⟨[]⟩) [] A Q := by
  refine wF_func (first := [.pointer (some ⟨q, 0, none⟩)]) (captured := []) t142 ⟨rfl, by decide⟩ ?_
  dsimp only [c142]
  cases l with
  | true =>
    simp [g]
    refine U64_ok A p c hc _ fun A1 h1 e1 => ?_
    simp
    exact hq A1 h1 e1
  | false =>
    simp [g]
    refine U32_ok A p c hc _ fun A1 h1 e1 => ?_
    have hw : IntKind.u64.wrap ((val (c.got 4) : Nat) : Int) = (val (c.got 4) : Nat) := by
      refine IntWalk.u64_in _ ?_
      have := val_p (c.got 4) 0 4
      have h2 : seg (c.got 4) 0 4 = c.got 4 := List.take_of_length_le (by unfold Cur.got; split <;> simp; omega)
      rw [h2] at this
      omega
    simp [hw]
    exact hq A1 h1 e1
/-- What a signal's body is read as, by cursors. -/
def Ds.fill (b : UInt8) (c : Cur) : Ds × Cur :=
  let ha := decide (b.toNat % 2 = 1)
  let la := ha && decide (b.toNat / 2 % 2 = 1)
  let hm := decide (b.toNat / 4 % 2 = 1)
  let ld := hm && decide (b.toNat / 8 % 2 = 1)
  let c1 := c.on ha (wide la)
  let c2 := c1.on hm (wide ld)
  let c3 := c2.on hm 4
  let c4 := c3.on hm 2
  let hs := hm && decide (c4.left = 2)
  (⟨hm && decide (b.toNat / 16 % 2 = 1), ha, la, c.num ha (wide la), hm, ld, c1.num hm (wide ld), c2.num hm 4, (c3.num hm 2 : Nat), hs, c4.num hs 2⟩, c4.on hs 2)
def Ds.res (x : Ds × Cur) : Except Int Ds := if x.2.end_ = 0 then .ok x.1 else .error x.2.end_
end Go.Proofs.YtigknpfjhegkgaaGreatDoor
