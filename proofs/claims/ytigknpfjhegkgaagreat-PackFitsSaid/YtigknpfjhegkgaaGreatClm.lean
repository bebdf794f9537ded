/- What an option takes. -/
import Derived.Test.YtigknpfjhegkgaaGreatNc
import Derived.Test.YtigknpfjhegkgaaGreatRf
import Derived.KernelRfl
namespace Go.Proofs.YtigknpfjhegkgaaGreat
open Go Go.AS
set_option maxRecDepth 100000
set_option linter.unusedSimpArgs false
set_option linter.unusedVariables false
attribute [local irreducible] Trie.set Trie.get Env.rd
attribute [local simp ↓] wV_b2s
attribute [local simp] Nat.add_assoc wD_cons'' wD_nil' wC_seq wC_ops wC_opsD_nil wC_cond wC_skip wC_ret wC_exit wC_block wO_cons' wO_nil wantedA wV_eq lop qop ev wL_some wL_none wPut envOf rd_set rd_leaf eqA thenC blockC wB_true wB_false endF unwindA resultsA resA tupleA rdCell rdCells wrCells cl fillP lay rep bi_eql bi_neq bi_lss bi_leq bi_gtr bi_geq bi_add bi_sub bs_eql bs_neq bi_shr4 unA get_set' AHeap.get_alloc oneCell beqd bned idxA

attribute [local simp] Op.len Op.one Op.take Op.at0 Op.head? Op.getCap Op.getAd Op.layAll Op.zeroC Op.vb

theorem sorts_ok (r : Nat → Int) (A : AHeap) (d o c : Nat) (L : List Nat) (cv : Value) (hr : RowAt A d o L) (hc : Cmp r cv d A) (hL : L.Pairwise (· < ·)) (hn : L.length ≤ 30) (hv : ∀ y ∈ L, Vd r y) (Q : Value → AHeap → Prop) (hq : ∀ A' L', Ext (Only d) A A' → IsOrd r L L' → RowAt A' d o L' → Q (.tuple ⟨[]⟩) A') :
    wF T (.func (.func 30) #[] #[]) [.slice (some ⟨d, o, none⟩) L.length c, cv] A Q := by
  refine wF_func (first := []) (captured := []) t30 ⟨rfl, by decide⟩ ?_
  dsimp only [c30]
  simp
  refine stable_ok r A d o c L cv hr hc hL hn hv _ fun A' L' e1 o1 k1 => ?_
  simp
  exact hq A' L' e1 o1 k1
/-- How many bytes an option takes. -/
def takes (x : Op) : Nat := match x.enc with
  | some l => 2 + l.length
  | none => 0
theorem size_ok (A : AHeap) (x : Op) (hw : x.W) (Q : Value → AHeap → Prop) (hb : ∀ l, x.enc = some l → l.length < 1000000) (hq : ∀ A', Ext NoB A A' → Q (.int .i64 (takes x : Nat)) A') : wF T (.func (.func 7) #[] #[]) [.agg ⟨x.cells⟩] A Q := by
  refine wF_func (first := []) (captured := []) t7 ⟨rfl, by decide⟩ ?_
  dsimp only [c7]
  simp
  refine encode_ok _ x hw _ fun B e1 => ?_
  have e0 : Ext NoB A B := Ext.trans (by (repeat first | exact Ext.refl | assumption | refine Ext.allocN ?_ | refine Ext.setN ?_ (by first | omega | (simp; done) | (simp; omega)))) e1
  have hz := e0.size
  unfold takes at hq
  cases he : x.enc with
  | none =>
    rw [he] at hq
    simp [resI, itemV]
    refine hq _ ?_
    (repeat first | exact Ext.refl | assumption | refine Ext.allocN ?_ | refine Ext.setN ?_ (by first | omega | (simp; done) | (simp; omega)))
  | some l =>
    rw [he] at hq
    have hbl := hb l he
    have w : IntKind.i64.wrap (2 + (l.length : Int)) = 2 + (l.length : Int) := IntWalk.i64_in _ (by omega)
    simp [resI, itemV, w]
    have hq' := hq
    simp only [Int.natCast_add] at hq'
    refine hq' _ ?_
    (repeat first | exact Ext.refl | assumption | refine Ext.allocN ?_ | refine Ext.setN ?_ (by first | omega | (simp; done) | (simp; omega)))
theorem rsize_ok (A : AHeap) (x : Op) (hw : x.W) (Q : Value → AHeap → Prop) (hb : ∀ l, x.enc = some l → l.length < 1000000) (hq : ∀ A', Ext NoB A A' → Q (.int .i64 (takes x : Nat)) A') : wF T (.func (.func 8) #[] #[]) [.agg ⟨x.cells⟩] A Q := by
  refine wF_func (first := []) (captured := []) t8 ⟨rfl, by decide⟩ ?_
  dsimp only [c8]
  simp
  refine rencode_ok _ x hw _ fun B e1 => ?_
  have e0 : Ext NoB A B := Ext.trans (by (repeat first | exact Ext.refl | assumption | refine Ext.allocN ?_ | refine Ext.setN ?_ (by first | omega | (simp; done) | (simp; omega)))) e1
  have hz := e0.size
  unfold takes at hq
  cases he : x.enc with
  | none =>
    rw [he] at hq
    simp [resI, itemV]
    refine hq _ ?_
    (repeat first | exact Ext.refl | assumption | refine Ext.allocN ?_ | refine Ext.setN ?_ (by first | omega | (simp; done) | (simp; omega)))
  | some l =>
    rw [he] at hq
    have hbl := hb l he
    have w : IntKind.i64.wrap (2 + (l.length : Int)) = 2 + (l.length : Int) := IntWalk.i64_in _ (by omega)
    simp [resI, itemV, w]
    have hq' := hq
    simp only [Int.natCast_add] at hq'
    refine hq' _ ?_
    (repeat first | exact Ext.refl | assumption | refine Ext.allocN ?_ | refine Ext.setN ?_ (by first | omega | (simp; done) | (simp; omega)))
end Go.Proofs.YtigknpfjhegkgaaGreat
