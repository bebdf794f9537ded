/- The contract of Pick of stage 25. -/
import Derived.Test.YtbhhmnokddkhmaaSe
import Derived.KernelRfl
namespace Go.Proofs.Ytbhhmnokddkhmaa
open Go Go.AS
set_option maxRecDepth 100000
set_option linter.unusedSimpArgs false
set_option linter.unusedVariables false
attribute [local irreducible] Trie.set Trie.get Env.rd
attribute [local simp] Nat.add_assoc wD_cons'' wD_nil' wC_seq wC_ops wC_opsD_nil wC_cond wC_skip wC_ret wC_exit wC_block wO_cons' wO_nil wantedA wV_eq lop qop ev wL_some wL_none wPut envOf rd_set rd_leaf eqA thenC blockC wB_true wB_false endF unwindA resultsA resA tupleA rdCell rdCells wrCells cl fillP lay rep binA unA get_set' AHeap.get_alloc oneCell

def first (limit : Int) (ls : List La) : Bool := ls.any fun x => x.up && !x.backup && decide (x.flight < limit)
def may (limit : Int) (ls : List La) (x : La) : Bool := x.up && decide (x.flight < limit) && !(first limit ls && x.backup)
def pickR (limit : Int) (ls : List La) : Int := match least (ls.filter (may limit ls)) with | none => -1 | some x => x.path

theorem pick_ok (ls : List La) (limit : Int) (lv : Value) (A : AHeap) (Q : Value → AHeap → Prop) (h : ReadAt A 4 lv ls.length (lcells ls)) (ho : ∀ j, Own lv j → j < A.size) (hn : ls.length ≤ 1000)
    (hq : ∀ A', Ext NoB A A' → Q (.int .i64 (pickR limit ls)) A') : wF T (.func (.func 7) #[] #[]) [lv, .int .i64 limit] A Q := by
  obtain ⟨a1, c1, rfl⟩ := h.val
  refine wF_func (first := []) (captured := []) t7 ⟨rfl, by decide⟩ ?_
  dsimp only [c7]; simp
  have e0 : Ext NoB A (A.alloc (.cells [.int .i64 limit] false 0)) := Ext.alloc
  have gb : (A.alloc (.cells [.int .i64 limit] false 0)).get A.size = some (.cells [.int .i64 limit] false 0) := by simp
  refine contains_ok ls _ _ (fun x => x.up && !x.backup && decide (x.flight < limit)) _ _ (h.ext e0 fun _ _ q => q) hn (fun A' x Q' e k => pick1_ok x A.size limit A' Q' (e.get gb fun q => q) k) fun A1 e1 => ?_
  have gb1 := e1.get gb fun q => q
  have z1 := AHeap.get_lt gb1
  rw [show ls.any (fun x => x.up && !x.backup && decide (x.flight < limit)) = first limit ls from rfl]
  simp
  generalize hH : AHeap.set (AHeap.alloc A1 _) A1.size _ = H
  have zH : H.size = A1.size + 1 := by rw [← hH]; rfl
  have eH : Ext NoB A1 H := ⟨by omega, fun j hj _ => by rw [← hH]; simp [show j ≠ A1.size by omega]⟩
  have gf : H.get A1.size = some (.cells [.bool (first limit ls)] false 0) := by rw [← hH]; simp
  have gbH := eH.get gb1 fun q => q
  have hH1 := ((h.ext e0 fun _ _ q => q).ext e1 fun _ _ q => q).ext eH fun _ _ q => q
  refine those_ok _ _ _ _ _ H _ ?_
  simp
  have e2 : Ext NoB H ((H.alloc (.cells [.slice a1 ls.length c1] false 0)).alloc (.cells [.func (.func 14) ⟨[]⟩ ⟨[.pointer (some ⟨A.size, 0, none⟩), .pointer (some ⟨A1.size, 0, none⟩)]⟩] false 0)) := Ext.alloc.trans Ext.alloc
  have gb2 := e2.get gbH fun q => q
  have gf2 := e2.get gf fun q => q
  have h2 := hH1.ext e2 fun _ _ q => q
  have eT : Ext NoB A ((H.alloc (.cells [.slice a1 ls.length c1] false 0)).alloc (.cells [.func (.func 14) ⟨[]⟩ ⟨[.pointer (some ⟨A.size, 0, none⟩), .pointer (some ⟨A1.size, 0, none⟩)]⟩] false 0)) := ((e0.trans e1).trans eH).trans e2
  have hP : pickR limit ls = match least (ls.filter (may limit ls)) with | none => -1 | some x => x.path := rfl
  refine best_ok H.size (H.size + 1) ls (.slice a1 ls.length c1) (.func (.func 14) ⟨[]⟩ ⟨[.pointer (some ⟨A.size, 0, none⟩), .pointer (some ⟨A1.size, 0, none⟩)]⟩) (may limit ls) _ _ (by simp) (by simp) h2 (fun j hj => Nat.lt_of_lt_of_le (ho j hj) eT.size) hn ?_ (fun hb A' e => ?_) (fun x hb A' e => ?_)
  · intro A' x Q' e k
    have z2 : A.size < H.size := by omega
    refine pick2_ok x A.size A1.size limit (first limit ls) A' Q' (e.get gb2 ?_) (e.get gf2 ?_) k
    · simp; omega
    · simp; omega
  · rw [hb] at hP
    rw [hP] at hq
    simp [z4]
    exact hq _ ((eT.trans e).trans ⟨by simp, fun j hj _ => by simp [show j ≠ A'.size by omega]⟩)
  · rw [hb] at hP
    rw [hP] at hq
    simp [La.cells]
    exact hq _ ((eT.trans e).trans ⟨by simp, fun j hj _ => by simp [show j ≠ A'.size by omega]⟩)
end Go.Proofs.Ytbhhmnokddkhmaa
