/- A hole: put, whole. -/
import Derived.Test.YtidgbapgedegbaaHd
import Derived.KernelRfl
namespace Go.Proofs.Ytidgbapgedegbaa
open Go Go.AS
set_option maxRecDepth 100000
set_option linter.unusedSimpArgs false
set_option linter.unusedVariables false
attribute [local irreducible] Trie.set Trie.get Env.rd
attribute [local simp] Nat.add_assoc wD_cons'' wD_nil' wC_seq wC_ops wC_opsD_nil wC_cond wC_skip wC_ret wC_exit wC_block wO_cons' wO_nil wantedA wV_eq lop qop ev wL_some wL_none wPut envOf rd_set rd_leaf eqA thenC blockC wB_true wB_false endF unwindA resultsA resA tupleA rdCell rdCells wrCells cl fillP lay rep binA unA get_set' AHeap.get_alloc oneCell beqd bned idxA

theorem put_ok (A : AHeap) (p mb room base : Nat) (f : Bytes) (Q : Value → AHeap → Prop) (off : Int) (t : List UInt8) (ht : t.length < 1000000) (ho : -9223372036854775808 ≤ off ∧ off < 9223372036854775808) (h : HoleAt A p mb room base f)
    (hq : ∀ A', HoleAt A' p mb room base (putB room base off t f) → Ext (fun j => j = mb) A A' → Q (.int .i64 ((cntB room base f off t : Nat) : Int)) A') :
    wF T (.func (.func 84) #[] #[]) [.pointer (some ⟨p, 0, none⟩), .int .i64 off, .string ⟨⟨t⟩⟩] A Q := by
  refine wF_func (first := []) (captured := []) t84 ⟨rfl, by decide⟩ ?_
  dsimp only [c84]
  simp
  obtain ⟨lp, lmb⟩ := h.lt
  refine wF_func (first := []) (captured := []) t124 ⟨rfl, by decide⟩ ?_
  dsimp only [c124]
  simp
  generalize hA1 : (((((A.alloc _).alloc _).alloc _).alloc _).alloc _) = A1
  have e1 : Ext NoB A A1 := ⟨by rw [← hA1]; simp, fun j hj _ => by rw [← hA1]; simp [show j ≠ A.size by omega, show j ≠ A.size + 1 by omega, show j ≠ A.size + 2 by omega, show j ≠ A.size + 3 by omega, show j ≠ A.size + 4 by omega]⟩
  have z1 : A1.size = A.size + 5 := by rw [← hA1]; rfl
  have g0 : A1.get A.size = some (.cells [.pointer (some ⟨p, 0, none⟩)] false 0) := by rw [← hA1]; simp
  have g1 : A1.get (A.size + 1) = some (.cells [.int .i64 ((0 : Nat) : Int)] false 0) := by rw [← hA1]; simp
  have g2 : A1.get (A.size + 2) = some (.cells [.pointer (some ⟨p, 0, none⟩)] false 0) := by rw [← hA1]; simp
  have g3 : A1.get (A.size + 3) = some (.cells [.int .i64 off] false 0) := by rw [← hA1]; simp
  have g4 : A1.get (A.size + 4) = some (.cells [.string ⟨⟨t⟩⟩] false 0) := by rw [← hA1]; simp
  clear hA1
  refine wC_range ?_
  dsimp only
  generalize hL : ABlk.loop _ _ _ _ _ _ _ _ _ = L
  generalize hA2 : AHeap.alloc (AHeap.alloc A1 _) L = A2
  have e2 : Ext NoB A1 A2 := ⟨by rw [← hA2]; simp, fun j hj _ => by rw [← hA2]; simp [show j ≠ A1.size by omega, show j ≠ A1.size + 1 by omega]⟩
  have z2 : A2.size = A1.size + 2 := by rw [← hA2]; rfl
  have gl := get_alloc_top (A := AHeap.alloc A1 (.dfr false)) (x := L) (l := A1.size + 1) (by simp)
  rw [hA2, ← hL] at gl
  have gd : A2.get A1.size = some (.dfr false) := by rw [← hA2]; simp
  clear hA2 hL
  have hh := (h.ext e1 id id).ext e2 id id
  simp
  refine putiter_ok (A1.size + 1) A.size (A.size + 1) p mb room base A1.size 0 (A.size + 2) (A.size + 3) (A.size + 4) _ f off t A2 _ gl (by simp) (by simp) (e2.get g0 id) (e2.get g1 id) (by decide) ht ho hh ⟨by omega, by omega, by omega, by omega, by omega, by omega, by omega, by omega⟩
    (e2.get g2 id) (e2.get g3 id) (e2.get g4 id) (fun j hj => by omega) fun A3 w e' l3 q3 h3 x3 => ?_
  have gd3 := x3.get gd (by omega)
  have b3 := AHeap.get_lt l3
  have bd3 := AHeap.get_lt gd3
  have bq3 := AHeap.get_lt q3
  simp [endR, l3]
  refine ⟨_, rfl, ?_⟩
  simp [q3, b3, show A.size ≠ A1.size by omega, show A.size + 1 ≠ A1.size by omega, bq3, show A1.size ≠ A.size by omega, show A1.size ≠ A1.size + 1 by omega, show A1.size ≠ A.size + 1 by omega, gd3, bd3]
  refine hq _ ⟨?_, ?_, h.ne, h3.dom, h.room1, h.room2, h.big⟩ ⟨?_, fun j hj hn => ?_⟩
  · have := h3.cell
    simp [show p ≠ A1.size by omega, show p ≠ A.size + 1 by omega, show p ≠ A1.size + 1 by omega, this]
  · have e5 : Ext (fun j => j = A1.size ∨ j = A.size + 1 ∨ j = A1.size + 1) A3 (((A3.set (A1.size + 1) (.loop .exhausted none 84 30 e' [15, 16] c84a (.block 1 c84b) A1.size)).set (A.size + 1) (.cells [.int .i64 (cntB room base f off t : Nat)] false 0)).set A1.size (.dfr true)) :=
      ((Ext.set (.inr (.inr rfl))).trans (Ext.set (.inr (.inl rfl)))).trans (Ext.set (.inl rfl))
    exact h3.map.ext e5 (by omega)
  · have := x3.size; simp only [AHeap.size_set]; omega
  · have := (e1.trans e2).keep j hj id
    simp only [get_set', if_neg (show j ≠ A1.size by omega), if_neg (show j ≠ A.size + 1 by omega), if_neg (show j ≠ A1.size + 1 by omega)]
    rw [x3.keep j (by omega) (by omega), this]
end Go.Proofs.Ytidgbapgedegbaa
