/- Inlets in laws. -/
import Derived.Test.YtidgbapgedegbaaIb
import Derived.KernelRfl
namespace Go.Proofs.Ytidgbapgedegbaa
open Go Go.AS
set_option maxRecDepth 100000
set_option linter.unusedSimpArgs false
set_option linter.unusedVariables false
attribute [local irreducible] Trie.set Trie.get Env.rd
attribute [local simp] Nat.add_assoc wD_cons'' wD_nil' wC_seq wC_ops wC_opsD_nil wC_cond wC_skip wC_ret wC_exit wC_block wO_cons' wO_nil wantedA wV_eq lop qop ev wL_some wL_none wPut envOf rd_set rd_leaf eqA thenC blockC wB_true wB_false endF unwindA resultsA resA tupleA rdCell rdCells wrCells cl fillP lay rep binA unA get_set' AHeap.get_alloc oneCell beqd bned idxA

theorem sl_to (l : List UInt8) (k : IntKind) (j : Nat) (h : j ≤ l.length) : sliceSA (.string ⟨⟨l⟩⟩) none (some (.int k (j : Int))) = some (.string ⟨⟨l.take j⟩⟩) := by
  have hb : bnd (.int k (j : Int)) l.length = some j := bnd_nat k j _ h
  unfold sliceSA; delta bndsA; simp [hb]
theorem sl_from (l : List UInt8) (k : IntKind) (j : Nat) (h : j ≤ l.length) : sliceSA (.string ⟨⟨l⟩⟩) (some (.int k (j : Int))) none = some (.string ⟨⟨l.drop j⟩⟩) := by
  have hb : bnd (.int k (j : Int)) l.length = some j := bnd_nat k j _ h
  unfold sliceSA; delta bndsA; simp [hb]
  rw [List.take_of_length_le (by rw [List.length_drop]; exact Nat.le_refl _)]
theorem sl_mid (l : List UInt8) (k k' : IntKind) (i j : Nat) (hi : i ≤ j) (h : j ≤ l.length) : sliceSA (.string ⟨⟨l⟩⟩) (some (.int k (i : Int))) (some (.int k' (j : Int))) = some (.string ⟨⟨(l.drop i).take (j - i)⟩⟩) := by
  have hb : bnd (.int k' (j : Int)) l.length = some j := bnd_nat k' j _ h
  have hc : bnd (.int k (i : Int)) j = some i := bnd_nat k i _ hi
  unfold sliceSA; delta bndsA; simp [hb, hc]
theorem yes20 (A : AHeap) (Q : Value → AHeap → Prop) (hq : Q (.bool true) A) : wF T (.func (.func 29) #[] #[]) [] A Q := by
  refine wF_func (first := []) (captured := []) t29 ⟨rfl, by decide⟩ ?_
  dsimp only [sayYes]; simp [hq]

def Mp.beq (a b : Mp) : Bool := decide (a.at_ = b.at_) && (decide (a.off = b.off) && (decide (a.len = b.len) && decide (a.sum = b.sum)))
theorem Mp.beq_iff (a b : Mp) : a.beq b = true ↔ a = b := by
  obtain ⟨a1, a2, a3, a4⟩ := a
  obtain ⟨b1, b2, b3, b4⟩ := b
  simp [Mp.beq]

theorem lnext_ok (A : AHeap) (i : Nat) (s : IS) (S : Nat → Prop) (rt : Mp → List UInt8 → Bool) (kind : Int) (m : Mp) (t : List UInt8) (Q : Value → AHeap → Prop) (h : InAt A i s S) (hr : RightOk s rt)
    (hq : ∀ A', Ext NoB A A' → Q (.bool (decide ((nextV s rt).1 = kind) && (((nextV s rt).2.1.beq m) && decide ((nextV s rt).2.2 = t)))) A') :
    wF T (.func (.func 33) #[] #[]) [.pointer (some ⟨i, 0, none⟩), .int .i64 kind, .agg ⟨mpc m⟩, .string ⟨⟨t⟩⟩] A Q := by
  refine wF_func (first := []) (captured := []) t33 ⟨rfl, by decide⟩ ?_
  dsimp only [c33]
  simp [mpc]
  generalize hA1 : A.alloc _ = A1
  obtain ⟨g1, e1, z1⟩ := alloc_facts hA1
  refine inext_ok A1 i s S rt _ (h.extN e1) hr fun A2 e2 => ?_
  generalize nextV s rt = r at *
  obtain ⟨k, x, l⟩ := r
  have g2 := e2.get g1 id
  have l2 := AHeap.get_lt g2
  simp [mpc]
  generalize hA3 : (A2.alloc _).set _ _ = A3
  have e3 : Ext NoB A2 A3 := ⟨by rw [← hA3]; simp, fun j hj _ => by rw [← hA3]; simp [show j ≠ A2.size by omega]⟩
  have g3 := e3.get g2 id
  have f3 : A3.get A2.size = some (.cells (mpc x) false 0) := by rw [← hA3]; simp [mpc]
  have := hq A3 ((e1.trans e2).trans e3)
  by_cases c1 : k = kind
  · by_cases c2 : x.beq m = true
    · simp [c1, f3, g3, mpc, eqL, leafEq] at this ⊢
      have c2' := (Mp.beq_iff x m).1 c2
      subst c2'
      simp [Mp.beq] at this ⊢
      by_cases c3 : l = t
      · simp [c3] at this ⊢; exact this
      · have c3' : (l == t) = false := by simpa using c3
        simp [c3, c3'] at this ⊢; exact this
    · have c2' : x.beq m = false := by simpa using c2
      simp [c1, c2', f3, g3, mpc, eqL, leafEq] at this ⊢
      simp only [Mp.beq] at c2'
      simp [c2', undef]
      exact this
  · simp [c1, undef] at this ⊢
    exact this
end Go.Proofs.Ytidgbapgedegbaa
