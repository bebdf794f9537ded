/- A hole: texts. -/
import Derived.Test.YtidgbapgedegbaaHa
import Derived.KernelRfl
namespace Go.Proofs.Ytidgbapgedegbaa
open Go Go.AS
set_option maxRecDepth 100000
set_option linter.unusedSimpArgs false
set_option linter.unusedVariables false
attribute [local irreducible] Trie.set Trie.get Env.rd
attribute [local simp] Nat.add_assoc wD_cons'' wD_nil' wC_seq wC_ops wC_opsD_nil wC_cond wC_skip wC_ret wC_exit wC_block wO_cons' wO_nil wantedA wV_eq lop qop ev wL_some wL_none wPut envOf rd_set rd_leaf eqA thenC blockC wB_true wB_false endF unwindA resultsA resA tupleA rdCell rdCells wrCells cl fillP lay rep binA unA get_set' AHeap.get_alloc oneCell beqd bned idxA

attribute [local simp ↓] wV_b2s
/-- Bytes that are there, from a number on. -/
def Pre (f : Bytes) (off : Int) (l : List UInt8) : Prop := ∀ (i : Nat) (h : i < l.length), f (off + i) = some l[i]

def FitsH (room base : Nat) (off n : Int) : Prop := 0 ≤ off ∧ 0 ≤ n ∧ off ≤ base + room ∧ n ≤ base + room - off ∧ (base : Int) ≤ off

def TI (p b n : Nat) (off : Int) (f : Bytes) (A : AHeap) (k : Nat) (st : St) : Prop := ∃ l : List UInt8, l.length + k = n ∧ Pre f off l ∧ st.n = 52 ∧ st.dfs = [] ∧ st.env.rd 0 = .pointer (some ⟨p, 0, none⟩) ∧ st.env.rd 1 = .int .i64 off ∧ st.env.rd 2 = .int .i64 (n : Nat) ∧ st.env.rd 8 = .slice (some ⟨b, 0, none⟩) l.length n ∧ st.env.rd 9 = .int .i64 (off + (l.length : Nat)) ∧
  st.A.get b = some (.cells (bcells l ++ List.replicate k (.int .u8 0)) false 0) ∧ Ext NoB A st.A ∧ A.size ≤ b

theorem text_ok (A : AHeap) (p mb room base : Nat) (f : Bytes) (Q : Value → AHeap → Prop) (off n : Int) (hr : off < 9223372036854775808) (h : HoleAt A p mb room base f)
    (hq1 : ∀ A' l, FitsH room base off n → (l.length : Int) = n → Pre f off l → Ext NoB A A' → Q (.tuple ⟨[.string ⟨⟨l⟩⟩, .bool true]⟩) A')
    (hq2 : ∀ A', ¬ (FitsH room base off n ∧ ∀ i : Nat, (i : Int) < n → (f (off + i)).isSome = true) → Ext NoB A A' → Q (.tuple ⟨[.string ⟨⟨[]⟩⟩, .bool false]⟩) A') :
    wF T (.func (.func 86) #[] #[]) [.pointer (some ⟨p, 0, none⟩), .int .i64 off, .int .i64 n] A Q := by
  refine wF_func (first := []) (captured := []) t86 ⟨rfl, by decide⟩ ?_
  dsimp only [c86]
  have hb := h.big; have r2 := h.room2
  simp
  refine fits_ok A p mb room base f _ off n hr h ?_
  by_cases g1 : 0 ≤ off ∧ 0 ≤ n ∧ off ≤ base + room ∧ n ≤ base + room - off
  · by_cases g2 : off < (base : Int)
    · simp [g1, g2, h.cell]
      refine hq2 A (fun q => ?_) Ext.refl
      have := q.1.2.2.2.2; omega
    · obtain ⟨m, rfl⟩ : ∃ m : Nat, n = (m : Int) := ⟨n.toNat, by omega⟩
      have g3 : (m : Int) ≤ 4294967296 := by omega
      simp [g1, g2, h.cell, g3]
      generalize hA1 : AHeap.alloc A _ = A1
      have hrep : ∀ k, rep k [Value.int .u8 0] = List.replicate k (.int .u8 0) := by
        intro k; induction k with
        | zero => rfl
        | succ k ih => show [Value.int .u8 0] ++ rep k [Value.int .u8 0] = _; rw [ih]; rfl
      obtain ⟨gb, e1, z1⟩ := alloc_facts hA1
      rw [hrep] at gb
      refine wC_loop_inv (TI p A.size m off f A) ?_ m _ ⟨[], by simp, (fun i hi => by simp at hi), rfl, rfl, by simp, by simp, by simp, by simp, by simp, by simpa [bcells] using gb, e1, Nat.le_refl _⟩
      clear gb z1 e1 hA1
      rintro k ⟨env, nn, dfs, A2⟩ ⟨l, k0, kp, k1, k2, r0, r1, r2', r8, r9, gb, ex, _⟩
      simp only at k1 k2 r0 r1 r2' r8 r9 gb ex
      subst k1; subst k2
      have w1 : IntKind.i64.wrap (off + (m : Int)) = off + (m : Int) := IntWalk.i64_in _ (by omega)
      have h2 := h.ext ex id id
      by_cases hk : k = 0
      · subst hk
        have hl : l.length = m := by omega
        have hbs : b2s A2 (.slice (some ⟨A.size, 0, none⟩) m m) = some (.string ⟨⟨l⟩⟩) := by
          rw [← hl]
          refine b2s_ok (.inr (.inl ⟨A.size, 0, _, _, false, 0, rfl, gb, by simp [bcells], by rw [List.drop_zero, List.take_of_length_le (by simp [bcells])]; simp, fun q => ?_⟩))
          have : ENDCAP = 18446744073709551617 := rfl
          omega
        simp [r0, r1, r2', r8, r9, w1, hl, hbs]
        exact hq1 A2 l ⟨g1.1, g1.2.1, g1.2.2.1, g1.2.2.2, by omega⟩ (by omega) kp ex
      · have hlt : (l.length : Int) < (m : Int) := by omega
        have h3 := h2.cell
        obtain ⟨es, c, m1, m2⟩ := h2.map.get (off + (l.length : Int))
        cases hf : f (off + (l.length : Int)) with
        | none =>
          rw [hf] at m2
          simp only [Option.map_none] at m2
          simp [r0, r1, r2', r8, r9, w1, hlt, h3, m1, m2, getRes]
          refine hq2 A2 (fun q => ?_) ex
          have := q.2 l.length hlt
          rw [hf] at this; cases this
        | some b =>
          rw [hf] at m2
          obtain ⟨i, m2⟩ := m2
          have lb := AHeap.get_lt gb
          obtain ⟨k', rfl⟩ : ∃ k', k = k' + 1 := ⟨k - 1, by omega⟩
          have ap := app_in (A := A2.alloc (.cells [byt b] false 0)) (b := A.size) (i := l.length) (n := m) (d := A2.size) (bytes := 1) (opn := 0) (y := byt b) (ro := false) (opn2 := 0) (by rw [AHeap.get_alloc, if_neg (by omega)]; exact gb) (by simp [bcells]; omega) (by omega) (by omega) (by decide) (by simp) rfl
          have w2 : IntKind.i64.wrap (off + (l.length : Int) + 1) = off + (l.length : Int) + 1 := IntWalk.i64_in _ (by omega)
          simp [byt] at ap
          simp [r0, r1, r2', r8, r9, w1, hlt, h3, m1, m2, getRes, byt, ap, w2]
          generalize hA3 : AHeap.set (AHeap.alloc A2 _) A.size _ = A3
          have g3 : A3.get A.size = some (.cells (bcells (l ++ [b]) ++ List.replicate k' (.int .u8 0)) false 0) := by
            rw [← hA3]; simp [lb, show A.size ≠ A2.size by omega, show A.size < A2.size + 1 by omega, bcells, byt, List.replicate_succ]
          have e3 : Ext (fun j => j = A.size) A2 A3 := ⟨by rw [← hA3]; simp, fun j hj hn => by rw [← hA3]; simp [show j ≠ A.size from hn, show j ≠ A2.size by omega]⟩
          refine ⟨k', by omega, l ++ [b], by simp; omega, ?_, rfl, rfl, by simp [r0], by simp [r1], by simp [r2'], by simp, by simp; omega, g3, ?_, Nat.le_refl _⟩
          · intro i hi
            simp only [List.length_append, List.length_cons, List.length_nil] at hi
            by_cases hil : i < l.length
            · rw [List.getElem_append_left hil]; exact kp i hil
            · have : i = l.length := by omega
              subst this
              simp [hf]
          · exact ex.trans2 e3 fun j hj q => by omega
  · simp [g1]
    refine hq2 A (fun q => g1 ?_) Ext.refl
    exact ⟨q.1.1, q.1.2.1, q.1.2.2.1, q.1.2.2.2.1⟩
end Go.Proofs.Ytidgbapgedegbaa
