/- A hole: skip and put. -/
import Derived.Test.YtidgbapgedegbaaHb
import Derived.KernelRfl
namespace Go.Proofs.Ytidgbapgedegbaa
open Go Go.AS
set_option maxRecDepth 100000
set_option linter.unusedSimpArgs false
set_option linter.unusedVariables false
attribute [local irreducible] Trie.set Trie.get Env.rd
attribute [local simp] Nat.add_assoc wD_cons'' wD_nil' wC_seq wC_ops wC_opsD_nil wC_cond wC_skip wC_ret wC_exit wC_block wO_cons' wO_nil wantedA wV_eq lop qop ev wL_some wL_none wPut envOf rd_set rd_leaf eqA thenC blockC wB_true wB_false endF unwindA resultsA resA tupleA rdCell rdCells wrCells cl fillP lay rep binA unA get_set' AHeap.get_alloc oneCell beqd bned idxA


/-- What is left behind a number. -/
def cutB (f : Bytes) (to : Nat) : Bytes := fun k => if k < (to : Int) then none else f k

def KI (p mb room base to : Nat) (f : Bytes) (A : AHeap) (hi : Nat) (k : Nat) (st : St) : Prop := ∃ j : Nat, j + k = hi ∧ base ≤ j ∧ st.n = 49 ∧ st.dfs = [] ∧ st.env.rd 0 = .pointer (some ⟨p, 0, none⟩) ∧ st.env.rd 4 = .int .i64 (to : Nat) ∧ st.env.rd 5 = .int .i64 (j : Nat) ∧
  MapIs st.A mb (fun x => if (base : Int) ≤ x ∧ x < j then none else (f x).map byt) ∧ Ext (fun j => j = mb) A st.A

theorem skip_ok (A : AHeap) (p mb room base : Nat) (f : Bytes) (Q : Value → AHeap → Prop) (n : Int) (h : HoleAt A p mb room base f)
    (hq : ∀ A' w (to : Nat), (to : Int) = base + max 0 (min n (2305843009213693952 - base)) → HoleAt A' p mb room to (cutB f to) → Ext (fun j => j = p ∨ j = mb) A A' → Q w A') :
    wF T (.func (.func 89) #[] #[]) [.pointer (some ⟨p, 0, none⟩), .int .i64 n] A Q := by
  refine wF_func (first := []) (captured := []) t89 ⟨rfl, by decide⟩ ?_
  dsimp only [c89]
  have hb := h.big; have r2 := h.room2
  obtain ⟨to, hto⟩ : ∃ to : Nat, (to : Int) = base + max 0 (min n (2305843009213693952 - base)) := ⟨(base + max 0 (min n (2305843009213693952 - base)) : Int).toNat, by omega⟩
  have w1 : IntKind.i64.wrap (2305843009213693952 - (base : Int)) = 2305843009213693952 - (base : Int) := IntWalk.i64_in _ (by omega)
  have m1 : foldV minV (.int .i64 n) [.int .i64 (2305843009213693952 - (base : Int))] = some (.int .i64 (min n (2305843009213693952 - base))) := by
    simp only [foldV, minV]; congr 2; omega
  have m2 : foldV maxV (.int .i64 0) [.int .i64 (min n (2305843009213693952 - (base : Int)))] = some (.int .i64 (max 0 (min n (2305843009213693952 - base)))) := by
    simp only [foldV, maxV]; congr 2; omega
  have w2 : IntKind.i64.wrap ((base : Int) + max 0 (min n (2305843009213693952 - base))) = (to : Int) := by rw [← hto]; exact wn _ (by omega)
  simp [h.cell, w1, m1, m2, w2]
  have l1 := h.lt.1
  have l2 := h.lt.2
  have htob : base ≤ to ∧ to ≤ 2305843009213693952 := by omega
  obtain ⟨hi, hhi⟩ : ∃ hi, hi = max base (min to (base + room)) := ⟨_, rfl⟩
  refine wC_loop_inv (KI p mb room base to f A hi) ?_ (hi - base) _ ⟨base, by omega, Nat.le_refl _, rfl, rfl, by simp, by simp, by simp, h.map.congr fun k => by rw [if_neg (by omega)], Ext.refl⟩
  rintro k ⟨env, nn, dfs, A2⟩ ⟨j, k0, kb, k1, k2, r0, r4, r5, mp, ex⟩
  simp only at k1 k2 r0 r4 r5 mp ex
  subst k1; subst k2
  have hc := ex.get h.cell h.ne
  have lp := AHeap.get_lt hc
  have w3 : IntKind.i64.wrap ((base : Int) + (room : Int)) = (base : Int) + (room : Int) := IntWalk.i64_in _ (by omega)
  have m3 : foldV minV (.int .i64 (to : Int)) [.int .i64 ((base : Int) + (room : Int))] = some (.int .i64 ((min to (base + room) : Nat) : Int)) := by
    simp only [foldV, minV]; congr 2; omega
  by_cases g : j < min to (base + room)
  · have g' : (j : Int) < ((min to (base + room) : Nat) : Int) := by omega
    obtain ⟨es, c, q1, q2⟩ := mp.get j
    have d2 := mp.del2 j q1
    have w4 : IntKind.i64.wrap ((j : Int) + 1) = ((j + 1 : Nat) : Int) := by rw [IntWalk.i64_in _ (by omega)]; omega
    have fin : ∀ (e : Env) (A3 : AHeap), MapIs A3 mb (fun x => if x = (j : Int) then none else (if (base : Int) ≤ x ∧ x < j then none else (f x).map byt)) → Ext (fun j => j = mb) A2 A3 → e.rd 0 = .pointer (some ⟨p, 0, none⟩) → e.rd 4 = .int .i64 (to : Nat) → e.rd 5 = .int .i64 ((j + 1 : Nat) : Int) →
        ∃ m', m' < k ∧ KI p mb room base to f A hi m' { env := e, n := 49, dfs := [], A := A3 } := by
      intro e A3 mp3 e3 e0 e4 e5
      refine ⟨k - 1, by omega, j + 1, by omega, by omega, rfl, rfl, e0, e4, e5, mp3.congr fun x => ?_, ex.trans e3⟩
      by_cases hx : x = (j : Int)
      · rw [if_pos hx, if_pos (by omega)]
      · rw [if_neg hx]
        by_cases hx2 : (base : Int) ≤ x ∧ x < j
        · rw [if_pos hx2, if_pos (by omega)]
        · rw [if_neg hx2, if_neg (by omega)]
    have lm := mp.lt
    split at q2
    · rename_i v _
      obtain ⟨i, hi2⟩ := q2
      simp [r0, r4, r5, hc, w3, m3, g', q1, hi2, w4]
      exact fin _ _ (d2.2 i v hi2) (Ext.set rfl) (by simp [r0]) (by simp [r4]) (by simp)
    · simp [r0, r4, r5, hc, w3, m3, g', q1, q2, w4]
      exact fin _ _ (d2.1 q2) (Ext.set rfl) (by simp [r0]) (by simp [r4]) (by simp)
  · have g' : ¬ (j : Int) < ((min to (base + room) : Nat) : Int) := by omega
    simp [r0, r4, r5, hc, w3, m3, g', lp]
    generalize hA3 : AHeap.set A2 p _ = A3
    obtain ⟨g3, e3, z3⟩ := set_facts lp hA3
    refine hq A3 _ to hto ⟨g3, ?_, h.ne, ?_, h.room1, h.room2, by omega⟩ ((ex.mono fun _ _ q => .inr q).trans (e3.mono fun _ _ q => .inl q))
    · refine (mp.ext e3 fun q => h.ne q.symm).congr fun x => ?_
      unfold cutB
      by_cases hx : x < (to : Int)
      · rw [if_pos hx]
        by_cases hx2 : (base : Int) ≤ x ∧ x < j
        · rw [if_pos hx2]; rfl
        · rw [if_neg hx2]
          cases hf : f x with
          | none => rfl
          | some b => have := h.dom x b hf; omega
      · rw [if_neg hx, if_neg]
        omega
    · intro x b hx
      unfold cutB at hx
      split at hx
      · cases hx
      · have := h.dom x b hx; omega
end Go.Proofs.Ytidgbapgedegbaa
