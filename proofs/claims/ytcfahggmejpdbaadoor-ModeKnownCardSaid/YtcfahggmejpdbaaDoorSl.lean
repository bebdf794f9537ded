/- choices. -/
import Derived.Test.YtcfahggmejpdbaaDoorSk
import Derived.KernelRfl
namespace Go.Proofs.YtcfahggmejpdbaaDoor
open Go Go.AS
set_option maxRecDepth 100000
set_option linter.unusedSimpArgs false
set_option linter.unusedVariables false
attribute [local irreducible] Trie.set Trie.get Env.rd
attribute [local simp] Nat.add_assoc wD_cons'' wD_nil' wC_seq wC_ops wC_opsD_nil wC_cond wC_skip wC_ret wC_exit wC_block wO_cons' wO_nil wantedA wV_eq lop qop ev wL_some wL_none wPut envOf rd_set rd_leaf eqA thenC blockC wB_true wB_false endF unwindA resultsA resA tupleA rdCell rdCells wrCells cl fillP lay rep binA unA get_set' AHeap.get_alloc oneCell beqd bned idxA

attribute [local simp] MS.len MS.one MS.take MS.at0 MS.at1 MS.at2 MS.at7 MS.putEn MS.putMd MS.putSo MS.putU0 Tn.len Tn.one Tn.take Tn.at0 Tn.at1 Tn.at2
theorem tcells_snoc (l : List Tn) (t : Tn) : tcells (l ++ [t]) = tcells l ++ t.cells := by simp [tcells]
theorem lenN {x : Nat} (h : x < 100000) : IntKind.i64.wrap ((x : Int) + 1) = ((x + 1 : Nat) : Int) := IntWalk.i64_in _ (by omega)
/-- What the loops of choices keep. -/
def ChB (A0 : AHeap) (s : MS) (bnd : Nat) (v : Value) (st : St) : Prop := ∃ (l : List Tn), st.n = 38 ∧ st.dfs = [] ∧ st.env.rd 1 = .pointer (some ⟨A0.size, 0, none⟩) ∧ st.env.rd 3 = v ∧
  l.length ≤ bnd ∧ (∀ t ∈ l, okT s t = true) ∧ SliceAt st.A 3 v l.length (tcells l) ∧ (∀ j, Own v j → A0.size < j) ∧ st.A.get A0.size = some (.cells s.cells false 0) ∧ Ext NoB A0 st.A
def Ch1 (A0 : AHeap) (s : MS) (m : Nat) (st : St) : Prop := ∃ (c : Nat) (v : Value), c ≤ 18 ∧ m = 18 - c ∧ st.env.rd 4 = .int .i64 c ∧ ChB A0 s (c * 28) v st
def Ch2 (A0 : AHeap) (s : MS) (c : Nat) (m : Nat) (st : St) : Prop := ∃ (p : Nat) (v : Value), p ≤ 4 ∧ m = 4 - p ∧ st.env.rd 4 = .int .i64 c ∧ st.env.rd 5 = .int .i64 p ∧ ChB A0 s (c * 28 + p * 7) v st
def Ch3 (A0 : AHeap) (s : MS) (c p : Nat) (m : Nat) (st : St) : Prop := ∃ (k : Nat) (v : Value), k ≤ 7 ∧ m = 7 - k ∧ st.env.rd 4 = .int .i64 c ∧ st.env.rd 5 = .int .i64 p ∧ st.env.rd 6 = .int .i64 k ∧ ChB A0 s (c * 28 + p * 7 + k) v st

theorem choices_ok (A : AHeap) (s : MS) (Q : Value → AHeap → Prop) (hq : ∀ A' v l, Ext NoB A A' → l.length ≤ 504 → (∀ t ∈ l, okT s t = true) → SliceAt A' 3 v l.length (tcells l) → (∀ j, Own v j → A.size ≤ j) → Q v A') : wF T (.func (.func 25) #[] #[]) [.agg ⟨s.cells⟩] A Q := by
  refine wF_func (first := []) (captured := []) t25 ⟨rfl, by decide⟩ ?_
  dsimp only [c25]
  simp
  refine wC_loop_inv (Ch1 A s) ?_ 18 _ ⟨0, .slice none 0 0, by omega, rfl, by simp, [], rfl, rfl, by simp, by simp, by simp, by simp, SliceAt.nil, (fun j ⟨_, _, _, q⟩ => by cases q), by simp, Ext.alloc⟩
  rintro m1 ⟨env1, n1, dfs1, A1⟩ ⟨c, v, hc, rfl, r4, l, s1, s2, r1, r3, hl, hok, hs, ho, hg, ex⟩
  simp only at s1 s2 r1 r3 r4 hs hg ex
  subst s1; subst s2
  by_cases cc : c < 18
  · simp [r4, show (c : Int) < 18 by omega]
    refine wC_loop_inv (Ch2 A s c) ?_ 4 _ ⟨0, v, by omega, rfl, by simp [r4], by simp, l, rfl, rfl, by simp [r1], by simp [r3], by omega, hok, hs, ho, hg, ex⟩
    clear r1 r3 r4 hl hok hs ho hg ex
    rintro m2 ⟨env2, n2, dfs2, A2⟩ ⟨p, v, hp, rfl, r4, r5, l, s1, s2, r1, r3, hl, hok, hs, ho, hg, ex⟩
    simp only at s1 s2 r1 r3 r4 r5 hs hg ex
    subst s1; subst s2
    by_cases cp : p < 4
    · simp [r5, show (p : Int) < 4 by omega]
      refine wC_loop_inv (Ch3 A s c p) ?_ 7 _ ⟨0, v, by omega, rfl, by simp [r4], by simp [r5], by simp, l, rfl, rfl, by simp [r1], by simp [r3], by omega, hok, hs, ho, hg, ex⟩
      clear r1 r3 r4 r5 hl hok hs ho hg ex
      rintro m3 ⟨env3, n3, dfs3, A3⟩ ⟨k, v, hk, rfl, r4, r5, r6, l, s1, s2, r1, r3, hl, hok, hs, ho, hg, ex⟩
      simp only at s1 s2 r1 r3 r4 r5 r6 hs hg ex
      subst s1; subst s2
      by_cases ck : k < 7
      · have lg := AHeap.get_lt hg
        simp [r1, r3, r4, r5, r6, show (k : Int) < 7 by omega, show A.size ≠ A3.size by omega, hg]
        generalize hA4 : AHeap.set (AHeap.alloc A3 _) A3.size _ = A4
        have e4 : Ext NoB A3 A4 := by rw [← hA4]; exact ⟨by simp, fun b hb _ => by simp [show b ≠ A3.size by omega]⟩
        have g7 : A4.get A3.size = some (.cells (Tn.mk c p k).cells false 0) := by rw [← hA4]; simp [Tn.cells]
        clear hA4
        refine rnext_ok A4 s (Tn.mk c p k) _ fun A5 e5 => ?_
        have g8 := e5.get g7 id
        have l5 := AHeap.get_lt g8
        simp [lay_whole]
        generalize hA6 : AHeap.set (AHeap.alloc A5 _) A5.size _ = A6
        have e6 : Ext NoB A5 A6 := by rw [← hA6]; exact ⟨by simp, fun b hb _ => by simp [show b ≠ A5.size by omega]⟩
        clear hA6
        have g9 := e6.get g8 id
        have l6 := AHeap.get_lt g9
        have e36 := (e4.trans e5).trans e6
        have hg6 := e36.get hg id
        have hs6 := hs.ext e36 fun _ _ => id
        cases hyes : okT s (Tn.mk c p k) with
        | false =>
          simp [hyes, r6]
          exact ⟨7 - (k + 1), by omega, k + 1, v, by omega, rfl, by simp [r4], by simp [r5], by simpa using lenN (show k < 100000 by omega), l, rfl, rfl, by simp [r1], by simp [r3], by omega, hok, hs6, ho, hg6, ex.trans e36⟩
        | true =>
          have e67 : Ext NoB A6 (A6.alloc (.cells (Tn.mk c p k).cells false 0)) := Ext.alloc
          have hs7 := hs6.ext e67 fun _ _ => id
          obtain ⟨v', A8, a1, a2, a3, a4⟩ := hs7.append (x := .slice (some ⟨A6.size, 0, none⟩) 1 1) (m := 1) (new := (Tn.mk c p k).cells) (bytes := 24) (by decide) rfl (by simp [firstA, ENDCAP]) rfl rfl (by omega) (by decide) (fun q => by cases q)
          have e38 : Ext (Own v) A3 A8 := (e36.mono fun _ _ q => q.elim).trans ((e67.mono fun _ _ q => q.elim).trans a3)
          have hg8 : A8.get A.size = some (.cells s.cells false 0) := e38.get hg fun q => by have := ho _ q; omega
          have ex8 : Ext NoB A A8 := ex.trans2 e38 fun b hb q => by have := ho _ q; omega
          have z36 := e36.size
          simp [hyes, g9, r3, r6, show ¬ A3.size = A6.size by omega, lay_turn, a1]
          refine ⟨7 - (k + 1), by omega, k + 1, v', by omega, rfl, by simp [r4], by simp [r5], by simpa using lenN (show k < 100000 by omega), l ++ [Tn.mk c p k], rfl, rfl, by simp [r1], by simp, by simp; omega, fun t ht => ?_, ?_, fun j hj => ?_, hg8, ex8⟩
          · rcases List.mem_append.1 ht with q | q
            · exact hok t q
            · rw [List.mem_singleton] at q; rw [q]; exact hyes
          · rw [tcells_snoc, List.length_append]; exact a2
          · rcases a4 j hj with q | q
            · exact ho j q
            · have := e67.size; omega
      · have : k = 7 := by omega
        subst this
        simp [r5, r6]
        exact ⟨4 - (p + 1), by omega, p + 1, v, by omega, rfl, by simp [r4], by simpa using lenN (show p < 100000 by omega), l, rfl, rfl, by simp [r1], by simp [r3], by omega, hok, hs, ho, hg, ex⟩
    · have : p = 4 := by omega
      subst this
      simp [r4, r5]
      exact ⟨18 - (c + 1), by omega, c + 1, v, by omega, rfl, by simpa using lenN (show c < 100000 by omega), l, rfl, rfl, by simp [r1], by simp [r3], by omega, hok, hs, ho, hg, ex⟩
  · have : c = 18 := by omega
    subst this
    simp [r3, r4]
    exact hq A1 v l ex (by omega) hok hs fun j hj => Nat.le_of_lt (ho j hj)
end Go.Proofs.YtcfahggmejpdbaaDoor
