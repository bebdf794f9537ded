/- wrong, fallen, Falls, both. -/
import Derived.Test.YtcfahggmejpdbaaDoorSg
import Derived.KernelRfl
namespace Go.Proofs.YtcfahggmejpdbaaDoor
open Go Go.AS
set_option maxRecDepth 100000
set_option linter.unusedSimpArgs false
set_option linter.unusedVariables false
attribute [local irreducible] Trie.set Trie.get Env.rd
attribute [local simp] Nat.add_assoc wD_cons'' wD_nil' wC_seq wC_ops wC_opsD_nil wC_cond wC_skip wC_ret wC_exit wC_block wO_cons' wO_nil wantedA wV_eq lop qop ev wL_some wL_none wPut envOf rd_set rd_leaf eqA thenC blockC wB_true wB_false endF unwindA resultsA resA tupleA rdCell rdCells wrCells cl fillP lay rep binA unA get_set' AHeap.get_alloc oneCell beqd bned idxA

attribute [local simp] MS.len MS.one MS.take MS.at0 MS.at1 MS.at2 MS.at7 MS.putEn MS.putMd MS.putSo MS.putU0 Tn.len Tn.one Tn.take Tn.at0 Tn.at1 Tn.at2
theorem wrong_ok (A : AHeap) (e : Int) (v : Value) (l : List Tn) (k : Int) (Q : Value → AHeap → Prop) (hE : EH A) (hl : l.length < 1000000) (hv : ReadAt A 3 v l.length (tcells l))
    (hq : ∀ A', Ext NoB A A' → Q (.bool (decide ((walkR e l).2 = some (15, k)))) A') : wF T (.func (.func 15) #[] #[]) [.int .i64 e, v, .int .i64 k] A Q := by
  refine wF_func (first := []) (captured := []) t15 ⟨rfl, by decide⟩ ?_
  dsimp only [c15]
  simp
  refine check_ok A e v l _ hl hv fun A1 ev e1 h1 => ?_
  simp
  refine last_ok A1 e v l _ (hE.extN e1) hl (hv.ext e1 fun _ _ => id) fun A2 e2 => ?_
  simp [lay_whole]
  generalize hA3 : AHeap.set _ A2.size _ = A3
  have e3 : Ext NoB A2 A3 := by rw [← hA3]; exact ⟨by simp, fun b hb _ => by simp [show b ≠ A2.size by omega]⟩
  clear hA3
  have e13 := (e1.trans e2).trans e3
  have h3 := (h1.extN e2).extN e3
  cases hw : (walkR e l).2 with
  | none =>
    rw [hw] at h3 hq
    have h3' : ev = .nilIface := h3
    subst h3'
    simp
    have := hq A3 e13
    simpa using this
  | some f =>
    rw [hw] at h3 hq
    obtain ⟨b, hev, hb⟩ := h3
    subst hev
    simp
    refine told_ok A3 _ (some f) _ (hE.extN e13) ⟨b, rfl, hb⟩ fun A4 e4 => ?_
    have hq' := hq A4 (e13.trans e4)
    obtain ⟨f1, f2⟩ := f
    by_cases c1 : f1 = 15
    · by_cases c2 : f2 = k
      · simp [fcells, eqL, leafEq, c1, c2]; simpa [c1, c2] using hq'
      · simp [fcells, eqL, leafEq, c1, c2]; simpa [c1, c2] using hq'
    · simp [fcells, eqL, leafEq, c1]; simpa [c1] using hq'

def fallenB (c : Int) : Bool := c == 2 || c == 4 || c == 6 || (decide (10 ≤ c) && decide (c ≤ 13))
theorem fallen_ok (A : AHeap) (c : Int) (Q : Value → AHeap → Prop) (hq : Q (.bool (fallenB c)) A) : wF T (.func (.func 30) #[] #[]) [.int .i64 c] A Q := by
  refine wF_func (first := []) (captured := []) t30 ⟨rfl, by decide⟩ ?_
  dsimp only [c30]
  unfold fallenB at hq
  by_cases h2 : c = 2
  · simp [h2, undef]; simpa [h2] using hq
  · by_cases h4 : c = 4
    · simp [h4, undef]; simpa [h4] using hq
    · by_cases h6 : c = 6
      · simp [h6, undef]; simpa [h6] using hq
      · by_cases h10 : 10 ≤ c
        · by_cases h13 : c ≤ 13 <;> (simp [h2, h4, h6, h10, h13, undef]; simpa [h2, h4, h6, h10, h13] using hq)
        · simp [h2, h4, h6, h10, undef]; simpa [h2, h4, h6, h10] using hq

theorem both_ok (A : AHeap) (s : MS) (Q : Value → AHeap → Prop) (hq : ∀ A', Ext NoB A A' → Q (.agg ⟨s.cells⟩) A') : wF T (.func (.func 20) #[] #[]) [.agg ⟨s.cells⟩] A Q := by
  refine wF_func (first := []) (captured := []) t20 ⟨rfl, by decide⟩ ?_
  dsimp only [c20]
  simp [MS.cells]
  have ex : ∀ x y u, Ext NoB A (((A.alloc x).alloc y).set (A.size + 1) u) := fun x y u => ⟨by simp, fun b hb _ => by simp [show b ≠ A.size by omega, show b ≠ A.size + 1 by omega]⟩
  exact hq _ (ex _ _ _)

/-- Where turns fall back. -/
def fallsN : List Tn → Option Nat
  | [] => none
  | t :: l => if fallenB t.c = true then some 0 else (fallsN l).map (· + 1)
def fallsI (l : List Tn) : Int := match fallsN l with | none => -1 | some i => i
theorem fallsN_at (l : List Tn) (i : Nat) (h : i < l.length) (hn : fallsN (l.take i) = none) (hf : fallenB (l[i]).c = true) : fallsN l = some i := by
  induction l generalizing i with
  | nil => simp at h
  | cons t l ih =>
    cases i with
    | zero => simp only [List.getElem_cons_zero] at hf; simp [fallsN, hf]
    | succ i =>
      simp only [List.take_succ_cons, fallsN] at hn
      split at hn
      · cases hn
      · rename_i ht
        simp only [Option.map_eq_none_iff] at hn
        simp only [fallsN, if_neg ht, ih i (by simpa using h) hn (by simpa using hf)]
        rfl
theorem fallsN_snoc (l : List Tn) (t : Tn) (hn : fallsN l = none) (hf : fallenB t.c = false) : fallsN (l ++ [t]) = none := by
  induction l with
  | nil => simp [fallsN, hf]
  | cons u l ih =>
    simp only [fallsN] at hn
    split at hn
    · cases hn
    · rename_i ht
      simp only [Option.map_eq_none_iff] at hn
      simp only [List.cons_append, fallsN, if_neg ht, ih hn]; rfl
def FaI (A0 : AHeap) (v : Value) (l : List Tn) (m : Nat) (st : St) : Prop := ∃ (i : Nat), i ≤ l.length ∧ m = l.length - i ∧ st.n = 24 ∧ st.dfs = [] ∧
  (st.env.rd 5 = v ∧ st.env.rd 6 = .int .i64 l.length ∧ st.env.rd 7 = .int .i64 i) ∧ Ext NoB A0 st.A ∧ fallsN (l.take i) = none
theorem falls_ok (A : AHeap) (v : Value) (l : List Tn) (Q : Value → AHeap → Prop) (hl : l.length < 1000000) (hv : ReadAt A 3 v l.length (tcells l))
    (hq : ∀ A', Ext NoB A A' → Q (.int .i64 (fallsI l)) A') : wF T (.func (.func 21) #[] #[]) [v] A Q := by
  obtain ⟨va, vc, rfl⟩ := hv.val
  refine wF_func (first := []) (captured := []) t21 ⟨rfl, by decide⟩ ?_
  dsimp only [c21]
  simp
  refine wC_loop_inv (FaI A (.slice va l.length vc) l) ?_ l.length _ ⟨0, by omega, by omega, rfl, rfl, ⟨by simp, by simp, by simp⟩, Ext.refl, by simp [fallsN]⟩
  rintro m ⟨env, n, dfs, A4⟩ ⟨i, hi, rfl, s1, s2, ⟨r5, r6, r7⟩, ex, nb⟩
  simp only at s1 s2 r5 r6 r7 ex
  subst s1; subst s2
  by_cases c : i < l.length
  · obtain ⟨d, o, cc, bs, ro, opn, y1, y2, y3, y4⟩ := (hv.ext ex fun _ _ => id).elem2 c
    cases y1
    rw [tcells_at l i c] at y4
    have y3' : o + (i * 3 + 3) ≤ bs.length := by omega
    have w2 : IntKind.i64.wrap ((i : Int) + 1) = ((i + 1 : Nat) : Int) := IntWalk.i64_in _ (by omega)
    simp [r5, r6, r7, c, y2, y3', y4, lay_turn]
    generalize hA5 : AHeap.set (AHeap.alloc A4 _) A4.size _ = A5
    have e5 : Ext NoB A4 A5 := by rw [← hA5]; exact ⟨by simp, fun b hb _ => by simp [show b ≠ A4.size by omega]⟩
    clear hA5
    have yes : fallenB (l[i]).c = true → Q (.int .i64 (i : Int)) A5 := fun hf => by
      have := hq A5 (ex.trans e5)
      rwa [fallsI, fallsN_at l i c nb hf] at this
    by_cases h2 : (l[i]).c = 2
    · simp [h2]; exact yes (by simp [fallenB, h2])
    · by_cases h4 : (l[i]).c = 4
      · simp [h4]; exact yes (by simp [fallenB, h4])
      · by_cases h6 : (l[i]).c = 6
        · simp [h6]; exact yes (by simp [fallenB, h6])
        · by_cases h10 : (l[i]).c = 10
          · simp [h10]; exact yes (by simp [fallenB, h10])
          · by_cases h11 : (l[i]).c = 11
            · simp [h11]; exact yes (by simp [fallenB, h11])
            · by_cases h12 : (l[i]).c = 12
              · simp [h12]; exact yes (by simp [fallenB, h12])
              · by_cases h13 : (l[i]).c = 13
                · simp [h13]; exact yes (by simp [fallenB, h13])
                · simp [h2, h4, h6, h10, h11, h12, h13, r7]
                  refine ⟨l.length - (i + 1), by omega, i + 1, by omega, rfl, rfl, rfl, ⟨by simp [r5], by simp [r6], by simpa using w2⟩, ex.trans e5, ?_⟩
                  rw [List.take_add_one, List.getElem?_eq_getElem c]
                  refine fallsN_snoc _ _ nb ?_
                  have : ¬ (10 ≤ (l[i]).c ∧ (l[i]).c ≤ 13) := by omega
                  simp [fallenB, h2, h4, h6]; omega
  · have hil : i = l.length := by omega
    rw [hil, List.take_of_length_le (Nat.le_refl _)] at nb
    simp [r5, r6, r7, c]
    have := hq A4 ex
    rwa [fallsI, nb] at this
end Go.Proofs.YtcfahggmejpdbaaDoor
