/- The rows' leaf functions. -/
import Derived.Test.YtcfahggmejpdbaaDoorSa
import Derived.KernelRfl
namespace Go.Proofs.YtcfahggmejpdbaaDoor
open Go Go.AS
set_option maxRecDepth 100000
set_option linter.unusedSimpArgs false
set_option linter.unusedVariables false
attribute [local irreducible] Trie.set Trie.get Env.rd
attribute [local simp] Nat.add_assoc wD_cons'' wD_nil' wC_seq wC_ops wC_opsD_nil wC_cond wC_skip wC_ret wC_exit wC_block wO_cons' wO_nil wantedA wV_eq lop qop ev wL_some wL_none wPut envOf rd_set rd_leaf eqA thenC blockC wB_true wB_false endF unwindA resultsA resA tupleA rdCell rdCells wrCells cl fillP lay rep binA unA get_set' AHeap.get_alloc oneCell beqd bned idxA

attribute [local simp] MS.len MS.one MS.take MS.at0 MS.at1 MS.at2 MS.at7 MS.putEn MS.putMd MS.putSo MS.putU0 Tn.len Tn.one Tn.take Tn.at0 Tn.at1 Tn.at2
/-- An int's cells. -/
def icells (l : List Int) : List Value := l.map fun x => .int .i64 x
theorem icells_at (l : List Int) (i : Nat) : (icells l)[i]? = (l[i]?).map fun x => .int .i64 x := by simp [icells]
theorem icells_len (l : List Int) : (icells l).length = l.length := by simp [icells]

/-- The loop of in. -/
def InI (A1 : AHeap) (d : Nat) (k : Nat) (p : Int) (l : List Int) (s : MS) (m : Nat) (st : St) : Prop := ∃ i : Nat, m = l.length - i ∧ st.n = 23 ∧ st.dfs = [] ∧ st.A = A1 ∧
  st.env.rd 1 = .int .i64 p ∧ st.env.rd 3 = .pointer (some ⟨k, 0, none⟩) ∧ st.env.rd 8 = .slice (some ⟨d, 0, none⟩) l.length l.length ∧ st.env.rd 9 = .int .i64 l.length ∧ st.env.rd 10 = .int .i64 i ∧ (p = 0 → s.md ∉ l.take i)

theorem in1_fn {A : AHeap} {b d : Nat} {l : List Int} (hb : A.get b = some (.cells [.slice (some ⟨d, 0, none⟩) l.length l.length] false 0)) (hd : ∃ opn, A.get d = some (.cells (icells l) false opn)) (hl : l.length < 100) :
    IsFn (.func (.func 55) #[] #[.pointer (some ⟨b, 0, none⟩)]) A (fun s p => decide (s.md ∈ l) && p == 0) := by
  intro A2 s p Q e h0 h4 hq
  obtain ⟨opn, hd⟩ := hd
  have b2 := e.get hb id
  have d2 := e.get hd id
  have bl := AHeap.get_lt b2
  have dl := AHeap.get_lt d2
  refine wF_func (first := []) (captured := [.pointer (some ⟨b, 0, none⟩)]) t55 ⟨rfl, by decide⟩ ?_
  dsimp only [c55]
  simp [show b ≠ A2.size by omega, b2]
  refine wC_loop_inv (InI (A2.alloc (.cells s.cells false 0)) d A2.size p l s) ?_ l.length _ ⟨0, by omega, rfl, rfl, rfl, by simp, by simp, by simp, by simp, by simp, by simp⟩
  rintro m ⟨env, n, dfs, A3⟩ ⟨i, q1, s1, s2, s3, r1, r3, r8, r9, r10, hno⟩
  simp only at s1 s2 s3 r1 r3 r8 r9 r10
  subst s1; subst s2; subst s3
  by_cases c : i < l.length
  · have cv : (icells l)[i]? = some (.int .i64 l[i]) := by rw [icells_at, List.getElem?_eq_getElem c]; rfl
    have w2 : IntKind.i64.wrap ((i : Int) + 1) = ((i + 1 : Nat) : Int) := IntWalk.i64_in _ (by omega)
    simp [r1, r3, r8, r9, r10, c, show d ≠ A2.size by omega, d2, cv]
    by_cases h1 : s.md = l[i]
    · by_cases h2 : p = 0
      · simp [h1, h2, r1]
        have : s.md ∈ l := by rw [h1]; exact List.getElem_mem c
        have hq' : Q (.bool (decide (s.md ∈ l) && p == 0)) _ := hq (A2.alloc (.cells s.cells false 0)) Ext.alloc
        rw [show (decide (s.md ∈ l) && p == 0) = true by simp [this, h2]] at hq'
        exact hq'
      · simp [h1, h2, r1, r10]
        exact ⟨m - 1, by omega, i + 1, by omega, rfl, rfl, rfl, by simp [r1], by simp [r3], by simp [r8], by simp [r9], by simpa using w2, fun q => absurd q h2⟩
    · simp [h1, r10]
      refine ⟨m - 1, by omega, i + 1, by omega, rfl, rfl, rfl, by simp [r1], by simp [r3], by simp [r8], by simp [r9], by simpa using w2, fun q => ?_⟩
      rw [List.take_add_one, List.getElem?_eq_getElem c]
      rw [List.mem_append]
      rintro (z | z)
      · exact hno q z
      · exact h1 (by simpa using z)
  · simp [r9, r10, c]
    have hq' : Q (.bool (decide (s.md ∈ l) && p == 0)) _ := hq (A2.alloc (.cells s.cells false 0)) Ext.alloc
    have : (decide (s.md ∈ l) && p == 0) = false := by
      by_cases h2 : p = 0
      · have := hno h2
        rw [List.take_of_length_le (by omega)] at this
        simp [this]
      · simp [h2]
    rw [this] at hq'
    exact hq'

theorem in_ok (A : AHeap) (d n : Nat) (Q : Value → AHeap → Prop) (hq : Q (.func (.func 55) #[] #[.pointer (some ⟨A.size, 0, none⟩)]) (A.alloc (.cells [.slice (some ⟨d, 0, none⟩) n n] false 0))) : wF T (.func (.func 38) #[] #[]) [.slice (some ⟨d, 0, none⟩) n n] A Q := by
  refine wF_func (first := []) (captured := []) t38 ⟨rfl, by decide⟩ ?_
  dsimp only [c38]
  simp
  exact hq
theorem idle_ok (A : AHeap) (e : Int) (Q : Value → AHeap → Prop) (hq : Q (.func (.func 54) #[] #[.pointer (some ⟨A.size, 0, none⟩)]) (A.alloc (.cells [.int .i64 e] false 0))) : wF T (.func (.func 37) #[] #[]) [.int .i64 e] A Q := by
  refine wF_func (first := []) (captured := []) t37 ⟨rfl, by decide⟩ ?_
  dsimp only [c37]
  simp
  exact hq
end Go.Proofs.YtcfahggmejpdbaaDoor
