/- Contracts of stage 25: the comparison, and the closures of Pick. -/
import Derived.Test.YtbhhmnokddkhmaaSb
import Derived.KernelRfl
namespace Go.Proofs.Ytbhhmnokddkhmaa
open Go Go.AS
set_option maxRecDepth 100000
set_option linter.unusedSimpArgs false
set_option linter.unusedVariables false
attribute [local irreducible] Trie.set Trie.get Env.rd
attribute [local simp] Nat.add_assoc wD_cons'' wD_nil' wC_seq wC_ops wC_opsD_nil wC_cond wC_skip wC_ret wC_exit wC_block wO_cons' wO_nil wantedA wV_eq lop qop ev wL_some wL_none wPut envOf rd_set rd_leaf eqA thenC blockC wB_true wB_false endF unwindA resultsA resA tupleA rdCell rdCells wrCells cl fillP lay rep binA unA get_set' AHeap.get_alloc oneCell

theorem yes_ok (A : AHeap) (Q : Value → AHeap → Prop) (hq : Q (.bool true) A) : wF T (.func (.func 6) #[] #[]) [] A Q := by
  refine wF_func (first := []) (captured := []) t6 ⟨rfl, by decide⟩ ?_
  dsimp only [sayYes]; simp [hq]

theorem isnan_ok (n : Int) (A : AHeap) (Q : Value → AHeap → Prop) (hq : Q (.bool false) A) : wF T (.func (.func 27) #[] #[]) [.int .i64 n] A Q := by
  refine wF_func (first := []) (captured := []) t27 ⟨rfl, by decide⟩ ?_
  dsimp only [c27]; simp
  exact hq

def cmpI (a b : Int) : Int := if a < b then -1 else if b < a then 1 else 0

theorem compare_ok (a b : Int) (A : AHeap) (Q : Value → AHeap → Prop) (hq : Q (.int .i64 (cmpI a b)) A) : wF T (.func (.func 18) #[] #[]) [.int .i64 a, .int .i64 b] A Q := by
  refine wF_func (first := []) (captured := []) t18 ⟨rfl, by decide⟩ ?_
  dsimp only [c18]; simp
  refine isnan_ok _ _ _ ?_
  simp
  refine isnan_ok _ _ _ ?_
  unfold cmpI at hq
  by_cases h1 : a < b
  · rw [if_pos h1] at hq; simp [h1]; exact hq
  · rw [if_neg h1] at hq
    by_cases h2 : b < a
    · rw [if_pos h2] at hq; simp [h1, h2]; exact hq
    · rw [if_neg h2] at hq; simp [h1, h2]; exact hq

theorem or_ok (u v : Int) (d : Nat) (A : AHeap) (Q : Value → AHeap → Prop) (h : A.get d = some (.cells [.int .i64 u, .int .i64 v] false 0)) (hq : Q (.int .i64 (if u = 0 then v else u)) A) : wF T (.func (.func 17) #[] #[]) [.slice (some ⟨d, 0, none⟩) 2 2] A Q := by
  refine wF_func (first := []) (captured := []) t17 ⟨rfl, by decide⟩ ?_
  dsimp only [c17]
  have w1 : IntKind.i64.wrap 1 = 1 := IntWalk.i64_in _ (by omega)
  have w2 : IntKind.i64.wrap 2 = 2 := IntWalk.i64_in _ (by omega)
  simp
  refine wC_loop ?_
  by_cases hu : u = 0
  · rw [if_pos hu] at hq
    have e1 : (u != 0) = false := by simp [hu]
    simp [h, idxA, e1, w1]
    refine wC_loop ?_
    by_cases hv : v = 0
    · have e2 : (v != 0) = false := by simp [hv]
      simp [h, idxA, e2, w2]
      refine wC_loop ?_
      simp
      rw [hv] at hq
      exact hq
    · have e2 : (v != 0) = true := by simp [hv]
      simp [h, idxA, e2]
      exact hq
  · rw [if_neg hu] at hq
    have e1 : (u != 0) = true := by simp [hu]
    simp [h, idxA, e1]
    exact hq

def cmpL (x y : La) : Int := if cmpI x.flight y.flight = 0 then cmpI x.path y.path else cmpI x.flight y.flight
theorem cmpL_less (x y : La) : decide (cmpL x y < 0) = less x y := by
  unfold cmpL cmpI less
  by_cases h1 : x.flight < y.flight
  · simp [h1]
  · by_cases h2 : y.flight < x.flight
    · have : ¬ x.flight = y.flight := by omega
      simp [h1, h2, this]
    · have h3 : x.flight = y.flight := by omega
      by_cases h4 : x.path < y.path
      · simp [h3, h4]
      · by_cases h5 : y.path < x.path
        · simp [h3, h4, h5]
        · simp [h3, h4, h5]

theorem cmp_ok (x y : La) (A : AHeap) (Q : Value → AHeap → Prop) (hq : ∀ A', Ext NoB A A' → Q (.int .i64 (cmpL x y)) A') : wF T (.func (.func 16) #[] #[]) [.agg ⟨x.cells⟩, .agg ⟨y.cells⟩] A Q := by
  refine wF_func (first := []) (captured := []) t16 ⟨rfl, by decide⟩ ?_
  dsimp only [c16]
  simp [La.cells]
  refine wC_opsD_chk ?_
  generalize hH : AHeap.alloc (AHeap.alloc A _) _ = H
  have eH : Ext NoB A H := by rw [← hH]; exact Ext.alloc.trans Ext.alloc
  have zH : H.size = A.size + 2 := by rw [← hH]; rfl
  have g1 : H.get A.size = some (.cells [.int .i64 x.path, .bool x.up, .bool x.backup, .int .i64 x.flight] false 0) := by rw [← hH]; simp
  have g2 : H.get (A.size + 1) = some (.cells [.int .i64 y.path, .bool y.up, .bool y.backup, .int .i64 y.flight] false 0) := by rw [← hH]; simp
  simp [g1, g2]
  refine compare_ok _ _ _ _ ?_
  simp [g1, g2]
  refine compare_ok _ _ _ _ ?_
  simp [g1, g2]
  refine or_ok _ _ H.size _ _ (get_alloc_top rfl) ?_
  simp
  refine wE_intro ?_ ?_
  · simp only [List.all_cons, List.all_nil, chkOk, List.nil_append, List.cons_append, List.getElem?_cons_succ, List.getElem?_cons_zero]
    simp [Bx, g1, g2, vbeq]
  · simp
    exact hq _ (eH.trans Ext.alloc)

theorem pick1_ok (x : La) (b : Nat) (limit : Int) (A : AHeap) (Q : Value → AHeap → Prop) (h : A.get b = some (.cells [.int .i64 limit] false 0)) (hq : ∀ A', Ext NoB A A' → Q (.bool (x.up && !x.backup && decide (x.flight < limit))) A') : wF T (.func (.func 12) ⟨[]⟩ ⟨[.pointer (some ⟨b, 0, none⟩)]⟩) [.agg ⟨x.cells⟩] A Q := by
  refine wF_func t12 ⟨rfl, by decide⟩ ?_
  dsimp only [c12]
  have nb : b ≠ A.size := by have := AHeap.get_lt h; omega
  have hq' := hq _ (Ext.alloc (x := .cells x.cells false 0))
  obtain ⟨p, up, bk, fl⟩ := x
  cases up <;> cases bk <;> (simp [La.cells, h, nb, nb.symm, undef]; simpa [La.cells] using hq')

theorem pick2_ok (x : La) (b f : Nat) (limit : Int) (first : Bool) (A : AHeap) (Q : Value → AHeap → Prop) (h : A.get b = some (.cells [.int .i64 limit] false 0)) (hf : A.get f = some (.cells [.bool first] false 0)) (hq : ∀ A', Ext NoB A A' → Q (.bool (x.up && decide (x.flight < limit) && !(first && x.backup))) A') : wF T (.func (.func 14) ⟨[]⟩ ⟨[.pointer (some ⟨b, 0, none⟩), .pointer (some ⟨f, 0, none⟩)]⟩) [.agg ⟨x.cells⟩] A Q := by
  refine wF_func t14 ⟨rfl, by decide⟩ ?_
  dsimp only [c14]
  have nb : b ≠ A.size := by have := AHeap.get_lt h; omega
  have nf : f ≠ A.size := by have := AHeap.get_lt hf; omega
  have hq' := hq _ (Ext.alloc (x := .cells x.cells false 0))
  obtain ⟨p, up, bk, fl⟩ := x
  by_cases hl : fl < limit
  · cases up <;> cases bk <;> cases first <;> (simp [La.cells, h, hf, nb, nb.symm, nf, nf.symm, hl, undef]; simpa [La.cells, hl] using hq')
  · cases up <;> cases bk <;> cases first <;> (simp [La.cells, h, hf, nb, nb.symm, nf, nf.symm, hl, undef]; simpa [La.cells, hl] using hq')
end Go.Proofs.Ytbhhmnokddkhmaa
