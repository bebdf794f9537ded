/- Words of stage 25. -/
import Derived.Test.YtbhhmnokddkhmaaSa
import Derived.KernelRfl
namespace Go.Proofs.Ytbhhmnokddkhmaa
open Go Go.AS
set_option maxRecDepth 100000
set_option linter.unusedSimpArgs false
set_option linter.unusedVariables false
attribute [local irreducible] Trie.set Trie.get Env.rd
attribute [local simp] Nat.add_assoc wD_cons'' wD_nil' wC_seq wC_ops wC_opsD_nil wC_cond wC_skip wC_ret wC_exit wC_block wO_cons' wO_nil wantedA wV_eq lop qop ev wL_some wL_none wPut envOf rd_set rd_leaf eqA thenC blockC wB_true wB_false endF unwindA resultsA resA tupleA rdCell rdCells wrCells cl fillP lay rep binA unA get_set' AHeap.get_alloc oneCell

theorem wrap_nat (n : Nat) (h : n < 9000000000000000000) : IntKind.i64.wrap (n : Int) = n := IntWalk.i64_in _ (by omega)
theorem wrap_succ (n : Nat) (h : n < 9000000000000000000) : IntKind.i64.wrap ((n : Int) + 1) = ((n + 1 : Nat) : Int) := by
  rw [show ((n : Int) + 1) = ((n + 1 : Nat) : Int) by omega]; exact IntWalk.i64_in _ (by omega)

theorem take4 {bs : List Value} {k : Nat} {a b c d : Value} (h : (bs.drop k).take 4 = [a, b, c, d]) : bs[k]? = some a ∧ bs[k + 1]? = some b ∧ bs[k + 2]? = some c ∧ bs[k + 3]? = some d := by
  have f : ∀ i, i < 4 → bs[k + i]? = [a, b, c, d][i]? := fun i hi => by
    rw [← h, List.getElem?_take_of_lt hi, List.getElem?_drop]
  exact ⟨f 0 (by decide), f 1 (by decide), f 2 (by decide), f 3 (by decide)⟩

/-- A lane. -/
structure La where
  path : Int
  up : Bool
  backup : Bool
  flight : Int

def La.cells (x : La) : List Value := [.int .i64 x.path, .bool x.up, .bool x.backup, .int .i64 x.flight]
def lcells (l : List La) : List Value := l.flatMap La.cells

theorem lcells_len (l : List La) : (lcells l).length = l.length * 4 := by
  induction l with
  | nil => rfl
  | cons p l ih => simp only [lcells, La.cells, List.flatMap_cons, List.length_append, List.length_cons, List.length_nil] at ih ⊢; omega
theorem lcells_at (l : List La) (i : Nat) (hi : i < l.length) : ((lcells l).drop (i * 4)).take 4 = [.int .i64 l[i].path, .bool l[i].up, .bool l[i].backup, .int .i64 l[i].flight] := by
  induction l generalizing i with
  | nil => simp at hi
  | cons p l ih =>
    cases i with
    | zero => simp [lcells, La.cells]
    | succ i =>
      have := ih i (by simpa using hi)
      rw [show (i + 1) * 4 = 4 + i * 4 by omega, ← List.drop_drop]
      simpa [lcells, La.cells] using this
theorem lcells_one (l : List La) : (lcells l).all oneCell = true := by
  induction l with
  | nil => rfl
  | cons p l ih => simp only [lcells, List.flatMap_cons, List.all_append] at ih ⊢; rw [ih]; rfl
theorem lcells_take (l : List La) (k : Nat) : (lcells l).take (k * 4) = lcells (l.take k) := by
  induction l generalizing k with
  | nil => simp [lcells]
  | cons p l ih =>
    cases k with
    | zero => simp [lcells]
    | succ k =>
      have := ih k
      rw [show (k + 1) * 4 = k * 4 + 4 by omega]
      simp only [lcells, La.cells, List.flatMap_cons, List.take_succ_cons, List.cons_append, List.nil_append] at this ⊢
      rw [this]
theorem lcells_set (l : List La) (i : Nat) (hi : i < l.length) (n : Int) : (lcells l).set (i * 4) (.int .i64 n) = lcells (l.set i { l[i] with path := n }) := by
  induction l generalizing i with
  | nil => simp at hi
  | cons p l ih =>
    cases i with
    | zero => simp [lcells, La.cells]
    | succ i =>
      have := ih i (by simpa using hi)
      rw [show (i + 1) * 4 = (i * 4) + 4 by omega]
      simp only [lcells, La.cells, List.flatMap_cons, List.cons_append, List.nil_append, List.set_cons_succ, List.getElem_cons_succ] at this ⊢
      rw [this]

/-! ## The least -/
def less (a b : La) : Bool := decide (a.flight < b.flight) || (decide (a.flight = b.flight) && decide (a.path < b.path))
def bst : Option La → La → Option La
  | none, y => some y
  | some x, y => if less y x then some y else some x
def least (l : List La) : Option La := l.foldl bst none

theorem least_snoc (l : List La) (y : La) : least (l ++ [y]) = bst (least l) y := by simp [least]

theorem less_trans {a b c : La} (h : less a b = false) (k : less b c = false) : less a c = false := by
  simp only [less, Bool.or_eq_false_iff, Bool.and_eq_false_iff, decide_eq_false_iff_not] at *
  omega
theorem less_flip {a b : La} (h : less a b = true) : less b a = false := by
  simp only [less, Bool.or_eq_true, Bool.and_eq_true, decide_eq_true_eq, Bool.or_eq_false_iff, Bool.and_eq_false_iff, decide_eq_false_iff_not] at *
  omega
theorem less_self (a : La) : less a a = false := by simp [less]

theorem least_spec : ∀ (n : Nat) (l : List La), l.length = n → (least l = none → l = []) ∧ ∀ x, least l = some x → x ∈ l ∧ ∀ y ∈ l, less y x = false := by
  intro n
  induction n with
  | zero => intro l h; have : l = [] := List.length_eq_zero_iff.1 h; subst this; exact ⟨fun _ => rfl, fun x hx => by simp [least] at hx⟩
  | succ n ih =>
    intro l h
    have hne : l ≠ [] := fun q => by rw [q] at h; simp at h
    obtain ⟨l', y, rfl⟩ : ∃ l' y, l = l' ++ [y] := ⟨l.dropLast, l.getLast hne, (List.dropLast_concat_getLast hne).symm⟩
    obtain ⟨i1, i2⟩ := ih l' (by simpa using h)
    rw [least_snoc]
    cases hl : least l' with
    | none =>
      rw [i1 hl]
      refine ⟨fun q => by simp [bst] at q, fun x hx => ?_⟩
      simp [bst] at hx
      subst hx
      refine ⟨by simp, fun z hz => ?_⟩
      simp at hz; subst hz; exact less_self _
    | some x =>
      obtain ⟨m1, m2⟩ := i2 x hl
      refine ⟨fun q => (by simp only [bst] at q; split at q <;> cases q), fun w hw => ?_⟩
      simp only [bst] at hw
      split at hw
      · rename_i hyx
        cases hw
        refine ⟨by simp, fun z hz => ?_⟩
        rcases List.mem_append.1 hz with q | q
        · exact less_trans (m2 z q) (less_flip hyx)
        · simp at q; subst q; exact less_self _
      · rename_i hyx
        cases hw
        refine ⟨by simp [m1], fun z hz => ?_⟩
        rcases List.mem_append.1 hz with q | q
        · exact m2 z q
        · simp at q; subst q; simpa using hyx
end Go.Proofs.Ytbhhmnokddkhmaa
