import GoSem.Step
import Derived.Calls
import Derived.KernelRfl
namespace Go.AS
open Go
set_option linter.unusedSimpArgs false
set_option linter.unusedVariables false

/-! ## A tree of values by number (kernel friendly) -/
inductive Trie (α : Type) where
  | leaf
  | node (l : Trie α) (v : Option α) (r : Trie α)

namespace Trie
variable {α : Type}
def get : Trie α → Nat → Option α
  | .leaf, _ => none
  | .node l v r, k => if k = 0 then v else if k % 2 = 1 then l.get (k / 2) else r.get (k / 2 - 1)

def setAux (x : α) : Nat → Nat → Trie α → Trie α
  | 0, _, t => t
  | n + 1, k, .leaf => if k = 0 then .node .leaf (some x) .leaf else if k % 2 = 1 then .node (setAux x n (k / 2) .leaf) none .leaf else .node .leaf none (setAux x n (k / 2 - 1) .leaf)
  | n + 1, k, .node l v r => if k = 0 then .node l (some x) r else if k % 2 = 1 then .node (setAux x n (k / 2) l) v r else .node l v (setAux x n (k / 2 - 1) r)

def set (t : Trie α) (k : Nat) (x : α) : Trie α := setAux x (k + 1) k t

theorem get_leaf (k : Nat) : (Trie.leaf : Trie α).get k = none := by simp [get]

theorem get_setAux (x : α) (n : Nat) : ∀ (k j : Nat) (t : Trie α), k < n → (setAux x n k t).get j = if j = k then some x else t.get j := by
  induction n with
  | zero => intro k j t h; omega
  | succ n ih =>
    intro k j t h
    cases t with
    | leaf =>
      simp only [setAux]
      by_cases hk : k = 0
      · subst hk; simp only [if_true, get]
        by_cases hj : j = 0 <;> simp [hj, get_leaf]
      · by_cases h2 : k % 2 = 1
        · simp only [hk, if_false, h2, if_true, get]
          by_cases hj : j = 0
          · subst hj; simp; omega
          · by_cases hj2 : j % 2 = 1
            · simp only [hj, if_false, hj2, if_true]; rw [ih _ _ _ (by omega)]
              by_cases e : j / 2 = k / 2
              · rw [if_pos e, if_pos (by omega)]
              · rw [if_neg e, if_neg (by omega)]; simp [get_leaf]
            · simp only [hj, if_false, hj2, get_leaf]; rw [if_neg (by omega)]
        · simp only [hk, if_false, h2, get]
          by_cases hj : j = 0
          · subst hj; simp; omega
          · by_cases hj2 : j % 2 = 1
            · simp only [hj, if_false, hj2, if_true, get_leaf]; rw [if_neg (by omega)]
            · simp only [hj, if_false, hj2]; rw [ih _ _ _ (by omega)]
              by_cases e : j / 2 - 1 = k / 2 - 1
              · rw [if_pos e, if_pos (by omega)]
              · rw [if_neg e, if_neg (by omega)]; simp [get_leaf]
    | node l v r =>
      simp only [setAux]
      by_cases hk : k = 0
      · subst hk; simp only [if_true, get]
        by_cases hj : j = 0 <;> simp [hj]
      · by_cases h2 : k % 2 = 1
        · simp only [hk, if_false, h2, if_true, get]
          by_cases hj : j = 0
          · subst hj; simp; omega
          · by_cases hj2 : j % 2 = 1
            · simp only [hj, if_false, hj2, if_true]; rw [ih _ _ _ (by omega)]
              by_cases e : j / 2 = k / 2
              · rw [if_pos e, if_pos (by omega)]
              · rw [if_neg e, if_neg (by omega)]
            · simp only [hj, if_false, hj2]; rw [if_neg (by omega)]
        · simp only [hk, if_false, h2, get]
          by_cases hj : j = 0
          · subst hj; simp; omega
          · by_cases hj2 : j % 2 = 1
            · simp only [hj, if_false, hj2, if_true]; rw [if_neg (by omega)]
            · simp only [hj, if_false, hj2]; rw [ih _ _ _ (by omega)]
              by_cases e : j / 2 - 1 = k / 2 - 1
              · rw [if_pos e, if_pos (by omega)]
              · rw [if_neg e, if_neg (by omega)]

theorem get_set (t : Trie α) (k j : Nat) (x : α) : (t.set k x).get j = if j = k then some x else t.get j :=
  get_setAux x (k + 1) k j t (by omega)
end Trie

/-! ## The renaming: a block of ours, and the machine's block -/
structure REnt where
  cb : Nat
  base : Nat
  room : Nat
  esz : Nat

abbrev Ren := Nat → Option REnt

/-- The capacity of a slice whose capacity is left open. -/
def OPEN : Nat := 18446744073709551616
/-- .. of one that begins behind the last element that is known of. -/
def ENDCAP : Nat := 18446744073709551617

mutual
inductive VR (ρ : Ren) : Value → Value → Prop
  | bool (b : Bool) : VR ρ (.bool b) (.bool b)
  | int (k : IntKind) (n : Int) : VR ρ (.int k n) (.int k n)
  | float (k : FloatKind) (n : Nat) : VR ρ (.float k n) (.float k n)
  | string (s : ByteArray) : VR ρ (.string s) (.string s)
  | nilp : VR ρ (.pointer none) (.pointer none)
  | ptr (b o : Nat) (e : REnt) : ρ b = some e → VR ρ (.pointer (some ⟨b, o, none⟩)) (.pointer (some ⟨e.cb, e.base + o, none⟩))
  | nils : VR ρ (.slice none 0 0) (.slice none 0 0)
  | slice (b o len cap : Nat) (e : REnt) : ρ b = some e → cap < OPEN → len ≤ cap → VR ρ (.slice (some ⟨b, o, none⟩) len cap) (.slice (some ⟨e.cb, e.base + o, none⟩) len cap)
  | sliceOpen (b o len q : Nat) (e : REnt) : ρ b = some e → o = q * e.esz → q + len ≤ e.room → VR ρ (.slice (some ⟨b, o, none⟩) len OPEN) (.slice (some ⟨e.cb, e.base + o, none⟩) len (e.room - q))
  | sliceEnd (b o x c q : Nat) (e : REnt) : ρ b = some e → o = q * e.esz → q ≤ e.room → (c = 0 ∨ (x = e.base + o ∧ c = e.room - q)) → VR ρ (.slice (some ⟨b, o, none⟩) 0 ENDCAP) (.slice (some ⟨e.cb, x, none⟩) 0 c)
  | nilm : VR ρ (.map none) (.map none)
  | map (b : Nat) (e : REnt) : ρ b = some e → VR ρ (.map (some b)) (.map (some e.cb))
  | nilFunc : VR ρ .nilFunc .nilFunc
  | func (f : FuncId) (first first' captured captured' : List Value) : VRs ρ first first' → VRs ρ captured captured' →
      VR ρ (.func (.func f) ⟨first⟩ ⟨captured⟩) (.func (.func f) ⟨first'⟩ ⟨captured'⟩)
  | yield (l : Nat) (e : REnt) : ρ l = some e → VR ρ (.func (.yield l) #[] #[]) (.func (.yield e.cb) #[] #[])
  | nilIface : VR ρ .nilIface .nilIface
  | iface (t : TypeId) (v v' : Value) : VR ρ v v' → VR ρ (.iface t v) (.iface t v')
  | agg (cs cs' : List Value) : VRs ρ cs cs' → VR ρ (.agg ⟨cs⟩) (.agg ⟨cs'⟩)
  | tuple (cs cs' : List Value) : VRs ρ cs cs' → VR ρ (.tuple ⟨cs⟩) (.tuple ⟨cs'⟩)
inductive VRs (ρ : Ren) : List Value → List Value → Prop
  | nil : VRs ρ [] []
  | cons (v v' : Value) (l l' : List Value) : VR ρ v v' → VRs ρ l l' → VRs ρ (v :: l) (v' :: l')
end

def Ren.le (ρ ρ' : Ren) : Prop := ∀ b e, ρ b = some e → ρ' b = some e

theorem Ren.le_refl (ρ : Ren) : Ren.le ρ ρ := fun _ _ h => h
theorem Ren.le_trans {ρ ρ' ρ'' : Ren} (h : Ren.le ρ ρ') (h' : Ren.le ρ' ρ'') : Ren.le ρ ρ'' := fun b e x => h' b e (h b e x)

mutual
theorem VR.mono {ρ ρ' : Ren} (h : Ren.le ρ ρ') {v v' : Value} : VR ρ v v' → VR ρ' v v'
  | .bool b => .bool b
  | .int k n => .int k n
  | .float k n => .float k n
  | .string s => .string s
  | .nilp => .nilp
  | .ptr b o e he => .ptr b o e (h _ _ he)
  | .nils => .nils
  | .slice b o len cap e he hc hl => .slice b o len cap e (h _ _ he) hc hl
  | .sliceOpen b o len q e he hq hr => .sliceOpen b o len q e (h _ _ he) hq hr
  | .sliceEnd b o x c q e he hq hr hc => .sliceEnd b o x c q e (h _ _ he) hq hr hc
  | .nilm => .nilm
  | .map b e he => .map b e (h _ _ he)
  | .nilFunc => .nilFunc
  | .func f _ _ _ _ h1 h2 => .func f _ _ _ _ (VRs.mono h h1) (VRs.mono h h2)
  | .yield l e he => .yield l e (h _ _ he)
  | .nilIface => .nilIface
  | .iface t _ _ hv => .iface t _ _ (VR.mono h hv)
  | .agg _ _ hc => .agg _ _ (VRs.mono h hc)
  | .tuple _ _ hc => .tuple _ _ (VRs.mono h hc)
theorem VRs.mono {ρ ρ' : Ren} (h : Ren.le ρ ρ') {l l' : List Value} : VRs ρ l l' → VRs ρ' l l'
  | .nil => .nil
  | .cons _ _ _ _ hv hl => .cons _ _ _ _ (VR.mono h hv) (VRs.mono h hl)
end

theorem VRs.length {ρ : Ren} {l l' : List Value} (h : VRs ρ l l') : l'.length = l.length := by
  induction l generalizing l' with
  | nil => cases h; rfl
  | cons v l ih => cases h with | cons _ _ _ _ _ h => simp [ih h]

theorem VRs.get {ρ : Ren} {l l' : List Value} (h : VRs ρ l l') {i : Nat} {v : Value} (hv : l[i]? = some v) : ∃ v', l'[i]? = some v' ∧ VR ρ v v' := by
  induction l generalizing l' i with
  | nil => simp at hv
  | cons x l ih =>
    cases h with
    | cons _ v' _ l2 hx h =>
      cases i with
      | zero => simp at hv; subst hv; exact ⟨v', rfl, hx⟩
      | succ i => simp at hv; simpa using ih h hv

theorem VRs.of_get {ρ : Ren} {l l' : List Value} (hl : l'.length = l.length) (h : ∀ (i : Nat) (v v' : Value), l[i]? = some v → l'[i]? = some v' → VR ρ v v') : VRs ρ l l' := by
  induction l generalizing l' with
  | nil => cases l' with | nil => exact .nil | cons _ _ => simp at hl
  | cons x l ih =>
    cases l' with
    | nil => simp at hl
    | cons y l' =>
      exact .cons _ _ _ _ (h 0 x y rfl rfl) (ih (by simpa using hl) fun i v v' hv hv' => h (i + 1) v v' (by simpa using hv) (by simpa using hv'))

theorem VRs.append {ρ : Ren} {a a' b b' : List Value} (h : VRs ρ a a') (k : VRs ρ b b') : VRs ρ (a ++ b) (a' ++ b') := by
  induction a generalizing a' with
  | nil => cases h; exact k
  | cons x a ih => cases h with | cons _ _ _ _ hx h => exact .cons _ _ _ _ hx (ih h)

theorem VRs.take {ρ : Ren} {l l' : List Value} (h : VRs ρ l l') (n : Nat) : VRs ρ (l.take n) (l'.take n) := by
  induction l generalizing l' n with
  | nil => cases h; simpa using .nil
  | cons x l ih =>
    cases h with
    | cons _ _ _ _ hx h => cases n with | zero => simpa using .nil | succ n => exact .cons _ _ _ _ hx (ih h n)

theorem VRs.drop {ρ : Ren} {l l' : List Value} (h : VRs ρ l l') (n : Nat) : VRs ρ (l.drop n) (l'.drop n) := by
  induction l generalizing l' n with
  | nil => cases h; simpa using .nil
  | cons x l ih =>
    cases h with
    | cons _ _ _ _ hx h2 => cases n with | zero => exact .cons _ _ _ _ hx h2 | succ n => simpa using ih h2 n

theorem VRs.set {ρ : Ren} {l l' : List Value} (h : VRs ρ l l') (i : Nat) {v v' : Value} (hv : VR ρ v v') : VRs ρ (l.set i v) (l'.set i v') := by
  induction l generalizing l' i with
  | nil => cases h; simpa using .nil
  | cons x l ih =>
    cases h with
    | cons _ _ _ _ hx h2 => cases i with | zero => exact .cons _ _ _ _ hv h2 | succ i => simpa using .cons _ _ _ _ hx (ih h2 i)

/-- The cells of a value. -/
def cl : Value → List Value
  | .agg cs => cs.toList
  | v => [v]

theorem cl_cells (v : Value) : v.cells.toList = cl v := by cases v <;> rfl
theorem cells_cl (v : Value) : v.cells = ⟨cl v⟩ := by cases v <;> rfl

theorem VR.cl {ρ : Ren} {v v' : Value} (h : VR ρ v v') : VRs ρ (cl v) (cl v') := by
  cases h <;> first | (simp only [AS.cl]; assumption) | exact .cons _ _ _ _ (by constructor <;> assumption) .nil

end Go.AS
