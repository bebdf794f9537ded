/- Words for stating and walking programs: texts of this claim, one behind the other. -/
import GoSem.Step
import Derived.Calls
import Derived.KernelRfl
import GoSem.Op.Equal
import Derived.Laws.Strings
import Derived.ChangeKeysEq
import Derived.Laws.StructEq
section
namespace Go.AS
open Go
set_option linter.unusedSimpArgs false
set_option linter.unusedVariables false

/-! ## A tree of values by number (kernel friendly) -/
inductive Trie (α : Type) where
  | leaf
  | node (l : Trie α) (v : Option α) (r : Trie α)

namespace Trie
variable {α : Type}
def get : Trie α → Nat → Option α
  | .leaf, _ => none
  | .node l v r, k => if k = 0 then v else if k % 2 = 1 then l.get (k / 2) else r.get (k / 2 - 1)

def setAux (x : α) : Nat → Nat → Trie α → Trie α
  | 0, _, t => t
  | n + 1, k, .leaf => if k = 0 then .node .leaf (some x) .leaf else if k % 2 = 1 then .node (setAux x n (k / 2) .leaf) none .leaf else .node .leaf none (setAux x n (k / 2 - 1) .leaf)
  | n + 1, k, .node l v r => if k = 0 then .node l (some x) r else if k % 2 = 1 then .node (setAux x n (k / 2) l) v r else .node l v (setAux x n (k / 2 - 1) r)

def set (t : Trie α) (k : Nat) (x : α) : Trie α := setAux x (k + 1) k t

theorem get_leaf (k : Nat) : (Trie.leaf : Trie α).get k = none := by simp [get]

theorem get_setAux (x : α) (n : Nat) : ∀ (k j : Nat) (t : Trie α), k < n → (setAux x n k t).get j = if j = k then some x else t.get j := by
  induction n with
  | zero => intro k j t h; omega
  | succ n ih =>
    intro k j t h
    cases t with
    | leaf =>
      simp only [setAux]
      by_cases hk : k = 0
      · subst hk; simp only [if_true, get]
        by_cases hj : j = 0 <;> simp [hj, get_leaf]
      · by_cases h2 : k % 2 = 1
        · simp only [hk, if_false, h2, if_true, get]
          by_cases hj : j = 0
          · subst hj; simp; omega
          · by_cases hj2 : j % 2 = 1
            · simp only [hj, if_false, hj2, if_true]; rw [ih _ _ _ (by omega)]
              by_cases e : j / 2 = k / 2
              · rw [if_pos e, if_pos (by omega)]
              · rw [if_neg e, if_neg (by omega)]; simp [get_leaf]
            · simp only [hj, if_false, hj2, get_leaf]; rw [if_neg (by omega)]
        · simp only [hk, if_false, h2, get]
          by_cases hj : j = 0
          · subst hj; simp; omega
          · by_cases hj2 : j % 2 = 1
            · simp only [hj, if_false, hj2, if_true, get_leaf]; rw [if_neg (by omega)]
            · simp only [hj, if_false, hj2]; rw [ih _ _ _ (by omega)]
              by_cases e : j / 2 - 1 = k / 2 - 1
              · rw [if_pos e, if_pos (by omega)]
              · rw [if_neg e, if_neg (by omega)]; simp [get_leaf]
    | node l v r =>
      simp only [setAux]
      by_cases hk : k = 0
      · subst hk; simp only [if_true, get]
        by_cases hj : j = 0 <;> simp [hj]
      · by_cases h2 : k % 2 = 1
        · simp only [hk, if_false, h2, if_true, get]
          by_cases hj : j = 0
          · subst hj; simp; omega
          · by_cases hj2 : j % 2 = 1
            · simp only [hj, if_false, hj2, if_true]; rw [ih _ _ _ (by omega)]
              by_cases e : j / 2 = k / 2
              · rw [if_pos e, if_pos (by omega)]
              · rw [if_neg e, if_neg (by omega)]
            · simp only [hj, if_false, hj2]; rw [if_neg (by omega)]
        · simp only [hk, if_false, h2, get]
          by_cases hj : j = 0
          · subst hj; simp; omega
          · by_cases hj2 : j % 2 = 1
            · simp only [hj, if_false, hj2, if_true]; rw [if_neg (by omega)]
            · simp only [hj, if_false, hj2]; rw [ih _ _ _ (by omega)]
              by_cases e : j / 2 - 1 = k / 2 - 1
              · rw [if_pos e, if_pos (by omega)]
              · rw [if_neg e, if_neg (by omega)]

theorem get_set (t : Trie α) (k j : Nat) (x : α) : (t.set k x).get j = if j = k then some x else t.get j :=
  get_setAux x (k + 1) k j t (by omega)
end Trie

/-! ## The renaming: a block of ours, and the machine's block -/
structure REnt where
  cb : Nat
  base : Nat
  room : Nat
  esz : Nat

abbrev Ren := Nat → Option REnt

/-- The capacity of a slice whose capacity is left open. -/
def OPEN : Nat := 18446744073709551616
/-- .. of one that begins behind the last element that is known of. -/
def ENDCAP : Nat := 18446744073709551617

mutual
inductive VR (ρ : Ren) : Value → Value → Prop
  | bool (b : Bool) : VR ρ (.bool b) (.bool b)
  | int (k : IntKind) (n : Int) : VR ρ (.int k n) (.int k n)
  | float (k : FloatKind) (n : Nat) : VR ρ (.float k n) (.float k n)
  | string (s : ByteArray) : VR ρ (.string s) (.string s)
  | nilp : VR ρ (.pointer none) (.pointer none)
  | ptr (b o : Nat) (e : REnt) : ρ b = some e → VR ρ (.pointer (some ⟨b, o, none⟩)) (.pointer (some ⟨e.cb, e.base + o, none⟩))
  | nils : VR ρ (.slice none 0 0) (.slice none 0 0)
  | slice (b o len cap : Nat) (e : REnt) : ρ b = some e → cap < OPEN → len ≤ cap → VR ρ (.slice (some ⟨b, o, none⟩) len cap) (.slice (some ⟨e.cb, e.base + o, none⟩) len cap)
  | sliceOpen (b o len q : Nat) (e : REnt) : ρ b = some e → o = q * e.esz → q + len ≤ e.room → VR ρ (.slice (some ⟨b, o, none⟩) len OPEN) (.slice (some ⟨e.cb, e.base + o, none⟩) len (e.room - q))
  | sliceEnd (b o x c q : Nat) (e : REnt) : ρ b = some e → o = q * e.esz → q ≤ e.room → (c = 0 ∨ (x = e.base + o ∧ c = e.room - q)) → VR ρ (.slice (some ⟨b, o, none⟩) 0 ENDCAP) (.slice (some ⟨e.cb, x, none⟩) 0 c)
  | nilm : VR ρ (.map none) (.map none)
  | map (b : Nat) (e : REnt) : ρ b = some e → VR ρ (.map (some b)) (.map (some e.cb))
  | nilFunc : VR ρ .nilFunc .nilFunc
  | func (f : FuncId) (first first' captured captured' : List Value) : VRs ρ first first' → VRs ρ captured captured' →
      VR ρ (.func (.func f) ⟨first⟩ ⟨captured⟩) (.func (.func f) ⟨first'⟩ ⟨captured'⟩)
  | yield (l : Nat) (e : REnt) : ρ l = some e → VR ρ (.func (.yield l) #[] #[]) (.func (.yield e.cb) #[] #[])
  | nilIface : VR ρ .nilIface .nilIface
  | iface (t : TypeId) (v v' : Value) : VR ρ v v' → VR ρ (.iface t v) (.iface t v')
  | agg (cs cs' : List Value) : VRs ρ cs cs' → VR ρ (.agg ⟨cs⟩) (.agg ⟨cs'⟩)
  | tuple (cs cs' : List Value) : VRs ρ cs cs' → VR ρ (.tuple ⟨cs⟩) (.tuple ⟨cs'⟩)
inductive VRs (ρ : Ren) : List Value → List Value → Prop
  | nil : VRs ρ [] []
  | cons (v v' : Value) (l l' : List Value) : VR ρ v v' → VRs ρ l l' → VRs ρ (v :: l) (v' :: l')
end

def Ren.le (ρ ρ' : Ren) : Prop := ∀ b e, ρ b = some e → ρ' b = some e

theorem Ren.le_refl (ρ : Ren) : Ren.le ρ ρ := fun _ _ h => h
theorem Ren.le_trans {ρ ρ' ρ'' : Ren} (h : Ren.le ρ ρ') (h' : Ren.le ρ' ρ'') : Ren.le ρ ρ'' := fun b e x => h' b e (h b e x)

mutual
theorem VR.mono {ρ ρ' : Ren} (h : Ren.le ρ ρ') {v v' : Value} : VR ρ v v' → VR ρ' v v'
  | .bool b => .bool b
  | .int k n => .int k n
  | .float k n => .float k n
  | .string s => .string s
  | .nilp => .nilp
  | .ptr b o e he => .ptr b o e (h _ _ he)
  | .nils => .nils
  | .slice b o len cap e he hc hl => .slice b o len cap e (h _ _ he) hc hl
  | .sliceOpen b o len q e he hq hr => .sliceOpen b o len q e (h _ _ he) hq hr
  | .sliceEnd b o x c q e he hq hr hc => .sliceEnd b o x c q e (h _ _ he) hq hr hc
  | .nilm => .nilm
  | .map b e he => .map b e (h _ _ he)
  | .nilFunc => .nilFunc
  | .func f _ _ _ _ h1 h2 => .func f _ _ _ _ (VRs.mono h h1) (VRs.mono h h2)
  | .yield l e he => .yield l e (h _ _ he)
  | .nilIface => .nilIface
  | .iface t _ _ hv => .iface t _ _ (VR.mono h hv)
  | .agg _ _ hc => .agg _ _ (VRs.mono h hc)
  | .tuple _ _ hc => .tuple _ _ (VRs.mono h hc)
theorem VRs.mono {ρ ρ' : Ren} (h : Ren.le ρ ρ') {l l' : List Value} : VRs ρ l l' → VRs ρ' l l'
  | .nil => .nil
  | .cons _ _ _ _ hv hl => .cons _ _ _ _ (VR.mono h hv) (VRs.mono h hl)
end

theorem VRs.length {ρ : Ren} {l l' : List Value} (h : VRs ρ l l') : l'.length = l.length := by
  induction l generalizing l' with
  | nil => cases h; rfl
  | cons v l ih => cases h with | cons _ _ _ _ _ h => simp [ih h]

theorem VRs.get {ρ : Ren} {l l' : List Value} (h : VRs ρ l l') {i : Nat} {v : Value} (hv : l[i]? = some v) : ∃ v', l'[i]? = some v' ∧ VR ρ v v' := by
  induction l generalizing l' i with
  | nil => simp at hv
  | cons x l ih =>
    cases h with
    | cons _ v' _ l2 hx h =>
      cases i with
      | zero => simp at hv; subst hv; exact ⟨v', rfl, hx⟩
      | succ i => simp at hv; simpa using ih h hv

theorem VRs.of_get {ρ : Ren} {l l' : List Value} (hl : l'.length = l.length) (h : ∀ (i : Nat) (v v' : Value), l[i]? = some v → l'[i]? = some v' → VR ρ v v') : VRs ρ l l' := by
  induction l generalizing l' with
  | nil => cases l' with | nil => exact .nil | cons _ _ => simp at hl
  | cons x l ih =>
    cases l' with
    | nil => simp at hl
    | cons y l' =>
      exact .cons _ _ _ _ (h 0 x y rfl rfl) (ih (by simpa using hl) fun i v v' hv hv' => h (i + 1) v v' (by simpa using hv) (by simpa using hv'))

theorem VRs.append {ρ : Ren} {a a' b b' : List Value} (h : VRs ρ a a') (k : VRs ρ b b') : VRs ρ (a ++ b) (a' ++ b') := by
  induction a generalizing a' with
  | nil => cases h; exact k
  | cons x a ih => cases h with | cons _ _ _ _ hx h => exact .cons _ _ _ _ hx (ih h)

theorem VRs.take {ρ : Ren} {l l' : List Value} (h : VRs ρ l l') (n : Nat) : VRs ρ (l.take n) (l'.take n) := by
  induction l generalizing l' n with
  | nil => cases h; simpa using .nil
  | cons x l ih =>
    cases h with
    | cons _ _ _ _ hx h => cases n with | zero => simpa using .nil | succ n => exact .cons _ _ _ _ hx (ih h n)

theorem VRs.drop {ρ : Ren} {l l' : List Value} (h : VRs ρ l l') (n : Nat) : VRs ρ (l.drop n) (l'.drop n) := by
  induction l generalizing l' n with
  | nil => cases h; simpa using .nil
  | cons x l ih =>
    cases h with
    | cons _ _ _ _ hx h2 => cases n with | zero => exact .cons _ _ _ _ hx h2 | succ n => simpa using ih h2 n

theorem VRs.set {ρ : Ren} {l l' : List Value} (h : VRs ρ l l') (i : Nat) {v v' : Value} (hv : VR ρ v v') : VRs ρ (l.set i v) (l'.set i v') := by
  induction l generalizing l' i with
  | nil => cases h; simpa using .nil
  | cons x l ih =>
    cases h with
    | cons _ _ _ _ hx h2 => cases i with | zero => exact .cons _ _ _ _ hv h2 | succ i => simpa using .cons _ _ _ _ hx (ih h2 i)

/-- The cells of a value. -/
def cl : Value → List Value
  | .agg cs => cs.toList
  | v => [v]

theorem cl_cells (v : Value) : v.cells.toList = cl v := by cases v <;> rfl
theorem cells_cl (v : Value) : v.cells = ⟨cl v⟩ := by cases v <;> rfl

theorem VR.cl {ρ : Ren} {v v' : Value} (h : VR ρ v v') : VRs ρ (cl v) (cl v') := by
  cases h <;> first | (simp only [AS.cl]; assumption) | exact .cons _ _ _ _ (by constructor <;> assumption) .nil

end Go.AS
end

section
namespace Go.AS
open Go
set_option linter.unusedSimpArgs false
set_option linter.unusedVariables false

/-! ## The abstract code -/

/-- What is compared. -/
inductive EqK where
  | bool | ptr | slice | map | func | iface
  deriving Inhabited

/-- A cell that is compared by itself. -/
inductive LeafK where
  | b | i | s
  deriving Inhabited

/-- What an operation is, types looked up. -/
inductive AOp where
  | mov (x : Operand)
  | pick (c a b : Operand)
  | alloc (elem : TypeId) (zero : List Value)
  | box (elem : TypeId) (n : Nat) (x : Operand)
  | build (zero : List Value) (parts : List (Nat × Nat × Operand))
  | bslice (elem : TypeId) (len : Nat) (zero : List Value) (parts : List (Nat × Nat × Operand))
  | load1 (a : Operand)
  | loadN (n : Nat) (a : Operand)
  | store (n : Nat) (a x : Operand)
  | nilchk (x : Operand)
  | bin (op : BinOp) (x y : Operand)
  | eq (neg lit : Bool) (k : EqK) (x y : Operand)
  | eqF (neg : Bool) (l : List (Nat × LeafK)) (x y : Operand)
  | un (op : UnOp) (x : Operand)
  | cvInt (k : IntKind) (x : Operand)
  | cvStr (x : Operand)
  | cvS2B (elem : TypeId) (x : Operand)
  | cvB2S (x : Operand)
  | mkI (t : TypeId) (x : Operand)
  | tassert (t : TypeId) (x : Operand)
  | mkF (f : FuncId) (first captured : List Operand)
  | mkS (elem : TypeId) (size bytes : Nat) (zero : List Value) (l c : Operand)
  | sliceS (x : Operand) (lo hi : Option Operand)
  | sliceV (size : Nat) (x : Operand) (lo hi mx : Option Operand)
  | sliceA (n size : Nat) (x : Operand) (lo hi mx : Option Operand)
  | faddr (off : Nat) (x : Operand)
  | fld1 (off : Nat) (x : Operand)
  | fldN (off n : Nat) (x : Operand)
  | iaddrA (n size : Nat) (x i : Operand)
  | iaddrS (size : Nat) (x i : Operand)
  | idx1 (n size : Nat) (x i : Operand)
  | idxN (n size : Nat) (x i : Operand)
  | idxS (x i : Operand)
  | ext (x : Operand) (i : Nat)
  | lenS (x : Operand)
  | lenV (x : Operand)
  | lenC (n : Nat)
  | append (elem : TypeId) (size bytes : Nat) (s x : Operand)
  | copy (size : Nat) (d s : Operand)
  | clear (zero : List Value) (s : Operand)
  | mkMap (r : Option Operand)
  | mapPut (kk : IntKind) (m k x : Operand)
  | mapGet (kk : IntKind) (ok : Bool) (zero : Value) (m k : Operand)
  | mapDel (kk : IntKind) (m k : Operand)
  | spec2 (k : Nat) (ps : List Nat) (x y : Operand)
  | min (xs : List Operand)
  | max (xs : List Operand)
  | call (f : FuncId) (args : List Operand)
  | callv (f : Operand) (args : List Operand)
  deriving Inhabited

structure AOper where
  dst : Option Nat
  guard : Option (Nat × Bool)
  op : AOp
  deriving Inhabited

inductive ACode where
  | skip
  | ops (l : List AOper)
  | opsD (l : List AOper) (chk : List (Nat × Nat))
  | seq (a b : ACode)
  | cond (c : Operand) (a b : ACode)
  | block (id : Nat) (a : ACode)
  | loop (a : ACode)
  | exit (id : Nat)
  | ret
  | rangeFunc (f : Operand) (params : List Nat) (assign body : ACode)
  | guarded (fc : FuncId) (d nc r y : Nat) (clos inner : ACode)
  deriving Inhabited

/-! ## The abstract memory -/

abbrev Env := Trie Value

def Env.rd (e : Env) (t : Nat) : Value := (e.get t).getD undef

inductive ABlk where
  | cells (cs : List Value) (ro : Bool) (opn : Nat)
  | loop (state : LoopState) (pending : Option Code) (fn : FuncId) (n : Nat) (env : Env) (params : List Nat) (assign body : ACode) (defers : Nat)
  | dfr (taken : Bool)
  | map (kk : IntKind) (es : List (Int × Value × Nat)) (clock : Nat)
  | dead
  deriving Inhabited

structure AHeap where
  size : Nat
  m : Trie ABlk

namespace AHeap
def get (A : AHeap) (b : Nat) : Option ABlk := if b < A.size then A.m.get b else none
def set (A : AHeap) (b : Nat) (x : ABlk) : AHeap := ⟨A.size, A.m.set b x⟩
def alloc (A : AHeap) (x : ABlk) : AHeap := ⟨A.size + 1, A.m.set A.size x⟩
theorem get_lt {A : AHeap} {b : Nat} {x : ABlk} (h : A.get b = some x) : b < A.size := by
  unfold get at h; split at h
  · assumption
  · cases h
theorem get_set (A : AHeap) (b j : Nat) (x : ABlk) (h : b < A.size) : (A.set b x).get j = if j = b then some x else A.get j := by
  unfold get set
  simp only [Trie.get_set]
  by_cases hj : j = b
  · subst hj; rw [if_pos h, if_pos rfl, if_pos rfl]
  · rw [if_neg hj, if_neg hj]
theorem get_alloc (A : AHeap) (j : Nat) (x : ABlk) : (A.alloc x).get j = if j = A.size then some x else A.get j := by
  unfold get alloc
  simp only [Trie.get_set]
  by_cases hj : j = A.size
  · subst hj; rw [if_pos (by omega), if_pos rfl, if_pos rfl]
  · rw [if_neg hj, if_neg hj]
    by_cases h : j < A.size
    · rw [if_pos h, if_pos (by omega)]
    · rw [if_neg h, if_neg (by omega)]
theorem get_move (A : AHeap) (b j : Nat) (x y : ABlk) (h : b < A.size) : ((A.set b y).alloc x).get j = if j = A.size then some x else if j = b then some y else A.get j := by
  have h1 := get_alloc (A.set b y) j x
  rw [get_set _ _ _ _ h] at h1
  exact h1
@[simp] theorem size_set (A : AHeap) (b : Nat) (x : ABlk) : (A.set b x).size = A.size := rfl
@[simp] theorem size_alloc (A : AHeap) (x : ABlk) : (A.alloc x).size = A.size + 1 := rfl
end AHeap

/-- A block that nobody writes through. -/
def passive : Option ABlk → Prop
  | some (.cells _ true _) => True
  | some .dead => True
  | none => True
  | _ => False

/-- The code that a piece of ours stands for. -/
structure Comp where
  rel : Code → ACode → Prop
  gs : Nat
instance : CoeFun Comp (fun _ => Code → ACode → Prop) := ⟨Comp.rel⟩

/-- A map's entries. -/
inductive MR (ρ : Ren) (kk : IntKind) : List (Int × Value × Nat) → List MapEntry → Prop
  | nil : MR ρ kk [] []
  | cons (k : Int) (v v' : Value) (n : Nat) (es : List (Int × Value × Nat)) (es' : List MapEntry) : VR ρ v v' → MR ρ kk es es' → MR ρ kk ((k, v, n) :: es) (⟨.int kk k, v', n⟩ :: es')

theorem MR.mono {ρ ρ' : Ren} {kk : IntKind} (hle : Ren.le ρ ρ') {es : List (Int × Value × Nat)} {es' : List MapEntry} (h : MR ρ kk es es') : MR ρ' kk es es' := by
  induction h with
  | nil => exact .nil
  | cons k v v' n es es' hv _ ih => exact .cons k v v' n es es' (hv.mono hle) ih

/-- What one block of ours says of the machine's. -/
def BRel (C : Comp) (ρ : Ren) (e : REnt) (h : Array Obj) : ABlk → Prop
  | .cells cs ro opn => ∃ cc el lo hi, h[e.cb]? = some (.cells cc el (lo, hi)) ∧ e.base + cs.length ≤ cc.size ∧
      (∀ (i : Nat) (v : Value), cs[i]? = some v → ∃ v', cc[e.base + i]? = some v' ∧ VR ρ v v') ∧
      (ro = false → ∀ i, e.base ≤ i → i < cc.size → ¬ (lo ≤ i ∧ i < hi)) ∧
      (opn ≠ 0 → cs.length ≤ e.room * e.esz ∧ e.base + e.room * e.esz ≤ cc.size ∧ e.esz = opn ∧ ro = false)
  | .loop st pend fn n env params assign body dfs => ∃ l : Loop, h[e.cb]? = some (.loop l) ∧ l.state = st ∧ l.pending = pend ∧ l.fn = fn ∧
      l.params.toList = params ∧ C l.assign assign ∧ C l.body body ∧ l.tmps.size = n ∧ (∀ t, VR ρ (env.rd t) (l.tmps.getD t undef)) ∧ (∃ ed, ρ dfs = some ed ∧ l.defers = ed.cb)
  | .dfr taken => h[e.cb]? = some (.deferred (if taken then none else some []))
  | .map kk es clock => ∃ es', h[e.cb]? = some (.map es' clock) ∧ MR ρ kk es es'.toList
  | .dead => True

structure HRel (C : Comp) (ρ : Ren) (A : AHeap) (h : Array Obj) : Prop where
  blk : ∀ b e x, ρ b = some e → A.get b = some x → BRel C ρ e h x
  inj : ∀ b b' e e' x x', b ≠ b' → ρ b = some e → ρ b' = some e' → A.get b = some x → A.get b' = some x' → ¬ passive (some x) → x' ≠ .dead → e.cb ≠ e'.cb
  glob : ∀ g, g < C.gs → ρ g = some ⟨g, 0, 0, 0⟩

/-- From one state to the next. -/
structure Tr (C : Comp) (ρ : Ren) (A : AHeap) (w : World) (ρ' : Ren) (A' : AHeap) (w' : World) : Prop where
  rel : HRel C ρ' A' w'.heap
  mono : Ren.le ρ ρ'
  free : ∀ b, A.size ≤ b → b < A'.size → ρ b = none
  fresh : ∀ b, ρ b = none → ρ' b ≠ none → A.size ≤ b ∧ b < A'.size
  size : A.size ≤ A'.size
  absent : ∀ b, b < A.size → ρ b = none → A'.get b = A.get b
  still : ∀ b, b < A.size → passive (A.get b) → A'.get b = A.get b
  newcb : ∀ b e, ρ b = none → ρ' b = some e → w.heap.size ≤ e.cb ∨ ∃ b0 e0, b0 < A.size ∧ ρ b0 = some e0 ∧ e0.cb = e.cb ∧ ¬ passive (A.get b0)
  frame : ∀ cb, cb < w.heap.size → (∀ b e, b < A.size → ρ b = some e → e.cb = cb → passive (A.get b)) → w'.heap[cb]? = w.heap[cb]?
  hsize : w.heap.size ≤ w'.heap.size
  os : w'.os = w.os
  tape : w'.tape = w.tape
  output : w'.output = w.output

theorem Tr.refl {C : Comp} {ρ : Ren} {A : AHeap} {w : World} (h : HRel C ρ A w.heap) : Tr C ρ A w ρ A w where
  rel := h
  mono := Ren.le_refl _
  free := fun b h0 h1 => by omega
  fresh := fun b h0 h1 => absurd h0 h1
  size := Nat.le_refl _
  absent := fun _ _ _ => rfl
  still := fun _ _ _ => rfl
  newcb := fun b e h0 h1 => by rw [h0] at h1; cases h1
  frame := fun _ _ _ => rfl
  hsize := Nat.le_refl _
  os := rfl
  tape := rfl
  output := rfl

theorem Tr.trans {C : Comp} {ρ ρ1 ρ2 : Ren} {A A1 A2 : AHeap} {w w1 w2 : World} (h : Tr C ρ A w ρ1 A1 w1) (k : Tr C ρ1 A1 w1 ρ2 A2 w2) : Tr C ρ A w ρ2 A2 w2 where
  rel := k.rel
  mono := Ren.le_trans h.mono k.mono
  free := fun b h0 h1 => by
    by_cases hb : b < A1.size
    · exact h.free b h0 hb
    · cases hr : ρ b with
      | none => rfl
      | some e => have := k.free b (by omega) h1; rw [h.mono _ _ hr] at this; cases this
  fresh := fun b h0 h2 => by
    by_cases h1 : ρ1 b = none
    · have := k.fresh b h1 h2; exact ⟨Nat.le_trans h.size this.1, this.2⟩
    · have := h.fresh b h0 h1; exact ⟨this.1, Nat.lt_of_lt_of_le this.2 k.size⟩
  size := Nat.le_trans h.size k.size
  absent := fun b hb h0 => by
    have h1 : ρ1 b = none := by
      apply Classical.byContradiction; intro h1
      have := h.fresh b h0 h1; omega
    rw [k.absent b (Nat.lt_of_lt_of_le hb h.size) h1, h.absent b hb h0]
  still := fun b hb hp => by
    have e1 := h.still b hb hp
    rw [k.still b (Nat.lt_of_lt_of_le hb h.size) (by rw [e1]; exact hp), e1]
  newcb := fun b e h0 h2 => by
    cases h1 : ρ1 b with
    | none =>
      rcases k.newcb b e h1 h2 with hge | ⟨b0, e0, hb0, he0, hcb, hnp⟩
      · exact .inl (Nat.le_trans h.hsize hge)
      · cases hb : ρ b0 with
        | none =>
          rcases h.newcb b0 e0 hb he0 with hge | ⟨b1, e1, hb1, he1, hcb1, hnp1⟩
          · exact .inl (hcb ▸ hge)
          · exact .inr ⟨b1, e1, hb1, he1, hcb1.trans hcb, hnp1⟩
        | some e1 =>
          have := h.mono _ _ hb
          rw [he0] at this; cases this
          have hlt : b0 < A.size := by
            apply Classical.byContradiction; intro hge
            have := h.free b0 (by omega) hb0
            rw [hb] at this; cases this
          exact .inr ⟨b0, e0, hlt, hb, hcb, fun hp => hnp (by rw [h.still b0 hlt hp]; exact hp)⟩
    | some e1 =>
      have := k.mono _ _ h1
      rw [h2] at this; cases this
      exact h.newcb b e h0 h1
  frame := fun cb hcb hp => by
    rw [k.frame cb (Nat.lt_of_lt_of_le hcb h.hsize) ?_, h.frame cb hcb hp]
    intro b e hb1 he1 hce
    cases h0 : ρ b with
    | none =>
      by_cases hb : b < A.size
      · exact absurd he1 (by
          have : ρ1 b = none := by
            apply Classical.byContradiction; intro h1; have := h.fresh b h0 h1; omega
          rw [this]; simp)
      · rcases h.newcb b e h0 he1 with hge | ⟨b0, e0, hb0, he0, hcb0, hnp⟩
        · omega
        · exact absurd (hp b0 e0 hb0 he0 (hcb0.trans hce)) hnp
    | some e0 =>
      have := h.mono _ _ h0
      rw [he1] at this; cases this
      by_cases hb : b < A.size
      · rw [h.still b hb (hp b e hb h0 hce)]; exact hp b e hb h0 hce
      · have := h.free b (by omega) hb1
        rw [h0] at this; cases this
  hsize := Nat.le_trans h.hsize k.hsize
  os := k.os.trans h.os
  tape := k.tape.trans h.tape
  output := k.output.trans h.output

end Go.AS
end

section
namespace Go.AS
open Go
set_option linter.unusedSimpArgs false
set_option linter.unusedVariables false

/-! ## What an operation gives, in our memory -/

def ev (e : Env) : Operand → Value
  | .tmp t => e.rd t
  | .const v => v
  | .func f => .func (.func f) #[] #[]
  | .global g => .pointer (some ⟨g, 0, none⟩)

/-- A value that names no memory, of one cell. -/
def plain0 : Value → Bool
  | .bool _ | .int _ _ | .float _ _ | .string _ | .pointer none | .slice none 0 0 | .map none | .nilFunc | .nilIface => true
  | .func (.func _) ⟨[]⟩ ⟨[]⟩ => true
  | _ => false

def plain1 : Value → Bool
  | .iface _ v => plain0 v
  | v => plain0 v

def plainV : Value → Bool
  | .agg ⟨cs⟩ => cs.all plain1
  | .tuple ⟨cs⟩ => cs.all plain1
  | .iface _ (.agg ⟨cs⟩) => cs.all plain1
  | v => plain1 v

def okOp : Operand → Bool
  | .const v => plainV v
  | .global g => decide (g < 8)
  | _ => true

/-- A value that lies in one cell. -/
def oneCell : Value → Bool
  | .agg _ | .tuple _ => false
  | _ => true

def lay (cs : List Value) (off : Nat) : List Value → List Value
  | [] => cs
  | v :: r => lay (cs.set off v) (off + 1) r

def fillA (place : Nat → Option (Nat × Nat)) (cells : List Value) : List (Nat × Value) → Option (List Value)
  | [] => some cells
  | (i, v) :: rest =>
    match place i with
    | none => none
    | some (off, size) =>
      if (cl v).length ≠ size || off + (cl v).length > cells.length then none
      else fillA place (lay cells off (cl v)) rest

def fillP (cells : List Value) : List (Nat × Nat × Value) → Option (List Value)
  | [] => some cells
  | (off, size, v) :: rest =>
    if (cl v).length ≠ size || off + (cl v).length > cells.length then none
    else fillP (lay cells off (cl v)) rest

def binA (op : BinOp) (x y : Value) : Option Value :=
  match x, y with
  | .int k a, .int k' b =>
    match op with
    | .shl => if b < 0 then none else some (.int k (k.wrap (a * 2 ^ (min b.toNat k.bits))))
    | .shr => if b < 0 then none else some (.int k (a.fdiv (2 ^ (min b.toNat k.bits))))
    | _ =>
      if k ≠ k' then none else
      match op with
      | .add => some (.int k (k.wrap (a + b)))
      | .sub => some (.int k (k.wrap (a - b)))
      | .mul => some (.int k (k.wrap (a * b)))
      | .quo => if b = 0 then none else some (.int k (k.wrap (a.tdiv b)))
      | .rem => if b = 0 then none else some (.int k (a.tmod b))
      | .and => some (.int k (k.wrap (BitVec.ofInt k.bits a &&& BitVec.ofInt k.bits b).toNat))
      | .or => some (.int k (k.wrap (BitVec.ofInt k.bits a ||| BitVec.ofInt k.bits b).toNat))
      | .xor => some (.int k (k.wrap (BitVec.ofInt k.bits a ^^^ BitVec.ofInt k.bits b).toNat))
      | .andNot => some (.int k (k.wrap (BitVec.ofInt k.bits a &&& ~~~ BitVec.ofInt k.bits b).toNat))
      | .eql => some (.bool (a == b))
      | .neq => some (.bool (a != b))
      | .lss => some (.bool (decide (a < b)))
      | .leq => some (.bool (decide (a ≤ b)))
      | .gtr => some (.bool (decide (a > b)))
      | .geq => some (.bool (decide (a ≥ b)))
      | _ => none
  | .string a, .string b =>
    match op with
    | .add => if ((a.data.toList.length + b.data.toList.length : Nat) : Int) > IntKind.i64.max then none else some (.string ⟨⟨a.data.toList ++ b.data.toList⟩⟩)
    | .eql => some (.bool (a.data.toList == b.data.toList))
    | .neq => some (.bool (!(a.data.toList == b.data.toList)))
    | .lss => some (.bool (Op.bytesLess a.data.toList b.data.toList))
    | .leq => some (.bool (Op.bytesLess a.data.toList b.data.toList || a.data.toList == b.data.toList))
    | .gtr => some (.bool (!(Op.bytesLess a.data.toList b.data.toList || a.data.toList == b.data.toList)))
    | .geq => some (.bool (!(Op.bytesLess a.data.toList b.data.toList)))
    | _ => none
  | _, _ => none

def unA (op : UnOp) (x : Value) : Option Value :=
  match op, x with
  | .neg, .int k n => some (.int k (k.wrap (0 - n)))
  | .xor, .int k n => some (.int k (k.wrap (BitVec.ofInt k.bits (if k.signed then -1 else k.max) ^^^ BitVec.ofInt k.bits n).toNat))
  | .not, .bool b => some (.bool !b)
  | _, _ => none

/-- Two values compared without a look at memory: against nil, or bools; lit: one of them is written out. -/
def eqA (lit : Bool) : EqK → Value → Value → Option Bool
  | .bool, .bool a, .bool b => some (a == b)
  | .ptr, .pointer none, .pointer b => some b.isNone
  | .ptr, .pointer (some _), .pointer none => some false
  | .slice, .slice none _ _, .slice b _ _ => some b.isNone
  | .slice, .slice (some _) _ _, .slice none _ _ => some false
  | .map, .map none, .map b => some b.isNone
  | .map, .map (some _), .map none => some false
  | .func, .nilFunc, .nilFunc => some true
  | .func, .nilFunc, .func _ _ _ => some false
  | .func, .func _ _ _, .nilFunc => some false
  | .iface, .nilIface, .iface _ _ => some false
  | .iface, .iface _ _, .nilIface => some false
  | .iface, .nilIface, .nilIface => if lit then some true else none
  | _, _, _ => none

def leafEq : LeafK → Option Value → Option Value → Option Bool
  | .b, some (.bool a), some (.bool b) => some (a == b)
  | .i, some (.int k a), some (.int k' b) => if k = k' then some (a == b) else none
  | .s, some (.string a), some (.string b) => some (a.data.toList == b.data.toList)
  | _, _, _ => none

/-- Two structs or arrays compared cell by cell. -/
def eqL : List (Nat × LeafK) → List Value → List Value → Option Bool
  | [], _, _ => some true
  | (o, k) :: r, xs, ys => match leafEq k xs[o]? ys[o]?, eqL r xs ys with
    | some a, some b => some (a && b)
    | _, _ => none

def rdCells (A : AHeap) (b o n : Nat) : Option (List Value) :=
  match A.get b with
  | some (.cells cs _ _) => if o + n ≤ cs.length then some ((cs.drop o).take n) else none
  | _ => none

def rdCell (A : AHeap) (b o : Nat) : Option Value :=
  match A.get b with
  | some (.cells cs _ _) => cs[o]?
  | _ => none

def wrCells (A : AHeap) (b o : Nat) (vs : List Value) : Option AHeap :=
  match A.get b with
  | some (.cells cs false opn) => if o + vs.length ≤ cs.length && vs.all oneCell then some (A.set b (.cells (lay cs o vs) false opn)) else none
  | _ => none

def lenA : Value → Option Nat
  | .slice _ n _ => some n
  | .string s => some s.data.toList.length
  | _ => none

/-- The first n elements' cells. -/
def firstA (A : AHeap) (size n : Nat) : Value → Option (List Value)
  | .slice none _ _ => some []
  | .slice (some ⟨b, o, none⟩) _ c => if n * size = 0 then some [] else if c = ENDCAP then none else rdCells A b o (n * size)
  | .string s => some ((s.data.toList.take n).map fun b => .int .u8 b.toNat)
  | _ => none

def idxA : Value → Option Int
  | .int _ n => some n
  | _ => none

/-- A bound of a slice expression. -/
def bnd (x : Value) (y : Nat) : Option Nat :=
  match x with
  | .int _ i => if 0 ≤ i ∧ i ≤ y then some i.toNat else none
  | _ => none

def bndsA (len cap : Nat) (lo hi mx : Option Value) : Option (Nat × Nat × Nat) :=
  match (match mx with | some v => bnd v cap | none => some cap) with
  | none => none
  | some m =>
    match (match hi, mx with
      | some v, _ => bnd v m
      | none, none => some len
      | none, some _ => none) with
    | none => none
    | some h =>
      match (match lo with | some v => bnd v h | none => some 0) with
      | none => none
      | some l => some (l, h, m)

def sliceSA (x : Value) (lo hi : Option Value) : Option Value :=
  match x with
  | .string s =>
    match bndsA s.data.toList.length s.data.toList.length lo hi none with
    | some (l, h, _) => some (.string ⟨⟨(s.data.toList.drop l).take (h - l)⟩⟩)
    | none => none
  | _ => none

/-- A slice of a slice: with a capacity that is known, or left open (then no further than what is there). -/
def sliceVA (A : AHeap) (size : Nat) (x : Value) (lo hi mx : Option Value) : Option Value :=
  match x with
  | .slice none len cap =>
    match bndsA len cap lo hi mx with
    | some (l, h, m) => some (.slice none (h - l) (m - l))
    | none => none
  | .slice (some ⟨b, o, none⟩) len cap =>
    if cap = OPEN then
      match A.get b with
      | some (.cells cs _ opn) =>
        if opn = 0 || opn != size then none else
        match mx with
        | some _ =>
          match bndsA len len lo hi mx with
          | some (l, h, m) => if OPEN ≤ m - l then none else some (.slice (some ⟨b, if m = l then o else o + l * size, none⟩) (h - l) (m - l))
          | none => none
        | none =>
          match bndsA len len lo hi none with
          | some (l, h, _) => if l = 0 || o + l * size < cs.length then some (.slice (some ⟨b, o + l * size, none⟩) (h - l) OPEN)
            else if h = l && o + l * size = cs.length then some (.slice (some ⟨b, o + l * size, none⟩) 0 ENDCAP) else none
          | none => none
      | _ => none
    else if cap = ENDCAP then
      match mx with
      | none => match bndsA 0 0 lo hi none with
        | some _ => if len = 0 then some (.slice (some ⟨b, o, none⟩) 0 ENDCAP) else none
        | none => none
      | some _ => match bndsA 0 0 lo hi mx with
        | some _ => if len = 0 then some (.slice (some ⟨b, o, none⟩) 0 ENDCAP) else none
        | none => none
    else if OPEN ≤ cap then none
    else
      match bndsA len cap lo hi mx with
      | some (l, h, m) => if OPEN ≤ m - l then none else some (.slice (some ⟨b, if m = l then o else o + l * size, none⟩) (h - l) (m - l))
      | none => none
  | _ => none

def sliceAA (n size : Nat) (x : Value) (lo hi mx : Option Value) : Option Value :=
  match x with
  | .pointer (some ⟨b, o, none⟩) =>
    match bndsA n n lo hi mx with
    | some (l, h, m) => if OPEN ≤ m - l then none else some (.slice (some ⟨b, if m = l then o else o + l * size, none⟩) (h - l) (m - l))
    | none => none
  | _ => none

def minV : Value → Value → Option Value
  | .int k x, .int _ y => some (.int k (if y < x then y else x))
  | _, _ => none
def maxV : Value → Value → Option Value
  | .int k x, .int _ y => some (.int k (if y > x then y else x))
  | _, _ => none
def foldV (f : Value → Value → Option Value) : Value → List Value → Option Value
  | x, [] => some x
  | x, y :: r => match f x y with | some z => foldV f z r | none => none

/-- What costs no more than a machine bears. -/
def fitsA (need bytes : Nat) : Bool := decide (need ≤ 4294967296) && decide (bytes ≤ 8192)

/-- Where a key stands. -/
def findE (n : Int) : List (Int × Value × Nat) → Nat → Option (Nat × Value)
  | [], _ => none
  | e :: es, i => if n == e.1 then some (i, e.2.1) else findE n es (i + 1)

def getRes (ok : Bool) (v : Value) (b : Bool) : Value := if ok then .tuple ⟨[v, .bool b]⟩ else v

/-- Operations that look at memory at most. -/
def qop (e : Env) (A : AHeap) : AOp → Option Value
  | .mov x => some (ev e x)
  | .pick c a b => match ev e c with | .bool t => some (if t then ev e a else ev e b) | _ => none
  | .build zero parts => (fillP zero (parts.map fun p => (p.1, p.2.1, ev e p.2.2))).map fun cs => .agg ⟨cs⟩
  | .load1 a => match ev e a with | .pointer (some ⟨b, o, none⟩) => rdCell A b o | _ => none
  | .loadN n a => match ev e a with | .pointer (some ⟨b, o, none⟩) => if n = 0 then some (.agg #[]) else (rdCells A b o n).map fun cs => .agg ⟨cs⟩ | _ => none
  | .nilchk x => match ev e x with
    | .pointer (some a) => some (.pointer (some a))
    | .func (.func f) c d => some (.func (.func f) c d)
    | .func (.yield f) c d => some (.func (.yield f) c d)
    | _ => none
  | .bin op x y => binA op (ev e x) (ev e y)
  | .eq neg lit k x y => (eqA lit k (ev e x) (ev e y)).map fun b => .bool (if neg then !b else b)
  | .eqF neg l x y => match ev e x, ev e y with
    | .agg xs, .agg ys => (eqL l xs.toList ys.toList).map fun b => .bool (if neg then !b else b)
    | _, _ => none
  | .un op x => unA op (ev e x)
  | .cvInt k x => match ev e x with | .int _ n => some (.int k (k.wrap n)) | _ => none
  | .cvStr x => match ev e x with | .string s => some (.string s) | _ => none
  | .cvB2S x => match ev e x with
    | .slice none 0 0 => some (.string ⟨⟨[]⟩⟩)
    | .slice a n c => match firstA A 1 n (.slice a n c) with
      | some cs => if cs.all (fun v => match v with | .int .u8 _ => true | _ => false) then some (.string ⟨⟨cs.map fun v => match v with | .int _ n => UInt8.ofNat n.toNat | _ => 0⟩⟩) else none
      | none => none
    | _ => none
  | .mkI t x => some (.iface t (ev e x))
  | .tassert t x => match ev e x with | .iface t' v => if t' = t then some v else none | _ => none
  | .mkF f first captured => some (.func (.func f) ⟨first.map (ev e)⟩ ⟨captured.map (ev e)⟩)
  | .sliceS x lo hi => sliceSA (ev e x) (lo.map (ev e)) (hi.map (ev e))
  | .sliceV size x lo hi mx => sliceVA A size (ev e x) (lo.map (ev e)) (hi.map (ev e)) (mx.map (ev e))
  | .sliceA n size x lo hi mx => sliceAA n size (ev e x) (lo.map (ev e)) (hi.map (ev e)) (mx.map (ev e))
  | .faddr off x => match ev e x with | .pointer (some ⟨b, o, none⟩) => some (.pointer (some ⟨b, o + off, none⟩)) | _ => none
  | .fld1 off x => match ev e x with | .agg cs => cs.toList[off]? | _ => none
  | .fldN off n x => match ev e x with | .agg cs => if off + n ≤ cs.toList.length then some (.agg ⟨(cs.toList.drop off).take n⟩) else none | _ => none
  | .iaddrA n size x i => match ev e x, idxA (ev e i) with
    | .pointer (some ⟨b, o, none⟩), some j => if 0 ≤ j ∧ j < n then some (.pointer (some ⟨b, o + j.toNat * size, none⟩)) else none
    | _, _ => none
  | .iaddrS size x i => match ev e x, idxA (ev e i) with
    | .slice (some ⟨b, o, none⟩) len _, some j => if 0 ≤ j ∧ j < len then some (.pointer (some ⟨b, o + j.toNat * size, none⟩)) else none
    | _, _ => none
  | .idx1 n size x i => match ev e x, idxA (ev e i) with
    | .agg cs, some j => if 0 ≤ j ∧ j < n then cs.toList[j.toNat * size]? else none
    | _, _ => none
  | .idxN n size x i => match ev e x, idxA (ev e i) with
    | .agg cs, some j => if 0 ≤ j ∧ j < n then (if j.toNat * size + size ≤ cs.toList.length then some (.agg ⟨(cs.toList.drop (j.toNat * size)).take size⟩) else none) else none
    | _, _ => none
  | .idxS x i => match ev e x, idxA (ev e i) with
    | .string s, some j => if 0 ≤ j then (s.data.toList[j.toNat]?).map fun b => .int .u8 b.toNat else none
    | _, _ => none
  | .ext x i => match ev e x with | .tuple vs => vs.toList[i]? | _ => none
  | .lenS x => match ev e x with | .string s => some (.int .i64 s.data.toList.length) | _ => none
  | .lenV x => match ev e x with | .slice _ n _ => some (.int .i64 n) | _ => none
  | .lenC n => some (.int .i64 n)
  | .mapGet kk ok zero m k => match ev e m, ev e k with
    | .map none, .int kj _ => if kj = kk then some (getRes ok zero false) else none
    | .map (some b), .int kj n => if kj = kk then match A.get b with
      | some (.map k2 es _) => if k2 = kk then match findE n es 0 with
        | some (_, v) => some (getRes ok v true)
        | none => some (getRes ok zero false)
        else none
      | _ => none
      else none
    | _, _ => none
  | .min (x :: xs) => foldV minV (ev e x) (xs.map (ev e))
  | .max (x :: xs) => foldV maxV (ev e x) (xs.map (ev e))
  | _ => none

def growA (A : AHeap) (size : Nat) (old new : List Value) (need : Nat) : Value × AHeap :=
  (.slice (some ⟨A.size, 0, none⟩) need OPEN, A.alloc (.cells (old ++ new) false size))

def isStr : Value → Bool
  | .string _ => true
  | _ => false

/-- append(s, x...) -/
def appA (A : AHeap) (size bytes : Nat) (s x : Value) : Option (Value × AHeap) :=
  match s, lenA x with
  | .slice base sLen sCap, some n =>
    if !(fitsA (sLen + n) bytes) || size = 0 || (isStr x && size != 1) then none else
    match firstA A size n x with
    | none => none
    | some new =>
      match base with
      | none => if n = 0 then some (.slice none 0 0, A) else (if new.all oneCell then some (growA A size [] new n) else none)
      | some ⟨b, o, none⟩ =>
        if n = 0 then some (.slice (some ⟨b, o, none⟩) sLen sCap, A)
        else if sCap < OPEN then
          if sLen + n ≤ sCap then (wrCells A b (o + sLen * size) new).map fun A' => (.slice (some ⟨b, o, none⟩) (sLen + n) sCap, A')
          else match firstA A size sLen (.slice (some ⟨b, o, none⟩) sLen sCap) with
            | some old => some (growA A size old new (sLen + n))
            | none => none
        else if sCap = OPEN then
          match A.get b with
          | some (.cells cs false opn) =>
            if opn != size then none else
            if o + (sLen + n) * size ≤ cs.length then (wrCells A b (o + sLen * size) new).map fun A' => (.slice (some ⟨b, o, none⟩) (sLen + n) OPEN, A')
            else if o + sLen * size = cs.length && new.all oneCell then
              some (growA (A.set b .dead) size (cs.drop o) new (sLen + n))
            else none
          | _ => none
        else if sCap = ENDCAP then
          match A.get b with
          | some (.cells cs false opn) =>
            if opn != size then none else
            if sLen = 0 && o = cs.length && new.all oneCell then some (growA (A.set b .dead) size (cs.drop o) new (sLen + n)) else none
          | _ => none
        else none
      | _ => none
  | _, _ => none

def rep (n : Nat) (zero : List Value) : List Value :=
  match n with
  | 0 => []
  | n + 1 => zero ++ rep n zero

/-- Is the first block what errors.errorType is (of type tt; the handle of type te)? -/
def errT (tt te : Nat) : Option ABlk → Bool
  | some (.cells [.iface t (.agg ⟨[.pointer (some ⟨1, e, none⟩)]⟩)] true _) => decide (t = tt ∧ e = te)
  | _ => false
/-- Strings, one behind the other. -/
def catA : List Value → Option (List UInt8)
  | [] => some []
  | .string s :: r => (catA r).map (s.data.toList ++ ·)
  | _ => none
/-- What is known of functions that are not followed, by number. 0: errors.As, of a nil error; of one of type t0 (n0 cells) at a target of type p0; of one of type t1 that wraps what its only cell points to, at a target of type p1. 1: a closed function that says yes, and asks errors.As. 2: strings.Join of at most 64 strings, nothing between them. -/
def specA (k : Nat) (ps : List Nat) (x y : Value) (A : AHeap) : Option (Value × AHeap) :=
  match k, x, y with
  | 0, .nilIface, _ => some (.bool false, A)
  | 0, .iface t v, .iface p (.pointer (some ⟨b, o, none⟩)) =>
    match ps with
    | [tt, te, t0, p0, n0, t1, p1] => if errT tt te (A.get 0) then
        if t = t0 ∧ p = p0 then (match n0, v with
          | 1, .agg ⟨[u]⟩ => (wrCells A b o [u]).map fun A' => (.bool true, A')
          | 0, .int k n => (wrCells A b o [.int k n]).map fun A' => (.bool true, A')
          | _, _ => none)
        else if t = t1 ∧ p = p1 then (match v with | .agg ⟨[.pointer (some ⟨b1, o1, none⟩)]⟩ => (wrCells A b o [.pointer (some ⟨b1, o1, none⟩)]).map fun A' => (.bool true, A') | _ => none)
        else none
      else none
    | _ => none
  | 1, _, _ => match ps with
    | [tt, te] => if errT tt te (A.get 0) then some (.bool true, A) else none
    | _ => none
  | 2, .slice (some ⟨b, o, none⟩) n c, .string s => if s.data.toList = [] ∧ n ≤ 64 ∧ c < OPEN ∧ n ≤ c then (match rdCells A b o n with
      | some l => match catA l with
        | some t => if t.length ≤ 140737488355328 then some (.string ⟨⟨t⟩⟩, A) else none
        | none => none
      | none => none) else none
  | _, _, _ => none

/-- Operations that make or write memory: what they give, and the memory behind. -/
def lop (e : Env) (A : AHeap) : AOp → Option (Value × AHeap)
  | .spec2 k ps x y => specA k ps (ev e x) (ev e y) A
  | .alloc _ zero => some (.pointer (some ⟨A.size, 0, none⟩), A.alloc (.cells zero false 0))
  | .box _ n x => if (cl (ev e x)).length = n then some (.pointer (some ⟨A.size, 0, none⟩), A.alloc (.cells (cl (ev e x)) false 0)) else none
  | .bslice _ len zero parts => (fillP (rep len zero) (parts.map fun p => (p.1, p.2.1, ev e p.2.2))).map fun cs => (.slice (some ⟨A.size, 0, none⟩) len len, A.alloc (.cells cs false 0))
  | .store n a x => match ev e a with
    | .pointer (some ⟨b, o, none⟩) => if (cl (ev e x)).length = n then (if n = 0 then some (undef, A) else (wrCells A b o (cl (ev e x))).map fun A' => (undef, A')) else none
    | _ => none
  | .mkS _ size bytes zero l c => match ev e l, ev e c with
    | .int _ l, .int _ c => if 0 ≤ l ∧ l ≤ c ∧ c ≤ 4294967296 ∧ bytes ≤ 8192 ∧ zero.length = size then
        some (.slice (some ⟨A.size, 0, none⟩) l.toNat c.toNat, A.alloc (.cells (rep c.toNat zero) false 0)) else none
    | _, _ => none
  | .cvS2B _ x => match ev e x with
    | .string s => some (.slice (some ⟨A.size, 0, none⟩) s.data.toList.length OPEN, A.alloc (.cells (s.data.toList.map fun b => .int .u8 b.toNat) false 1))
    | _ => none
  | .append _ size bytes s x => appA A size bytes (ev e s) (ev e x)
  | .copy size d s => match ev e d, lenA (ev e s) with
    | .slice base dLen _, some m =>
      let n := min m dLen
      match firstA A size n (ev e s) with
      | some cs => if cs.isEmpty then some (.int .i64 n, A) else match base with
        | some ⟨b, o, none⟩ => (wrCells A b o cs).map fun A' => (.int .i64 n, A')
        | _ => none
      | none => none
    | _, _ => none
  | .clear zero s => match ev e s with
    | .slice none _ _ => some (undef, A)
    | .slice (some ⟨b, o, none⟩) n _ => if n = 0 then some (undef, A) else (wrCells A b o (rep n zero)).map fun A' => (undef, A')
    | _ => none
  | .mkMap r => if r.all (fun x => match ev e x with | .int _ _ => true | _ => false) then some (.map (some A.size), A.alloc (.map .i64 [] 0)) else none
  | .mapPut kk m k x => match ev e m, ev e k with
    | .map (some b), .int kj n => if kj = kk then match A.get b with
      | some (.map k2 es clock) => if k2 = kk then match findE n es 0 with
        | some (i, _) => some (undef, A.set b (.map kk (es.modify i fun y => (n, ev e x, y.2.2)) clock))
        | none => some (undef, A.set b (.map kk (es ++ [(n, ev e x, clock)]) (clock + 1)))
        else none
      | _ => none
      else none
    | _, _ => none
  | .mapDel kk m k => match ev e m, ev e k with
    | .map none, .int _ _ => some (undef, A)
    | .map (some b), .int kj n => if kj = kk then match A.get b with
      | some (.map k2 es clock) => if k2 = kk then match findE n es 0 with
        | some (i, _) => some (undef, A.set b (.map kk (es.eraseIdx i) clock))
        | none => some (undef, A.set b (.map kk es clock))
        else none
      | _ => none
      else none
    | _, _ => none
  | op => (qop e A op).map fun v => (v, A)

/-! ### Memory only grows -/
theorem wrCells_size {A A' : AHeap} {b o : Nat} {vs : List Value} (h : wrCells A b o vs = some A') : A'.size = A.size := by
  unfold wrCells at h
  split at h
  · split at h
    · cases h; rfl
    · cases h
  · cases h

theorem map_wr {A : AHeap} {r : Option AHeap} {f : AHeap → Value} {v : Value} {A' : AHeap} (h : (r.map fun A2 => (f A2, A2)) = some (v, A')) : r = some A' := by
  cases r with
  | none => cases h
  | some A2 => cases h; rfl

theorem appA_size {A A' : AHeap} {size bytes : Nat} {s x v : Value} (h : appA A size bytes s x = some (v, A')) : A.size ≤ A'.size := by
  unfold appA at h
  split at h
  · split at h
    · cases h
    · split at h
      · cases h
      · split at h
        · split at h
          · cases h; exact Nat.le_refl _
          · split at h
            · cases h; simp [AHeap.alloc]
            · cases h
        · split at h
          · cases h; exact Nat.le_refl _
          · split at h
            · split at h
              · have := wrCells_size (map_wr (A := A) h); omega
              · split at h
                · cases h; simp [AHeap.alloc]
                · cases h
            · split at h
              · split at h
                · split at h
                  · cases h
                  · split at h
                    · have := wrCells_size (map_wr (A := A) h); omega
                    · split at h
                      · cases h; simp [AHeap.alloc, AHeap.set]
                      · cases h
                · cases h
              · split at h
                · split at h
                  · split at h
                    · cases h
                    · split at h
                      · cases h; simp [AHeap.alloc, AHeap.set]
                      · cases h
                  · cases h
                · cases h
        · cases h
  · cases h

theorem specA_size {k : Nat} {ps : List Nat} {x y v : Value} {A A' : AHeap} (h : specA k ps x y A = some (v, A')) : A.size ≤ A'.size := by
  unfold specA at h
  (repeat' split at h) <;> first
    | (cases h; done)
    | (cases h; exact Nat.le_refl _)
    | (have := wrCells_size (map_wr (A := A) h); omega)

theorem lop_size {e : Env} {A A' : AHeap} {op : AOp} {v : Value} (h : lop e A op = some (v, A')) : A.size ≤ A'.size := by
  have quiet : ∀ (q : Option Value), (q.map fun v => (v, A)) = some (v, A') → A.size ≤ A'.size := by
    intro q hq
    cases q with
    | none => cases hq
    | some u => cases hq; exact Nat.le_refl _
  cases op with
  | spec2 k ps x y => exact specA_size h
  | alloc t z => cases h; simp [AHeap.alloc]
  | box t n x =>
    simp only [lop] at h
    split at h
    · cases h; simp [AHeap.alloc]
    · cases h
  | bslice t n z p =>
    simp only [lop] at h
    cases hf : fillP (rep n z) (p.map fun p => (p.1, p.2.1, ev e p.2.2)) with
    | none => rw [hf] at h; cases h
    | some cs => rw [hf] at h; cases h; simp [AHeap.alloc]
  | store n a x =>
    simp only [lop] at h
    split at h
    · split at h
      · split at h
        · cases h; exact Nat.le_refl _
        · have := wrCells_size (map_wr (A := A) h); omega
      · cases h
    · cases h
  | mkS t s b z l c =>
    simp only [lop] at h
    split at h
    · split at h
      · cases h; simp [AHeap.alloc]
      · cases h
    · cases h
  | cvS2B t x =>
    simp only [lop] at h
    split at h
    · cases h; simp [AHeap.alloc]
    · cases h
  | append t s b x y => exact appA_size h
  | copy s d x =>
    simp only [lop] at h
    split at h
    · split at h
      · split at h
        · cases h; exact Nat.le_refl _
        · split at h
          · have := wrCells_size (map_wr (A := A) h); omega
          · cases h
      · cases h
    · cases h
  | clear z s =>
    simp only [lop] at h
    split at h
    · cases h; exact Nat.le_refl _
    · split at h
      · cases h; exact Nat.le_refl _
      · have := wrCells_size (map_wr (A := A) h); omega
    · cases h
  | mkMap r =>
    simp only [lop] at h
    split at h
    · cases h; simp [AHeap.alloc]
    · cases h
  | mapPut kk m k x =>
    simp only [lop] at h
    (repeat' split at h) <;> first | (cases h; done) | (cases h; exact Nat.le_refl _)
  | mapDel kk m k =>
    simp only [lop] at h
    (repeat' split at h) <;> first | (cases h; done) | (cases h; exact Nat.le_refl _)
  | _ => simp only [lop] at h; exact quiet _ h

end Go.AS
end

section
namespace Go.AS
open Go
set_option linter.unusedSimpArgs false
set_option linter.unusedVariables false

/-! ## What the machine's operations do to memory, said of ours -/
section
variable {C : Comp} {ρ : Ren} {A : AHeap} {w : World} {P : Program}

theorem cells_of (h : HRel C ρ A w.heap) {b : Nat} {e : REnt} {cs : List Value} {ro : Bool} {opn : Nat} (he : ρ b = some e) (hb : A.get b = some (.cells cs ro opn)) :
    ∃ cc el lo hi, w.heap[e.cb]? = some (.cells cc el (lo, hi)) ∧ e.base + cs.length ≤ cc.size ∧
      (∀ (i : Nat) (v : Value), cs[i]? = some v → ∃ v', cc[e.base + i]? = some v' ∧ VR ρ v v') ∧
      (ro = false → ∀ i, e.base ≤ i → i < cc.size → ¬ (lo ≤ i ∧ i < hi)) ∧
      (opn ≠ 0 → cs.length ≤ e.room * e.esz ∧ e.base + e.room * e.esz ≤ cc.size ∧ e.esz = opn ∧ ro = false) := h.blk b e _ he hb

theorem cell?_of {cc : Array Value} {el : TypeId} {lo hi cb off : Nat} (h : w.heap[cb]? = some (.cells cc el (lo, hi))) : w.cell? ⟨cb, off, none⟩ = cc[off]? := by
  simp [World.cell?, h]

theorem rd_cell (h : HRel C ρ A w.heap) {b o : Nat} {e : REnt} {v : Value} (he : ρ b = some e) (hv : rdCell A b o = some v) :
    ∃ v', w.cell? ⟨e.cb, e.base + o, none⟩ = some v' ∧ VR ρ v v' := by
  unfold rdCell at hv
  split at hv
  · rename_i cs ro opn hb
    obtain ⟨cc, el, lo, hi, hh, _, hc, _⟩ := cells_of h he hb
    obtain ⟨v', h1, h2⟩ := hc o v hv
    exact ⟨v', by rw [cell?_of hh]; exact h1, h2⟩
  · cases hv

theorem run_load {a : Addr} {v : Value} (h : w.cell? a = some v) : (Go.load a).run P w = .ok v w := by
  simp [Go.load, Sem.run, h]

theorem run_bind {α β : Type} (s : Sem α) (f : α → Sem β) : (s >>= f).run P w = match s.run P w with | .ok a w' => (f a).run P w' | .halt h w' => .halt h w' := by
  show (Sem.bind s f).run P w = _
  induction s generalizing w with
  | pure a => simp [Sem.bind, Sem.run]
  | load m a k ih => simp only [Sem.bind, Sem.run]; (repeat' split) <;> simp_all
  | store m a v k ih =>
    cases v <;> simp only [Sem.bind, Sem.run] <;> (try ((repeat' split) <;> simp_all))
  | new o k ih => simp [Sem.bind, Sem.run, ih]
  | shape r k ih => simp [Sem.bind, Sem.run, ih]
  | freeze a n k ih => simp [Sem.bind, Sem.run, ih]
  | frozen a k ih => simp [Sem.bind, Sem.run, ih]
  | getObj r k ih => simp only [Sem.bind, Sem.run]; split <;> simp_all
  | setObj r o k ih => simp only [Sem.bind, Sem.run]; split <;> simp_all
  | choose q k ih => simp only [Sem.bind, Sem.run]; split <;> simp_all
  | sys c k ih => simp [Sem.bind, Sem.run, ih]
  | program k ih => simp [Sem.bind, Sem.run, ih]
  | mark m k ih => simp [Sem.bind, Sem.run, ih]
  | halt h => simp [Sem.bind, Sem.run]

theorem run_pure {α : Type} (a : α) : (pure a : Sem α).run P w = .ok a w := rfl

theorem add_plain (cb o n : Nat) : Addr.add ⟨cb, o, none⟩ n = ⟨cb, o + n, none⟩ := by
  unfold Addr.add; split
  · next h => subst h; rfl
  · rfl

/-- A row of loads. -/
theorem run_loadCellsFrom (cb o : Nat) (vs : List Value) : ∀ (i : Nat) (acc : Array Value), (∀ j v, vs[j]? = some v → w.cell? ⟨cb, o + i + j, none⟩ = some v) →
    (loadCellsFrom ⟨cb, o, none⟩ i vs.length acc).run P w = .ok (acc ++ vs.toArray) w := by
  induction vs with
  | nil => intro i acc _; simp [loadCellsFrom, run_pure]
  | cons v vs ih =>
    intro i acc h
    simp only [List.length_cons, loadCellsFrom, run_bind, add_plain]
    have h0 := h 0 v rfl
    simp only [Nat.add_zero] at h0
    rw [run_load h0]
    simp only
    rw [ih (i + 1) (acc.push v) (fun j u hu => by have := h (j + 1) u (by simpa using hu); rw [← this]; congr 2; omega)]
    simp

theorem run_loadCells {cb o n : Nat} {vs : List Value} (hn : vs.length = n) (h : ∀ j v, vs[j]? = some v → w.cell? ⟨cb, o + j, none⟩ = some v) :
    (loadCells ⟨cb, o, none⟩ n).run P w = .ok vs.toArray w := by
  subst hn
  unfold loadCells
  rw [run_loadCellsFrom cb o vs 0 #[] (fun j v hv => by simpa using h j v hv)]
  simp

theorem rd_cells (h : HRel C ρ A w.heap) {b o n : Nat} {e : REnt} {vs : List Value} (he : ρ b = some e) (hv : rdCells A b o n = some vs) :
    ∃ vs', VRs ρ vs vs' ∧ vs'.length = n ∧ ∀ j v, vs'[j]? = some v → w.cell? ⟨e.cb, e.base + o + j, none⟩ = some v := by
  unfold rdCells at hv
  split at hv
  · rename_i cs ro opn hb
    split at hv
    · rename_i hle
      cases hv
      obtain ⟨cc, el, lo, hi, hh, hsz, hc, _⟩ := cells_of h he hb
      refine ⟨(cc.toList.drop (e.base + o)).take n, ?_, ?_, ?_⟩
      · refine VRs.of_get (by simp; omega) ?_
        intro i v v' h1 h2
        rw [List.getElem?_take] at h1 h2
        split at h1
        · rename_i hi
          rw [if_pos hi] at h2
          rw [List.getElem?_drop] at h1 h2
          obtain ⟨u, hu1, hu2⟩ := hc (o + i) v h1
          rw [Array.getElem?_toList] at h2
          rw [show e.base + o + i = e.base + (o + i) by omega, hu1] at h2
          cases h2; exact hu2
        · cases h1
      · simp; omega
      · intro j v hj
        rw [List.getElem?_take] at hj
        split at hj
        · rw [List.getElem?_drop, Array.getElem?_toList] at hj
          rw [cell?_of hh]; exact hj
        · cases hj
    · cases hv
  · cases hv

theorem run_loadN (h : HRel C ρ A w.heap) {b o n : Nat} {e : REnt} {vs : List Value} (he : ρ b = some e) (hv : rdCells A b o n = some vs) :
    ∃ vs', VRs ρ vs vs' ∧ (loadCells ⟨e.cb, e.base + o, none⟩ n).run P w = .ok vs'.toArray w := by
  obtain ⟨vs', h1, h2, h3⟩ := rd_cells h he hv
  exact ⟨vs', h1, run_loadCells h2 h3⟩

/-! Writing. -/
theorem size_setCell (w : World) (a : Addr) (v : Value) : (w.setCell a v).heap.size = w.heap.size := by simp [World.setCell]

theorem lay_length (vs : List Value) : ∀ (cs : List Value) (o : Nat), (lay cs o vs).length = cs.length := by
  induction vs with
  | nil => intro cs o; rfl
  | cons v vs ih => intro cs o; simp [lay, ih]

theorem lay_get (vs : List Value) : ∀ (cs : List Value) (o i : Nat), o + vs.length ≤ cs.length → (lay cs o vs)[i]? = if o ≤ i ∧ i < o + vs.length then vs[i - o]? else cs[i]? := by
  induction vs with
  | nil => intro cs o i _; simp [lay]; intro h1 h2; omega
  | cons v vs ih =>
    intro cs o i h
    simp only [List.length_cons] at h
    simp only [lay]
    rw [ih _ _ _ (by simp; omega)]
    by_cases h1 : o + 1 ≤ i ∧ i < o + 1 + vs.length
    · rw [if_pos h1, if_pos (by simp; omega)]
      rw [show i - o = (i - (o + 1)) + 1 by omega]; simp
    · rw [if_neg h1, List.getElem?_set]
      by_cases h2 : o = i
      · subst h2; rw [if_pos rfl, if_pos (by omega), if_pos (by simp)]; simp
      · rw [if_neg h2, if_neg (by simp; omega)]

/-- The machine's memory with a row of values laid over some cells of one block. -/
theorem run_storeCells (cb : Nat) (el : TypeId) (lo hi : Nat) (vs : List Value) : ∀ (w : World) (cc : Array Value) (o i : Nat), w.heap[cb]? = some (.cells cc el (lo, hi)) →
    (∀ v ∈ vs, oneCell v = true) → o + i + vs.length ≤ cc.size → (∀ j, o + i ≤ j → j < o + i + vs.length → ¬ (lo ≤ j ∧ j < hi)) →
    ∃ w', (storeCells ⟨cb, o, none⟩ vs i).run P w = .ok () w' ∧ w' = { w with heap := w.heap.setIfInBounds cb (.cells ⟨lay cc.toList (o + i) vs⟩ el (lo, hi)) } := by
  induction vs with
  | nil =>
    intro w cc o i hh _ _ _
    refine ⟨w, by simp [storeCells, run_pure], ?_⟩
    have hlt : cb < w.heap.size := by
      rcases Nat.lt_or_ge cb w.heap.size with h | h
      · exact h
      · rw [Array.getElem?_eq_none h] at hh; cases hh
    have he : w.heap[cb] = .cells cc el (lo, hi) := by rw [Array.getElem?_eq_getElem hlt] at hh; exact Option.some.inj hh
    have : w.heap.setIfInBounds cb (.cells ⟨lay cc.toList (o + i) []⟩ el (lo, hi)) = w.heap := by
      apply Array.ext (by simp)
      intro j h1 h2
      rw [Array.getElem_setIfInBounds]
      split
      · next e => subst e; rw [he]; rfl
      · rfl
    rw [this]
  | cons v vs ih =>
    intro w cc o i hh hone hsz hfr
    simp only [List.length_cons] at hsz hfr
    have hlt : cb < w.heap.size := by
      rcases Nat.lt_or_ge cb w.heap.size with h | h
      · exact h
      · rw [Array.getElem?_eq_none h] at hh; cases hh
    have hcell : ∃ u, w.cell? ⟨cb, o + i, none⟩ = some u := by
      rw [cell?_of hh]; exact ⟨_, Array.getElem?_eq_getElem (by omega)⟩
    obtain ⟨u, hu⟩ := hcell
    have hf : w.frozen? ⟨cb, o + i, none⟩ = false := by
      simp only [World.frozen?, hh]
      have := hfr (o + i) (by omega) (by omega)
      simp; omega
    have hset : (w.setCell ⟨cb, o + i, none⟩ v).heap[cb]? = some (.cells (cc.setIfInBounds (o + i) v) el (lo, hi)) := by
      have he : w.heap[cb] = .cells cc el (lo, hi) := by rw [Array.getElem?_eq_getElem hlt] at hh; exact Option.some.inj hh
      simp [World.setCell, Array.getElem?_modify, hh, he]
    have hst : (Go.store ⟨cb, o + i, none⟩ v).run P w = .ok () (w.setCell ⟨cb, o + i, none⟩ v) := by
      have h1 := hone v (by simp)
      cases v <;> simp [oneCell] at h1 <;> simp [Go.store, Sem.run, hu, hf]
    obtain ⟨w', hr, hw⟩ := ih (w.setCell ⟨cb, o + i, none⟩ v) (cc.setIfInBounds (o + i) v) o (i + 1) hset (fun x hx => hone x (by simp [hx])) (by simp; omega) (fun j h1 h2 => hfr j (by omega) (by omega))
    refine ⟨w', ?_, ?_⟩
    · simp only [storeCells, run_bind, add_plain, hst]; exact hr
    · rw [hw]
      have : (w.setCell ⟨cb, o + i, none⟩ v).heap.setIfInBounds cb (.cells ⟨lay (cc.setIfInBounds (o + i) v).toList (o + (i + 1)) vs⟩ el (lo, hi)) = w.heap.setIfInBounds cb (.cells ⟨lay cc.toList (o + i) (v :: vs)⟩ el (lo, hi)) := by
        apply Array.ext_getElem?
        intro j
        rw [Array.getElem?_setIfInBounds, Array.getElem?_setIfInBounds]
        by_cases e : cb = j
        · subst e; rw [if_pos rfl, if_pos rfl, if_pos (by rw [size_setCell]; exact hlt), if_pos hlt]
          simp [lay]; congr 1
        · rw [if_neg e, if_neg e]; simp [World.setCell, Array.getElem?_modify, e]
      rw [← this]; rfl

end
end Go.AS
end

section
namespace Go.AS
open Go
set_option linter.unusedSimpArgs false
set_option linter.unusedVariables false

section
variable {C : Comp} {ρ : Ren} {A : AHeap} {w : World} {P : Program}

/-- A block's word in another memory that has the same block there, under more entries. -/
theorem BRel.keep {ρ ρ' : Ren} {e : REnt} {h h' : Array Obj} {x : ABlk} (hle : Ren.le ρ ρ') (hh : x = .dead ∨ h'[e.cb]? = h[e.cb]?) (hx : BRel C ρ e h x) : BRel C ρ' e h' x := by
  cases x with
  | cells cs ro opn =>
    have hh : h'[e.cb]? = h[e.cb]? := by rcases hh with h | h; cases h; exact h
    obtain ⟨cc, el, lo, hi, h1, h2, h3, h4, h5⟩ := hx
    exact ⟨cc, el, lo, hi, hh.trans h1, h2, fun i v hv => let ⟨v', a, b⟩ := h3 i v hv; ⟨v', a, b.mono hle⟩, h4, h5⟩
  | loop st pend fn n env params assign body dfs =>
    have hh : h'[e.cb]? = h[e.cb]? := by rcases hh with h | h; cases h; exact h
    obtain ⟨l, h1, h2, h3, h4, h5, h6, h7, h8, h9, ed, h10, h11⟩ := hx
    exact ⟨l, hh.trans h1, h2, h3, h4, h5, h6, h7, h8, fun t => (h9 t).mono hle, ed, hle _ _ h10, h11⟩
  | map kk es clock =>
    have hh : h'[e.cb]? = h[e.cb]? := by rcases hh with h | h; cases h; exact h
    obtain ⟨es', h1, h2⟩ := hx
    exact ⟨es', hh.trans h1, h2.mono hle⟩
  | dfr taken =>
    have hh : h'[e.cb]? = h[e.cb]? := by rcases hh with h | h; cases h; exact h
    exact hh.trans hx
  | dead => trivial

/-- Memory of the same blocks. -/
theorem Tr.same {w' : World} (h : HRel C ρ A w.heap) (hh : w'.heap = w.heap) (ho : w'.os = w.os) (ht : w'.tape = w.tape) (hp : w'.output = w.output) : Tr C ρ A w ρ A w' where
  rel := by rw [hh]; exact h
  mono := Ren.le_refl _
  free := fun b h0 h1 => by omega
  fresh := fun b h0 h1 => absurd h0 h1
  size := Nat.le_refl _
  absent := fun _ _ _ => rfl
  still := fun _ _ _ => rfl
  newcb := fun b e h0 h1 => by rw [h0] at h1; cases h1
  frame := fun _ _ _ => by rw [hh]
  hsize := by rw [hh]; exact Nat.le_refl _
  os := ho
  tape := ht
  output := hp

/-- One block written. -/
theorem Tr.upd {w' : World} {b : Nat} {e : REnt} {x x' : ABlk} (h : HRel C ρ A w.heap) (he : ρ b = some e) (hb : A.get b = some x) (hnp : ¬ passive (some x)) (hnp' : x' = .dead ∨ ¬ passive (some x'))
    (hsz : w'.heap.size = w.heap.size) (hoth : ∀ cb, cb ≠ e.cb → w'.heap[cb]? = w.heap[cb]?) (hx : BRel C ρ e w'.heap x')
    (ho : w'.os = w.os) (ht : w'.tape = w.tape) (hp : w'.output = w.output) : Tr C ρ A w ρ (A.set b x') w' where
  rel := {
    glob := fun g hg => h.glob g hg
    blk := fun b' e' x2 he' hg => by
      rw [AHeap.get_set _ _ _ _ (AHeap.get_lt hb)] at hg
      split at hg
      · next hbb => subst hbb; rw [he] at he'; cases he'; cases hg; exact hx
      · next hbb =>
        refine BRel.keep (Ren.le_refl _) ?_ (h.blk b' e' x2 he' hg)
        by_cases hd : x2 = .dead
        · exact .inl hd
        · exact .inr (hoth _ (fun hc => h.inj b b' e e' x x2 (fun q => hbb q.symm) he he' hb hg hnp hd hc.symm))
    inj := fun b1 b2 e1 e2 x1 x2 hne h1 h2 hg1 hg2 hp1 hd2 => by
      rw [AHeap.get_set _ _ _ _ (AHeap.get_lt hb)] at hg1 hg2
      split at hg1
      · next q1 =>
        subst q1
        split at hg2
        · next q2 => exact absurd q2.symm hne
        · rw [he] at h1; cases h1
          exact h.inj b1 b2 e e2 x x2 hne he h2 hb hg2 hnp hd2
      · split at hg2
        · next q2 =>
          subst q2
          rw [he] at h2; cases h2
          exact h.inj b1 b2 e1 e x1 x hne h1 he hg1 hb hp1 (fun hd => by subst hd; exact hnp trivial)
        · exact h.inj b1 b2 e1 e2 x1 x2 hne h1 h2 hg1 hg2 hp1 hd2 }
  mono := Ren.le_refl _
  free := fun b h0 h1 => by simp at h1; omega
  fresh := fun b h0 h1 => absurd h0 h1
  size := Nat.le_refl _
  absent := fun b' _ h0 => by
    rw [AHeap.get_set _ _ _ _ (AHeap.get_lt hb), if_neg]
    intro hbb; subst hbb; rw [he] at h0; cases h0
  still := fun b' _ hpas => by
    rw [AHeap.get_set _ _ _ _ (AHeap.get_lt hb), if_neg]
    intro hbb; subst hbb; rw [hb] at hpas; exact hnp hpas
  newcb := fun b e h0 h1 => by rw [h0] at h1; cases h1
  frame := fun cb _ hpas => hoth cb (fun hc => hnp (hb ▸ hpas b e (AHeap.get_lt hb) he hc.symm))
  hsize := by rw [hsz]; exact Nat.le_refl _
  os := ho
  tape := ht
  output := hp

def Ren.upd (ρ : Ren) (b : Nat) (e : REnt) : Ren := fun j => if j = b then some e else ρ j

theorem Ren.le_upd {b : Nat} {e : REnt} (h : ρ b = none) : Ren.le ρ (Ren.upd ρ b e) := fun j f hj => by
  unfold Ren.upd; split
  · next q => subst q; rw [h] at hj; cases hj
  · exact hj

theorem Ren.upd_same {b : Nat} {e : REnt} : Ren.upd ρ b e b = some e := by simp [Ren.upd]

theorem heap_push_old {w : World} {o : Obj} {k : Nat} (h : k < w.heap.size) : (w.heap.push o)[k]? = w.heap[k]? := by
  rw [Array.getElem?_push, if_neg (by omega)]

theorem brel_lt {e : REnt} {h : Array Obj} {x : ABlk} (hx : BRel C ρ e h x) (hd : x ≠ .dead) : e.cb < h.size := by
  have key : ∀ o, h[e.cb]? = some o → e.cb < h.size := fun o ho => by
    rcases Nat.lt_or_ge e.cb h.size with q | q
    · exact q
    · rw [Array.getElem?_eq_none q] at ho; cases ho
  cases x with
  | cells cs ro opn => obtain ⟨cc, el, lo, hi, h1, _⟩ := hx; exact key _ h1
  | loop st pend fn n env params assign body dfs => obtain ⟨l, h1, _⟩ := hx; exact key _ h1
  | dfr taken => exact key _ hx
  | map kk es clock => obtain ⟨es', h1, _⟩ := hx; exact key _ h1
  | dead => exact absurd rfl hd

/-- A new block. -/
theorem Tr.alloc {w' : World} {o : Obj} {e : REnt} {x : ABlk} (h : HRel C ρ A w.heap) (hfree : ρ A.size = none) (hcb : e.cb = w.heap.size) (hh : w'.heap = w.heap.push o)
    (hx : BRel C (Ren.upd ρ A.size e) e w'.heap x)
    (ho : w'.os = w.os) (ht : w'.tape = w.tape) (hp : w'.output = w.output) : Tr C ρ A w (Ren.upd ρ A.size e) (A.alloc x) w' where
  rel := {
    glob := fun g hg => Ren.le_upd hfree _ _ (h.glob g hg)
    blk := fun b' e' x2 he' hg => by
      rw [AHeap.get_alloc] at hg
      split at hg
      · next q => subst q; rw [Ren.upd_same] at he'; cases he'; cases hg; exact hx
      · next q =>
        have he2 : ρ b' = some e' := by unfold Ren.upd at he'; rw [if_neg q] at he'; exact he'
        refine BRel.keep (Ren.le_upd hfree) ?_ (h.blk b' e' x2 he2 hg)
        by_cases hd : x2 = .dead
        · exact .inl hd
        · exact .inr (by rw [hh]; exact heap_push_old (brel_lt (h.blk b' e' x2 he2 hg) hd))
    inj := fun b1 b2 e1 e2 x1 x2 hne h1 h2 hg1 hg2 hp1 hd2 => by
      rw [AHeap.get_alloc] at hg1 hg2
      split at hg1
      · next q1 =>
        subst q1
        split at hg2
        · next q2 => exact absurd q2.symm hne
        · next q2 =>
          rw [Ren.upd_same] at h1; cases h1
          have h2' : ρ b2 = some e2 := by unfold Ren.upd at h2; rw [if_neg q2] at h2; exact h2
          have := brel_lt (h.blk b2 e2 x2 h2' hg2) hd2
          omega
      · next q1 =>
        have h1' : ρ b1 = some e1 := by unfold Ren.upd at h1; rw [if_neg q1] at h1; exact h1
        split at hg2
        · next q2 =>
          subst q2
          rw [Ren.upd_same] at h2; cases h2
          have := brel_lt (h.blk b1 e1 x1 h1' hg1) (fun hd => by subst hd; exact hp1 trivial)
          omega
        · next q2 =>
          have h2' : ρ b2 = some e2 := by unfold Ren.upd at h2; rw [if_neg q2] at h2; exact h2
          exact h.inj b1 b2 e1 e2 x1 x2 hne h1' h2' hg1 hg2 hp1 hd2 }
  mono := Ren.le_upd hfree
  free := fun b h0 h1 => by simp at h1; have : b = A.size := by omega
                            subst this; exact hfree
  fresh := fun b h0 h1 => by
    unfold Ren.upd at h1
    split at h1
    · next q => subst q; simp
    · exact absurd h0 h1
  size := by simp
  absent := fun b' hb _ => by rw [AHeap.get_alloc, if_neg (by omega)]
  still := fun b' hb _ => by rw [AHeap.get_alloc, if_neg (by omega)]
  newcb := fun b e' h0 h1 => by
    unfold Ren.upd at h1
    split at h1
    · cases h1; exact .inl (by omega)
    · rw [h0] at h1; cases h1
  frame := fun cb hcb _ => by rw [hh]; exact heap_push_old hcb
  hsize := by rw [hh]; simp
  os := ho
  tape := ht
  output := hp

/-- A block taken over under a new name (an append that found room): the old name is dead. -/
theorem Tr.move {w' : World} {b : Nat} {e e' : REnt} {x x' : ABlk} (h : HRel C ρ A w.heap) (hfree : ρ A.size = none) (he : ρ b = some e) (hb : A.get b = some x) (hnp : ¬ passive (some x)) (hcb : e'.cb = e.cb)
    (hsz : w'.heap.size = w.heap.size) (hoth : ∀ cb, cb ≠ e.cb → w'.heap[cb]? = w.heap[cb]?) (hx : BRel C (Ren.upd ρ A.size e') e' w'.heap x')
    (ho : w'.os = w.os) (ht : w'.tape = w.tape) (hp : w'.output = w.output) : Tr C ρ A w (Ren.upd ρ A.size e') ((A.set b .dead).alloc x') w' := by
  have hblt := AHeap.get_lt hb
  exact {
  rel := {
    glob := fun g hg => Ren.le_upd hfree _ _ (h.glob g hg)
    blk := fun b' e2 x2 he' hg => by
      rw [AHeap.get_move _ _ _ _ _ hblt] at hg
      split at hg
      · next q => subst q; rw [Ren.upd_same] at he'; cases he'; cases hg; exact hx
      · next q =>
        have he2 : ρ b' = some e2 := by unfold Ren.upd at he'; rw [if_neg q] at he'; exact he'
        split at hg
        · cases hg; trivial
        · next hbb =>
          refine BRel.keep (Ren.le_upd hfree) ?_ (h.blk b' e2 x2 he2 hg)
          by_cases hd : x2 = .dead
          · exact .inl hd
          · exact .inr (hoth _ (fun hc => h.inj b b' e e2 x x2 (fun q => hbb q.symm) he he2 hb hg hnp hd hc.symm))
    inj := fun b1 b2 e1 e2 x1 x2 hne h1 h2 hg1 hg2 hp1 hd2 => by
      rw [AHeap.get_move _ _ _ _ _ hblt] at hg1 hg2
      by_cases q1 : b1 = A.size
      · rw [if_pos q1] at hg1
        subst q1
        rw [if_neg (fun q => hne q.symm)] at hg2
        rw [Ren.upd_same] at h1; cases h1
        have h2' : ρ b2 = some e2 := by unfold Ren.upd at h2; rw [if_neg (fun q => hne q.symm)] at h2; exact h2
        by_cases q2 : b2 = b
        · rw [if_pos q2] at hg2; cases hg2; exact absurd rfl hd2
        · rw [if_neg q2] at hg2; rw [hcb]; exact h.inj b b2 e e2 x x2 (fun q => q2 q.symm) he h2' hb hg2 hnp hd2
      · rw [if_neg q1] at hg1
        have h1' : ρ b1 = some e1 := by unfold Ren.upd at h1; rw [if_neg q1] at h1; exact h1
        by_cases q1b : b1 = b
        · rw [if_pos q1b] at hg1; cases hg1; exact absurd trivial hp1
        · rw [if_neg q1b] at hg1
          by_cases q2 : b2 = A.size
          · rw [if_pos q2] at hg2
            subst q2
            rw [Ren.upd_same] at h2; cases h2
            rw [hcb]
            exact h.inj b1 b e1 e x1 x q1b h1' he hg1 hb hp1 (fun hd => by subst hd; exact hnp trivial)
          · rw [if_neg q2] at hg2
            have h2' : ρ b2 = some e2 := by unfold Ren.upd at h2; rw [if_neg q2] at h2; exact h2
            by_cases q2b : b2 = b
            · rw [if_pos q2b] at hg2; cases hg2; exact absurd rfl hd2
            · rw [if_neg q2b] at hg2; exact h.inj b1 b2 e1 e2 x1 x2 hne h1' h2' hg1 hg2 hp1 hd2 }
  mono := Ren.le_upd hfree
  free := fun b h0 h1 => by
    simp at h1
    have : b = A.size := by omega
    subst this; exact hfree
  fresh := fun b h0 h1 => by
    unfold Ren.upd at h1
    split at h1
    · next q => subst q; simp
    · exact absurd h0 h1
  size := by simp
  absent := fun b' hb' h0 => by
    rw [AHeap.get_move _ _ _ _ _ hblt, if_neg (by omega), if_neg]
    intro hbb; subst hbb; rw [he] at h0; cases h0
  still := fun b' hb' hpas => by
    rw [AHeap.get_move _ _ _ _ _ hblt, if_neg (by omega), if_neg]
    intro hbb; subst hbb; rw [hb] at hpas; exact hnp hpas
  newcb := fun b2 e2 h0 h1 => by
    unfold Ren.upd at h1
    split at h1
    · cases h1; exact .inr ⟨b, e, hblt, he, hcb.symm, hb ▸ hnp⟩
    · rw [h0] at h1; cases h1
  frame := fun cb _ hpas => hoth cb (fun hc => hnp (hb ▸ hpas b e hblt he hc.symm))
  hsize := by rw [hsz]; exact Nat.le_refl _
  os := ho
  tape := ht
  output := hp }

end
end Go.AS
end

section
namespace Go.AS
open Go
set_option linter.unusedSimpArgs false
set_option linter.unusedVariables false

section
variable {ρ : Ren}
theorem plain0_VR {v : Value} (h : plain0 v = true) : VR ρ v v := by
  unfold plain0 at h
  split at h <;> first | (constructor; done) | exact .func _ _ _ _ _ .nil .nil | cases h
theorem plain1_VR {v : Value} (h : plain1 v = true) : VR ρ v v := by
  unfold plain1 at h
  split at h
  · exact .iface _ _ _ (plain0_VR h)
  · exact plain0_VR h
theorem plains_VRs {l : List Value} (h : l.all plain1 = true) : VRs ρ l l := by
  induction l with
  | nil => exact .nil
  | cons v l ih => simp at h; exact .cons _ _ _ _ (plain1_VR h.1) (ih (by simpa using h.2))
theorem plainV_VR {v : Value} (h : plainV v = true) : VR ρ v v := by
  unfold plainV at h
  split at h
  · exact .agg _ _ (plains_VRs h)
  · exact .tuple _ _ (plains_VRs h)
  · exact .iface _ _ _ (.agg _ _ (plains_VRs h))
  · exact plain1_VR h
end

/-! ## Types looked up -/
def szOf (P : Program) (t : TypeId) : Option Nat := (P.info? t).map (·.size)
def bytesOf (P : Program) (t : TypeId) : Option Nat := (P.info? t).map (·.bytes)
def aggOf (P : Program) (t : TypeId) : Option Bool := (P.underlying t).map fun d => match d with | .struct _ | .array _ _ => true | _ => false
def zeroOf (P : Program) (t : TypeId) : Option (List Value) := do
  let i ← P.info? t
  let z ← i.zero
  if (cl z).all plain1 then some (cl z) else none
def isIntT (P : Program) (t : TypeId) : Bool := match P.underlying t with | some (.int _) => true | _ => false

def fieldLeaves (P : Program) (fl : TypeId → Option (List (Nat × LeafK))) (f : Field) : Option (List (Nat × LeafK)) :=
  if f.name = "_" then some [] else
  match fl f.type, szOf P f.type with
  | some l, some s => if l.all (fun p => p.1 < s) && !l.isEmpty then some (l.map fun p => (f.offset + p.1, p.2)) else none
  | _, _ => none

/-- The cells by which two values of a type are compared. -/
def flat (P : Program) : Nat → TypeId → Option (List (Nat × LeafK))
  | 0, _ => none
  | d + 1, t =>
    match P.underlying t with
    | some .bool => some [(0, .b)]
    | some (.int _) => some [(0, .i)]
    | some .string => some [(0, .s)]
    | some (.struct fs) =>
      if P.stoodInHeld t then none else
      (fs.toList.mapM (fieldLeaves P (flat P d))).map List.flatten
    | some (.array n e) =>
      match flat P d e, szOf P e with
      | some l, some s => if l.all (fun p => p.1 < s) && !l.isEmpty then some ((List.range n).flatMap fun i => l.map fun p => (i * s + p.1, p.2)) else none
      | _, _ => none
    | _ => none

def partsOf (P : Program) (t : TypeId) (parts : List (Nat × Operand)) : Option (List (Nat × Nat × Operand)) :=
  match P.underlying t with
  | some (.struct fields) => if fields.toList.all (fun f => (szOf P f.type).isSome) then
      parts.mapM fun p => do let f ← fields[p.1]?; let s ← szOf P f.type; some (f.offset, s, p.2) else none
  | some (.array _ elem) => do let s ← szOf P elem; some (parts.map fun p => (p.1 * s, s, p.2))
  | _ => none

def eqKind : TypeDesc → Option EqK
  | .bool => some .bool
  | .pointer _ => some .ptr
  | .slice _ => some .slice
  | .map _ _ => some .map
  | .func _ _ _ => some .func
  | .interface _ => some .iface
  | _ => none

def isIntD : TypeDesc → Bool
  | .int _ => true
  | _ => false

def isLit : Operand → Bool
  | .const _ => true
  | _ => false

/-- The operation, types looked up; none: not one of ours. -/
def compileOp (P : Program) (o : Oper) : Option AOp :=
  if !(o.op.operands.toList.all okOp) then none else
  match o.op with
  | .move x | .assign x => some (.mov x)
  | .pick c a b => some (.pick c a b)
  | .alloc elem => (zeroOf P elem).map (.alloc elem)
  | .box elem x => (szOf P elem).map fun n => .box elem n x
  | .build t parts => do let ps ← partsOf P t parts.toList; let z ← zeroOf P t; some (.build z ps)
  | .buildSlice t len parts =>
    match P.underlying t with
    | some (.slice elem) => do
      let s ← szOf P elem
      let z ← if len * s = 0 then some [] else zeroOf P elem
      if len * s ≤ 16777216 ∧ len ≤ 16777216 ∧ (len * s = 0 ∨ z.length = s) then some (.bslice elem len z (parts.toList.map fun p => (p.1 * s, s, p.2))) else none
    | _ => none
  | .load t a => do let g ← aggOf P t; let s ← szOf P t; some (if g then .loadN s a else .load1 a)
  | .store t a x => (szOf P t).map fun n => .store n a x
  | .nilCheck x => some (.nilchk x)
  | .binOp op t x y _ =>
    match P.underlying t, op with
    | some (.int _), _ => some (.bin op x y)
    | some .string, _ => some (.bin op x y)
    | some (.struct _), .eql | some (.array _ _), .eql => if P.eqGuardType P.depth t then none else (flat P 20 t).map fun l => .eqF false l x y
    | some (.struct _), .neq | some (.array _ _), .neq => if P.eqGuardType P.depth t then none else (flat P 20 t).map fun l => .eqF true l x y
    | some d, .eql => (eqKind d).map fun k => .eq false (isLit x || isLit y) k x y
    | some d, .neq => (eqKind d).map fun k => .eq true (isLit x || isLit y) k x y
    | _, _ => none
  | .unOp op _ x => some (.un op x)
  | .convert src dst x =>
    match P.underlying src, P.underlying dst with
    | some (.int _), some (.int k) => some (.cvInt k x)
    | some .string, some .string => some (.cvStr x)
    | some .string, some (.slice e) => match P.underlying e with
      | some (.int .u8) => if szOf P e = some 1 then some (.cvS2B e x) else none
      | _ => none
    | some (.slice e), some .string => match P.underlying e with
      | some (.int .u8) => some (.cvB2S x)
      | _ => none
    | _, _ => none
  | .typeAssert x _ t false => match P.underlying t with
    | some (.interface _) => none
    | some _ => some (.tassert t x)
    | none => none
  | .makeInterface t x => match P.underlying t with
    | some (.interface _) => none
    | some _ => some (.mkI t x)
    | none => none
  | .makeFunc (.func f) first captured => some (.mkF f first.toList captured.toList)
  | .makeSlice t l c => match P.underlying t with
    | some (.slice elem) => do let s ← szOf P elem; let b ← bytesOf P elem; let z ← zeroOf P elem; some (.mkS elem s b z l c)
    | _ => none
  | .slice t x lo hi mx => match P.underlying t with
    | some (.array n elem) => (szOf P elem).map fun s => .sliceA n s x lo hi mx
    | some .string => if mx.isSome then none else some (.sliceS x lo hi)
    | some (.slice elem) => (szOf P elem).map fun s => .sliceV s x lo hi mx
    | _ => none
  | .fieldAddr t x f => match P.underlying t with
    | some (.struct fields) => do let g ← fields[f]?; let s ← szOf P g.type; if s = 0 then none else some (.faddr g.offset x)
    | _ => none
  | .field t x f => match P.underlying t with
    | some (.struct fields) => do let g ← fields[f]?; let s ← szOf P g.type; let a ← aggOf P g.type; some (if a then .fldN g.offset s x else .fld1 g.offset x)
    | _ => none
  | .indexAddr t x i => match P.underlying t with
    | some (.array n elem) => (szOf P elem).map fun s => .iaddrA n s x i
    | some (.slice elem) => (szOf P elem).map fun s => .iaddrS s x i
    | _ => none
  | .index t x i => match P.underlying t with
    | some (.array n elem) => do let s ← szOf P elem; let a ← aggOf P elem; some (if a then .idxN n s x i else .idx1 n s x i)
    | some .string => some (.idxS x i)
    | _ => none
  | .extract x i => some (.ext x i)
  | .call { callee := .builtin .len, args, argTypes } =>
    match argTypes[0]?, args[0]? with
    | some t, some x => match P.underlying t with
      | some .string => some (.lenS x)
      | some (.slice _) => some (.lenV x)
      | some (.array n _) => some (.lenC n)
      | some (.pointer a) => match P.underlying a with | some (.array n _) => some (.lenC n) | _ => none
      | _ => none
    | _, _ => none
  | .call { callee := .builtin .append, args, argTypes } =>
    match argTypes.toList, args.toList with
    | [t, u], [s, x] => match P.underlying t, P.underlying u with
      | some (.slice elem), some d => if isIntD d then none else do
          let z ← szOf P elem; let b ← bytesOf P elem; let zz ← zeroOf P elem
          if zz.length = z then some (.append elem z b s x) else none
      | _, _ => none
    | _, _ => none
  | .call { callee := .builtin .copy, args, argTypes } =>
    match argTypes[0]?, args[0]?, args[1]? with
    | some t, some d, some s => match P.underlying t with
      | some (.slice elem) => (szOf P elem).map fun z => .copy z d s
      | _ => none
    | _, _, _ => none
  | .makeMap t r => match P.underlying t with
    | some (.map kt _) => match P.underlying kt with
      | some (.int .i64) => some (.mkMap r)
      | _ => none
    | _ => none
  | .mapUpdate t m k x => match P.underlying t with
    | some (.map kt _) => match P.underlying kt with
      | some (.int kk) => some (.mapPut kk m k x)
      | _ => none
    | _ => none
  | .insert t m k x => match P.underlying t with
    | some (.map kt _) => match P.underlying kt with
      | some (.int kk) => some (.mapPut kk m k x)
      | _ => none
    | _ => none
  | .lookup t m k ok => match P.underlying t with
    | some (.map kt et) => match P.underlying kt with
      | some (.int kk) => match (P.info? et).bind (·.zero) with
        | some z => if plainV z then some (.mapGet kk ok z m k) else none
        | none => none
      | _ => none
    | _ => none
  | .call { callee := .builtin .delete, args, argTypes } =>
    match argTypes[0]?, args[0]?, args[1]? with
    | some t, some m, some k => match P.underlying t with
      | some (.map kt _) => match P.underlying kt with
        | some (.int kk) => some (.mapDel kk m k)
        | _ => none
      | _ => none
    | _, _, _ => none
  | .call { callee := .builtin .clear, args, argTypes } =>
    match argTypes[0]?, args[0]? with
    | some t, some s => match P.underlying t with
      | some (.slice elem) => (zeroOf P elem).map fun z => .clear z s
      | _ => none
    | _, _ => none
  | .call { callee := .builtin .min, args, .. } => some (.min args.toList)
  | .call { callee := .builtin .max, args, .. } => some (.max args.toList)
  | .call { callee := .value (.func f), args, .. } =>
    match P.funcs[f]? with
    | some fn => if fn.name == "runtime.NumGoroutine" || fn.body.isNone then none else some (.call f args.toList)
    | none => none
  | .call { callee := .value f, args, .. } => some (.callv f args.toList)
  | _ => none

end Go.AS
end

section
namespace Go.AS
open Go
set_option linter.unusedSimpArgs false
set_option linter.unusedVariables false

section
variable {C : Comp} {ρ : Ren} {A : AHeap} {w : World} {P : Program} {e : Env} {cev : Operand → Value}

theorem run_typeInfo {t : TypeId} {i : TypeInfo} (h : P.info? t = some i) : (typeInfo t).run P w = .ok i w := by
  simp [typeInfo, run_bind, program, Sem.run, h, run_pure]
theorem run_underlying {t : TypeId} {d : TypeDesc} (h : P.underlying t = some d) : (underlying t).run P w = .ok d w := by
  simp [underlying, run_bind, program, Sem.run, h, run_pure]
theorem run_sizeOf {t : TypeId} {n : Nat} (h : szOf P t = some n) : (sizeOf t).run P w = .ok n w := by
  unfold szOf at h
  cases hi : P.info? t with
  | none => rw [hi] at h; cases h
  | some i => rw [hi] at h; cases h; simp only [sizeOf, run_bind, run_typeInfo hi, run_pure]
theorem run_isAgg {t : TypeId} {b : Bool} (h : aggOf P t = some b) : (isAgg t).run P w = .ok b w := by
  unfold aggOf at h
  cases hi : P.underlying t with
  | none => rw [hi] at h; cases h
  | some d =>
    rw [hi] at h
    simp only [Option.map_some, Option.some.injEq] at h
    simp only [isAgg, run_bind, run_underlying hi]
    split at h <;> subst h <;> (first | rfl | (split <;> first | rfl | simp_all))
theorem zeroOf_spec {t : TypeId} {z : List Value} (h : zeroOf P t = some z) : ∃ v, (zeroValue t).run P w = .ok v w ∧ cl v = z ∧ VRs ρ z z := by
  unfold zeroOf at h
  cases hi : P.info? t with
  | none => rw [hi] at h; cases h
  | some i =>
    rw [hi] at h
    simp only [Option.bind_eq_bind, Option.bind_some] at h
    cases hz : i.zero with
    | none => rw [hz] at h; cases h
    | some v =>
      rw [hz] at h
      simp only [Option.bind_some] at h
      split at h
      · rename_i hp
        cases h
        exact ⟨v, by simp only [zeroValue, run_bind, run_typeInfo hi, hz, run_pure], rfl, plains_VRs hp⟩
      · cases h

theorem run_v {s : Sem Value} {x : Value} {w' : World} (h : s.run P w = .ok x w') : (do let r ← s; pure (Next.value r) : Sem Next).run P w = .ok (.value x) w' := by
  rw [run_bind, h]; rfl
theorem run_u {s : Sem Unit} {w' : World} (h : s.run P w = .ok () w') : (do s; pure Next.skip : Sem Next).run P w = .ok .skip w' := by
  rw [run_bind, h]; rfl

theorem VRs.map {l : List Operand} (h : ∀ x ∈ l, VR ρ (ev e x) (cev x)) : VRs ρ (l.map (ev e)) (l.map cev) := by
  induction l with
  | nil => exact .nil
  | cons x l ih => exact .cons _ _ _ _ (h x (by simp)) (ih fun y hy => h y (by simp [hy]))

/-! ### Numbers and strings -/
theorem append_bytes (a b : ByteArray) : a ++ b = ⟨⟨a.data.toList ++ b.data.toList⟩⟩ := by
  apply ByteArray.ext
  apply Array.ext'
  simp

theorem run_addS {a b : ByteArray} {v : Value} (t : TypeId) (h : binA .add (.string a) (.string b) = some v) : (binOp .add t (.string a) (.string b)).run P w = .ok v w := by
  simp only [binA] at h
  split at h
  · cases h
  · rename_i hb
    have hs : ¬ ((a.size + b.size : Nat) : Int) > IntKind.i64.max := hb
    cases h
    simp only [binOp, Op.stringOp, if_neg hs, run_pure, append_bytes]

theorem binA_sound {op : BinOp} {x y v : Value} {x' y' : Value} (t : TypeId) (h : binA op x y = some v) (hx : VR ρ x x') (hy : VR ρ y y') :
    (binOp op t x' y').run P w = .ok v w ∧ VR ρ v v := by
  unfold binA at h
  split at h
  · rename_i k a k' b
    cases hx; cases hy
    split at h
    · split at h
      · cases h
      · cases h; rename_i hb; exact ⟨by simp only [binOp, Op.shift, if_neg hb, run_pure], .int _ _⟩
    · split at h
      · cases h
      · cases h; rename_i hb; exact ⟨by simp only [binOp, Op.shift, if_neg hb, run_pure], .int _ _⟩
    · rename_i hs1 hs2
      split at h
      · cases h
      · rename_i hk
        have hk' : k = k' := by simpa using hk
        subst hk'
        split at h
        all_goals first
          | (cases h; exact ⟨by simp only [binOp, ne_eq, not_true_eq_false, if_false, Op.intArith, Op.intBits, Op.intCmp, run_pure], by constructor⟩)
          | (split at h
             · cases h
             · rename_i hb; cases h; exact ⟨by simp only [binOp, ne_eq, not_true_eq_false, if_false, Op.intDiv, if_neg hb, run_pure], by constructor⟩)
          | cases h
  · rename_i a b
    cases hx; cases hy
    have e1 : a.toList = a.data.toList := ByteArray.toList_eq a
    have e2 : b.toList = b.data.toList := ByteArray.toList_eq b
    cases op
    case add => exact ⟨run_addS t h, by
      simp only [binA] at h
      split at h
      · cases h
      · cases h; constructor⟩
    all_goals first
      | (cases h; exact ⟨by simp only [binOp, Op.stringOp, e1, e2, run_pure], by constructor⟩)
      | (simp at h; done)
  · cases h

theorem unA_sound {op : UnOp} {x v x' : Value} (h : unA op x = some v) (hx : VR ρ x x') : (Op.unary op x').run P w = .ok v w ∧ VR ρ v v := by
  unfold unA at h
  split at h
  · cases hx; cases h; exact ⟨rfl, by constructor⟩
  · cases hx; cases h; exact ⟨rfl, by constructor⟩
  · cases hx; cases h; exact ⟨rfl, by constructor⟩
  · cases h

end
end Go.AS
end

section
namespace Go.AS
open Go
set_option linter.unusedSimpArgs false
set_option linter.unusedVariables false

section
variable {C : Comp} {ρ : Ren} {A : AHeap} {w : World} {P : Program} {e : Env} {cev : Operand → Value}

/-! ### Filling in parts -/
theorem zipFold (vs : List Value) : ∀ (k : Nat) (cs : Array Value) (off : Nat), (vs.toArray.zipIdx k).foldl (fun cs (c, j) => cs.setIfInBounds (off + j) c) cs = ⟨lay cs.toList (off + k) vs⟩ := by
  induction vs with
  | nil => intro k cs off; rw [← Array.foldl_toList]; simp [lay]
  | cons v vs ih =>
    intro k cs off
    rw [← Array.foldl_toList]
    simp only [Array.toList_zipIdx, List.zipIdx_cons, List.foldl_cons]
    have := ih (k + 1) (cs.setIfInBounds (off + k) v) off
    rw [← Array.foldl_toList] at this
    simp only [Array.toList_zipIdx] at this
    rw [this]
    simp [lay, Nat.add_assoc]

theorem VRs.lay {vs vs' : List Value} (hv : VRs ρ vs vs') : ∀ {cs cs' : List Value} (o : Nat), VRs ρ cs cs' → VRs ρ (lay cs o vs) (lay cs' o vs') := by
  induction vs generalizing vs' with
  | nil => intro cs cs' o h; cases hv; exact h
  | cons v vs ih =>
    intro cs cs' o h
    cases hv with
    | cons _ _ _ _ h1 h2 => exact ih h2 (o + 1) (h.set o h1)

/-- Parts laid, each at its own place. -/
theorem fill_sound (place : Nat → Option (Nat × Nat)) (ps : List (Nat × Operand)) (qs : List (Nat × Nat × Operand))
    (hp : ps.length = qs.length) (hpl : ∀ (i : Nat) (p : Nat × Operand) (q : Nat × Nat × Operand), ps[i]? = some p → qs[i]? = some q → place p.1 = some (q.1, q.2.1) ∧ p.2 = q.2.2)
    (hev : ∀ p ∈ ps, VR ρ (ev e p.2) (cev p.2)) : ∀ (cs cs' : List Value) (out : List Value), VRs ρ cs cs' →
      fillP cs (qs.map fun q => (q.1, q.2.1, ev e q.2.2)) = some out →
      ∃ out', Instr.fill place ⟨cs'⟩ (ps.map fun p => (p.1, cev p.2)) = some out' ∧ VRs ρ out out'.toList := by
  induction ps generalizing qs with
  | nil =>
    intro cs cs' out h hf
    cases qs with
    | nil => simp only [List.map_nil, fillP] at hf; cases hf; exact ⟨⟨cs'⟩, rfl, h⟩
    | cons _ _ => simp at hp
  | cons p ps ih =>
    intro cs cs' out h hf
    cases qs with
    | nil => simp at hp
    | cons q qs =>
      obtain ⟨h1, h2⟩ := hpl 0 p q rfl rfl
      simp only [List.map_cons, fillP] at hf
      split at hf
      · cases hf
      · rename_i hk
        have hv := hev p (by simp)
        rw [h2] at hv
        have hlen := hv.cl.length
        have hlen2 := h.length
        obtain ⟨out', e1, e2⟩ := ih qs (by simpa using hp) (fun i p' q' a b => hpl (i + 1) p' q' (by simpa using a) (by simpa using b)) (fun p' hp' => hev p' (by simp [hp'])) _ _ out (hv.cl.lay q.1 h) hf
        refine ⟨out', ?_, e2⟩
        simp only [List.map_cons, Instr.fill, h1, h2]
        have hsz : (cev q.2.2).cells.size = (cl (cev q.2.2)).length := by rw [cells_cl]; simp
        have hk2 : ¬ ((decide ((cev q.2.2).cells.size ≠ q.2.1) || decide (q.1 + (cev q.2.2).cells.size > (Array.mk cs').size)) = true) := by
          rw [hsz, hlen]; simpa [hlen2] using hk
        rw [if_neg hk2]
        rw [show ((cev q.2.2).cells.zipIdx).foldl (fun cs x => cs.setIfInBounds (q.1 + x.2) x.1) (Array.mk cs') = ⟨lay cs' q.1 (cl (cev q.2.2))⟩ from by
          have := zipFold (cl (cev q.2.2)) 0 ⟨cs'⟩ q.1
          rw [cells_cl]; simpa using this]
        exact e1

/-! ### Bounds of a slice expression -/
theorem bnd_sound {x x' : Value} {y n : Nat} (code : BoundsCode) (h : bnd x y = some n) (hx : VR ρ x x') : (Instr.sliceBound x' y code).run P w = .ok n w ∧ n ≤ y := by
  unfold bnd at h
  split at h
  · cases hx
    split at h
    · rename_i hb; cases h
      refine ⟨?_, by omega⟩
      simp only [Instr.sliceBound, run_bind, asIntOf, run_pure, if_pos hb]
    · cases h
  · cases h

theorem bnds_sound {len cap : Nat} {lo hi mx : Option Operand} {l h m : Nat} (isS : Bool) (hb : bndsA len cap (lo.map (ev e)) (hi.map (ev e)) (mx.map (ev e)) = some (l, h, m))
    (hlc : len ≤ cap) (hlo : ∀ x, lo = some x → VR ρ (ev e x) (cev x)) (hhi : ∀ x, hi = some x → VR ρ (ev e x) (cev x)) (hmx : ∀ x, mx = some x → VR ρ (ev e x) (cev x)) :
    (Instr.sliceBounds isS len cap (lo.map cev) (hi.map cev) (mx.map cev)).run P w = .ok (l, h, m) w ∧ l ≤ h ∧ h ≤ m ∧ m ≤ cap := by
  unfold bndsA at hb
  cases mx with
  | none =>
    simp only [Option.map_none] at hb
    cases hi with
    | none =>
      simp only [Option.map_none] at hb
      cases lo with
      | none => simp only [Option.map_none] at hb; cases hb; exact ⟨by simp only [Instr.sliceBounds, run_bind, run_pure, Option.map_none], by omega, hlc, Nat.le_refl _⟩
      | some a =>
        simp only [Option.map_some] at hb
        cases h1 : bnd (ev e a) len with
        | none => rw [h1] at hb; cases hb
        | some n =>
          rw [h1] at hb; cases hb
          have := bnd_sound (P := P) (w := w) .sliceB h1 (hlo a rfl)
          exact ⟨by simp [Instr.sliceBounds, run_bind, run_pure, Option.map_none, Option.map_some, this.1], this.2, hlc, Nat.le_refl _⟩
    | some b =>
      simp only [Option.map_some] at hb
      cases h2 : bnd (ev e b) cap with
      | none => rw [h2] at hb; cases hb
      | some n2 =>
        rw [h2] at hb
        have k2 := bnd_sound (P := P) (w := w) (if isS then .sliceAcap else .sliceAlen) h2 (hhi b rfl)
        cases lo with
        | none => simp only [Option.map_none] at hb; cases hb; exact ⟨by simp [Instr.sliceBounds, run_bind, run_pure, Option.map_none, Option.map_some, k2.1], by omega, k2.2, Nat.le_refl _⟩
        | some a =>
          simp only [Option.map_some] at hb
          cases h1 : bnd (ev e a) n2 with
          | none => rw [h1] at hb; cases hb
          | some n =>
            rw [h1] at hb; cases hb
            have := bnd_sound (P := P) (w := w) .sliceB h1 (hlo a rfl)
            exact ⟨by simp [Instr.sliceBounds, run_bind, run_pure, Option.map_none, Option.map_some, k2.1, this.1], this.2, k2.2, Nat.le_refl _⟩
  | some c =>
    simp only [Option.map_some] at hb
    cases h3 : bnd (ev e c) cap with
    | none => rw [h3] at hb; cases hb
    | some n3 =>
      rw [h3] at hb
      have k3 := bnd_sound (P := P) (w := w) (if isS then .slice3Acap else .slice3Alen) h3 (hmx c rfl)
      cases hi with
      | none => simp only [Option.map_none] at hb; cases hb
      | some b =>
        simp only [Option.map_some] at hb
        cases h2 : bnd (ev e b) n3 with
        | none => rw [h2] at hb; cases hb
        | some n2 =>
          rw [h2] at hb
          have k2 := bnd_sound (P := P) (w := w) .slice3B h2 (hhi b rfl)
          cases lo with
          | none => simp only [Option.map_none] at hb; cases hb; exact ⟨by simp [Instr.sliceBounds, run_bind, run_pure, Option.map_none, Option.map_some, k2.1, k3.1], by omega, k2.2, k3.2⟩
          | some a =>
            simp only [Option.map_some] at hb
            cases h1 : bnd (ev e a) n2 with
            | none => rw [h1] at hb; cases hb
            | some n =>
              rw [h1] at hb; cases hb
              have := bnd_sound (P := P) (w := w) .slice3C h1 (hlo a rfl)
              exact ⟨by simp [Instr.sliceBounds, run_bind, run_pure, Option.map_none, Option.map_some, k2.1, k3.1, this.1], this.2, k2.2, k3.2⟩

theorem bndsA_le {len cap : Nat} {lo hi mx : Option Value} {l h m : Nat} (hb : bndsA len cap lo hi mx = some (l, h, m)) : True := trivial

end
end Go.AS
end

section
namespace Go.AS
open Go
set_option linter.unusedSimpArgs false
set_option linter.unusedVariables false

section
variable {C : Comp} {ρ : Ren} {A : AHeap} {w : World} {P : Program} {e : Env} {cev : Operand → Value}

theorem VR.ptr_inv {b o : Nat} {x : Value} (h : VR ρ (.pointer (some ⟨b, o, none⟩)) x) : ∃ en, ρ b = some en ∧ x = .pointer (some ⟨en.cb, en.base + o, none⟩) := by
  cases h with | ptr _ _ en he => exact ⟨en, he, rfl⟩

theorem VR.int_inv {k : IntKind} {n : Int} {x : Value} (h : VR ρ (.int k n) x) : x = .int k n := by cases h; rfl
theorem VR.bool_inv {b : Bool} {x : Value} (h : VR ρ (.bool b) x) : x = .bool b := by cases h; rfl
theorem VR.string_inv {s : ByteArray} {x : Value} (h : VR ρ (.string s) x) : x = .string s := by cases h; rfl

theorem idxA_sound {x x' : Value} {j : Int} (h : idxA x = some j) (hx : VR ρ x x') : ∃ k, (asIntOf x').run P w = .ok (k, j) w := by
  unfold idxA at h
  split at h
  · cases h; rw [hx.int_inv]; exact ⟨_, rfl⟩
  · cases h

/-- What is read of a slice's or a string's front. -/
theorem firstA_sound (hr : HRel C ρ A w.heap) {size n : Nat} {x x' : Value} {vs : List Value} (h : firstA A size n x = some vs) (hx : VR ρ x x') :
    ∃ vs' : Array Value, (Builtin.firstCells size n x').run P w = .ok vs' w ∧ VRs ρ vs vs'.toList := by
  unfold firstA at h
  split at h
  · cases h; cases hx; exact ⟨#[], rfl, .nil⟩
  · rename_i b o l c
    split at h
    · rename_i h0; cases h
      have zero : ∀ (ad : Addr) (c' : Nat), ∃ vs' : Array Value, (Builtin.firstCells size n (.slice (some ad) l c')).run P w = .ok vs' w ∧ VRs ρ [] vs'.toList := fun ad c' =>
        ⟨#[], by simp only [Builtin.firstCells, h0]; rfl, .nil⟩
      cases hx <;> exact zero _ _
    · split at h
      · cases h
      · rename_i hce
        have key : ∀ (en : REnt) (c' : Nat), ρ b = some en → ∃ vs' : Array Value, (Builtin.firstCells size n (.slice (some ⟨en.cb, en.base + o, none⟩) l c')).run P w = .ok vs' w ∧ VRs ρ vs vs'.toList := by
          intro en c' he
          obtain ⟨vs', h1, h2⟩ := run_loadN (P := P) hr he h
          exact ⟨vs'.toArray, by simp only [Builtin.firstCells]; exact h2, by simpa using h1⟩
        cases hx with
        | slice _ _ _ _ en he hc hl => exact key en _ he
        | sliceOpen _ _ _ q en he hq hrm => exact key en _ he
        | sliceEnd => exact absurd rfl hce
  · rename_i s
    cases h
    rw [hx.string_inv]
    refine ⟨_, rfl, ?_⟩
    have : (s.extract 0 n).data.toList = s.data.toList.take n := by simp
    rw [Array.toList_map, this]
    generalize s.data.toList.take n = l
    induction l with
    | nil => exact .nil
    | cons a l ih => exact .cons _ _ _ _ (.int _ _) ih
  · cases h

theorem eqA_run {lit : Bool} {t : TypeId} {k : EqK} {d : TypeDesc} {x y x' y' : Value} {b : Bool} (hd : P.underlying t = some d) (hk : eqKind d = some k)
    (h : eqA lit k x y = some b) (hx : VR ρ x x') (hy : VR ρ y y') : (Op.equal t x' y').run P w = .ok b w := by
  unfold Op.equal
  obtain ⟨n, hm⟩ : ∃ n, Op.maxDepth = n + 1 := ⟨9999, rfl⟩
  rw [hm]
  unfold eqA at h
  split at h
  all_goals first
    | (cases d <;> simp only [eqKind, Option.some.injEq, reduceCtorEq] at hk
       cases hx <;> cases hy <;> first
         | (cases h; simp only [Op.equalIn, run_bind, run_underlying hd, run_pure]; done)
         | (cases h; simp only [Op.equalIn, run_bind, run_underlying hd, run_pure]; rfl)
         | (split at h
            · cases h; simp only [Op.equalIn, run_bind, run_underlying hd, run_pure]
            · cases h))
    | cases h

theorem eqA_guard {lit : Bool} {op : BinOp} {t : TypeId} {k : EqK} {x y : Operand} {X Y x' y' : Value} {b : Bool} (hop : op = .eql ∨ op = .neq) (hl : lit = (isLit x || isLit y)) 
    (h : eqA lit k X Y = some b) (hx : VR ρ X x') (hy : VR ρ Y y') : (eqGuard op t x y x' y').run P w = .ok () w := by
  unfold eqA at h
  split at h
  all_goals first
    | (simp only [reduceCtorEq] at h; done)
    | (cases hx <;> cases hy <;> rcases hop with rfl | rfl <;> rfl)
    | (cases hx; cases hy
       subst hl
       rcases hop with rfl | rfl <;> cases x <;> cases y <;> first | rfl | (simp [isLit] at h; done))
    | cases h

theorem eqA_bin {lit : Bool} {t : TypeId} {k : EqK} {x y x' y' : Value} {b : Bool} (h : eqA lit k x y = some b) (hx : VR ρ x x') (hy : VR ρ y y') :
    binOp .eql t x' y' = (do pure (.bool (← Op.equal t x' y'))) ∧ binOp .neq t x' y' = (do pure (.bool (!(← Op.equal t x' y')))) := by
  unfold eqA at h
  split at h
  all_goals first
    | (cases hx <;> cases hy <;> exact ⟨rfl, rfl⟩)
    | cases h

end
end Go.AS
end

section
namespace Go.AS
open Go
set_option linter.unusedSimpArgs false
set_option linter.unusedVariables false

section
variable {C : Comp} {ρ : Ren} {A : AHeap} {w : World} {P : Program} {e : Env} {cev : Operand → Value}

theorem part_sound {t : TypeId} {cs cs' : List Value} {off : Nat} (h : VRs ρ cs cs') :
    (∀ v, aggOf P t = some false → cs[off]? = some v → ∃ v', (part t ⟨cs'⟩ off).run P w = .ok v' w ∧ VR ρ v v') ∧
    (∀ n, aggOf P t = some true → szOf P t = some n → off + n ≤ cs.length → ∃ v', (part t ⟨cs'⟩ off).run P w = .ok v' w ∧ VR ρ (.agg ⟨(cs.drop off).take n⟩) v') := by
  constructor
  · intro v ha hv
    obtain ⟨v', h1, h2⟩ := h.get hv
    exact ⟨v', by simp only [part, run_bind, run_isAgg ha, Bool.false_eq_true, if_false, List.getElem?_toArray, h1]; rfl, h2⟩
  · intro n ha hs hle
    refine ⟨.agg ⟨(cs'.drop off).take n⟩, ?_, .agg _ _ ((h.drop off).take n)⟩
    simp only [part, run_bind, run_isAgg ha, run_sizeOf hs, run_pure, if_true]
    congr 2
    apply Array.ext'
    simp [List.extract_eq_take_drop]

theorem add_mul (cb o n : Nat) : (Addr.mk cb o none).add n = ⟨cb, o + n, none⟩ := add_plain cb o n

theorem bnd_mono {x : Value} {y y' n : Nat} (h : bnd x y = some n) (hy : y ≤ y') : bnd x y' = some n := by
  unfold bnd at h ⊢
  split at h
  · split at h
    · rename_i hb; cases h; rw [if_pos (by omega)]
    · cases h
  · cases h

theorem bndsA_mono {len cap cap' : Nat} {lo hi : Option Value} {l h m : Nat} (hb : bndsA len cap lo hi none = some (l, h, m)) (hc : cap ≤ cap') : bndsA len cap' lo hi none = some (l, h, cap') := by
  unfold bndsA at hb ⊢
  simp only at hb ⊢
  cases hi with
  | none =>
    simp only at hb ⊢
    cases lo with
    | none => cases hb; rfl
    | some a =>
      simp only at hb ⊢
      cases h1 : bnd a len with
      | none => rw [h1] at hb; cases hb
      | some n => rw [h1] at hb; cases hb; rfl
  | some b =>
    simp only at hb ⊢
    cases h2 : bnd b cap with
    | none => rw [h2] at hb; cases hb
    | some n2 =>
      rw [h2] at hb
      rw [bnd_mono h2 hc]
      simp only at hb ⊢
      cases lo with
      | none => cases hb; rfl
      | some a =>
        simp only at hb ⊢
        cases h1 : bnd a n2 with
        | none => rw [h1] at hb; cases hb
        | some n => rw [h1] at hb; cases hb; rfl

theorem bndsA_mono3 {len cap cap' : Nat} {lo hi : Option Value} {mx : Value} {l h m : Nat} (hb : bndsA len cap lo hi (some mx) = some (l, h, m)) (hc : cap ≤ cap') : bndsA len cap' lo hi (some mx) = some (l, h, m) := by
  unfold bndsA at hb ⊢
  simp only at hb ⊢
  cases h3 : bnd mx cap with
  | none => rw [h3] at hb; cases hb
  | some n3 =>
    rw [h3] at hb
    rw [bnd_mono h3 hc]
    exact hb

theorem sliceVA_sound (hr : HRel C ρ A w.heap) {size : Nat} {x x' v : Value} {lo hi mx : Option Operand} {elem t : TypeId}
    (h : sliceVA A size x (lo.map (ev e)) (hi.map (ev e)) (mx.map (ev e)) = some v) (hx : VR ρ x x') (ht : P.underlying t = some (.slice elem)) (hs : szOf P elem = some size)
    (hlo : ∀ x, lo = some x → VR ρ (ev e x) (cev x)) (hhi : ∀ x, hi = some x → VR ρ (ev e x) (cev x)) (hmx : ∀ x, mx = some x → VR ρ (ev e x) (cev x)) :
    ∃ v', (Instr.slice t x' (lo.map cev) (hi.map cev) (mx.map cev)).run P w = .ok v' w ∧ VR ρ v v' := by
  have run : ∀ {len cap l h m : Nat} {a : Option Addr}, (Instr.sliceBounds true len cap (lo.map cev) (hi.map cev) (mx.map cev)).run P w = .ok (l, h, m) w →
      (Instr.slice t (.slice a len cap) (lo.map cev) (hi.map cev) (mx.map cev)).run P w = .ok (.slice (if m = l then a else a.map (·.add (l * size))) (h - l) (m - l)) w := by
    intro len cap l h m a hb
    simp only [Instr.slice, run_bind, run_underlying ht, hb, run_sizeOf hs, run_pure]
  unfold sliceVA at h
  split at h
  · rename_i len cap
    cases hx
    split at h
    · rename_i l hh m hb
      cases h
      obtain ⟨h1, h2, h3, h4⟩ := bnds_sound (P := P) (w := w) true hb (Nat.le_refl _) hlo hhi hmx
      obtain rfl : m = 0 := by omega
      obtain rfl : hh = 0 := by omega
      obtain rfl : l = 0 := by omega
      exact ⟨_, run h1, by simpa using .nils⟩
    · cases h
  · rename_i b o len cap
    split at h
    · rename_i hcap
      cases hx with
      | slice _ _ _ _ en he hc _ => omega
      | sliceEnd => exact absurd hcap (by decide)
      | sliceOpen _ _ _ q en he hq hrm =>
        split at h
        · rename_i cs ro opn hb
          obtain ⟨cc, el, lo', hi', hh, hsz, hc, hfr, hop⟩ := cells_of hr he hb
          split at h
          · cases h
          rename_i hopn
          simp only [Bool.or_eq_true, decide_eq_true_eq, bne_iff_ne, not_or, ne_eq, Decidable.not_not] at hopn
          obtain ⟨hop0, hop1, hop2, hop3⟩ := hop hopn.1
          have hes : en.esz = size := hop2.trans hopn.2
          split at h
          · rename_i mxv hmx2
            split at h
            · rename_i l hh' m hb2
              split at h
              · cases h
              · rename_i hno
                cases h
                rw [hmx2] at hb2
                have hb3 := bndsA_mono3 hb2 (show len ≤ en.room - q by omega)
                rw [← hmx2] at hb3
                obtain ⟨h1, h2, h3, h4⟩ := bnds_sound (P := P) (w := w) true hb3 (by omega) hlo hhi hmx
                refine ⟨_, run h1, ?_⟩
                by_cases hml : m = l
                · simp only [hml, if_true]; simp only [hml] at hno
                  exact .slice b o _ _ en he (by omega) (by omega)
                · simp only [hml, if_false, Option.map_some, add_plain]
                  rw [Nat.add_assoc]
                  exact .slice b _ _ _ en he (by omega) (by omega)
            · cases h
          · rename_i hmx2
            split at h
            · rename_i l hh' m hb2
              have hb3 := bndsA_mono hb2 (show len ≤ en.room - q by omega)
              rw [← hmx2] at hb3
              obtain ⟨h1, h2, h3, h4⟩ := bnds_sound (P := P) (w := w) true hb3 (by omega) hlo hhi hmx
              split at h
              · rename_i hl
                cases h
                refine ⟨_, run h1, ?_⟩
                simp only [Bool.or_eq_true, decide_eq_true_eq] at hl
                by_cases hl0 : l = 0
                · subst hl0
                  simp only [Nat.zero_mul, Nat.add_zero, Nat.sub_zero, Option.map_some, add_plain, ite_self]
                  exact .sliceOpen b o _ q en he hq (by omega)
                · have hlt := hl.resolve_left hl0
                  have hroom : (q + l) * size < en.room * size := by rw [Nat.add_mul]; rw [hes] at hop0 hq; omega
                  have hql : q + l < en.room := Nat.lt_of_mul_lt_mul_right hroom
                  rw [if_neg (by omega)]
                  simp only [Option.map_some, add_plain]
                  rw [Nat.add_assoc, show en.room - q - l = en.room - (q + l) by omega]
                  exact .sliceOpen b _ _ (q + l) en he (by rw [hq, hes, Nat.add_mul]) (by omega)
              · split at h
                · rename_i hend
                  simp only [Bool.and_eq_true, beq_iff_eq, decide_eq_true_eq] at hend
                  cases h
                  refine ⟨_, run h1, ?_⟩
                  have hhl : hh' - l = 0 := by omega
                  rw [hhl]
                  by_cases hml : en.room - q = l
                  · rw [if_pos hml]
                    exact .sliceEnd b _ _ _ (q + l) en he (by rw [hq, hes, Nat.add_mul]) (by omega) (.inl (by omega))
                  · rw [if_neg hml]
                    simp only [Option.map_some, add_plain]
                    rw [Nat.add_assoc]
                    exact .sliceEnd b _ _ _ (q + l) en he (by rw [hq, hes, Nat.add_mul]) (by omega) (.inr ⟨rfl, by omega⟩)
                · cases h
            · cases h
        · cases h
    · split at h
      · rename_i hcap hce
        split at h
        · rename_i hmx2
          split at h
          · rename_i r hb2
            split at h
            · rename_i hl0
              cases h
              cases hx with
              | slice _ _ _ _ en he hc _ => rw [hce] at hc; exact absurd hc (by decide)
              | sliceOpen => exact absurd rfl hcap
              | sliceEnd _ _ x c q en he hq hrm hc =>
                obtain ⟨l, hh', m⟩ := r
                have hb3 := bndsA_mono hb2 (Nat.zero_le c)
                rw [← hmx2] at hb3
                obtain ⟨h1, h2, h3, h4⟩ := bnds_sound (P := P) (w := w) true hb3 (Nat.zero_le _) hlo hhi hmx
                have hb0 := bnds_sound (P := P) (w := w) (mx := none) true hb2 (Nat.le_refl _) hlo hhi (fun _ h => by cases h)
                obtain ⟨_, g2, g3, g4⟩ := hb0
                obtain rfl : m = 0 := by omega
                obtain rfl : hh' = 0 := by omega
                obtain rfl : l = 0 := by omega
                refine ⟨_, run h1, ?_⟩
                simp only [Nat.zero_mul, Nat.sub_zero, Option.map_some, add_plain, Nat.add_zero, ite_self]
                exact .sliceEnd b o x c q en he hq hrm hc
            · cases h
          · cases h
        · rename_i mxv hmx2
          split at h
          · rename_i r hb2
            split at h
            · rename_i hl0
              cases h
              cases hx with
              | slice _ _ _ _ en he hc _ => rw [hce] at hc; exact absurd hc (by decide)
              | sliceOpen => exact absurd rfl hcap
              | sliceEnd _ _ x c q en he hq hrm hc =>
                obtain ⟨l, hh', m⟩ := r
                obtain ⟨_, g2, g3, g4⟩ := bnds_sound (P := P) (w := w) true hb2 (Nat.le_refl _) hlo hhi hmx
                rw [hmx2] at hb2
                have hb3 := bndsA_mono3 hb2 (Nat.zero_le c)
                rw [← hmx2] at hb3
                obtain ⟨h1, _, _, _⟩ := bnds_sound (P := P) (w := w) true hb3 (Nat.zero_le _) hlo hhi hmx
                obtain rfl : m = 0 := by omega
                obtain rfl : hh' = 0 := by omega
                obtain rfl : l = 0 := by omega
                refine ⟨_, run h1, ?_⟩
                simp only [Nat.zero_mul, Nat.sub_zero, Option.map_some, add_plain, Nat.add_zero, ite_self]
                exact .sliceEnd b o x 0 q en he hq hrm (.inl rfl)
            · cases h
          · cases h
      · split at h
        · cases h
        · rename_i hcap hce hlt
          cases hx with
          | sliceOpen _ _ _ q en he hq hrm => exact absurd rfl hcap
          | sliceEnd => exact absurd rfl hce
          | slice _ _ _ _ en he hc hlc =>
            split at h
            · rename_i l hh m hb
              split at h
              · cases h
              · rename_i hno
                cases h
                obtain ⟨h1, h2, h3, h4⟩ := bnds_sound (P := P) (w := w) true hb hlc hlo hhi hmx
                refine ⟨_, run h1, ?_⟩
                by_cases hml : m = l
                · simp only [hml, if_true]; simp only [hml] at hno
                  exact .slice b o _ _ en he (by omega) (by omega)
                · simp only [hml, if_false, Option.map_some, add_plain]
                  rw [Nat.add_assoc]
                  exact .slice b _ _ _ en he (by omega) (by omega)
            · cases h
  · cases h

end
end Go.AS
end

section
namespace Go.AS
open Go
set_option linter.unusedSimpArgs false
set_option linter.unusedVariables false

section
variable {C : Comp} {ρ : Ren} {A : AHeap} {w : World} {P : Program} {e : Env} {cev : Operand → Value}

theorem foldV_sound {f : Value → Value → Option Value} {g : Value → Value → Sem Value} (hfg : ∀ {x y z x' y' : Value}, f x y = some z → VR ρ x x' → VR ρ y y' → ∃ z', (g x' y').run P w = .ok z' w ∧ VR ρ z z')
    {l : List Value} : ∀ {l' : List Value} {x x' v : Value}, foldV f x l = some v → VR ρ x x' → VRs ρ l l' → ∃ v', (l'.foldlM g x').run P w = .ok v' w ∧ VR ρ v v' := by
  induction l with
  | nil => intro l' x x' v h hx hl; cases hl; cases h; exact ⟨x', rfl, hx⟩
  | cons y l ih =>
    intro l' x x' v h hx hl
    cases hl with
    | cons _ y' _ l2 hy hl =>
      simp only [foldV] at h
      split at h
      · rename_i z hz
        obtain ⟨z', h1, h2⟩ := hfg hz hx hy
        obtain ⟨v', h3, h4⟩ := ih h h2 hl
        exact ⟨v', by simp only [List.foldlM_cons, run_bind, h1]; exact h3, h4⟩
      · cases h

theorem minV_sound {x y z x' y' : Value} (h : minV x y = some z) (hx : VR ρ x x') (hy : VR ρ y y') : ∃ z', (Builtin.min2 x' y').run P w = .ok z' w ∧ VR ρ z z' := by
  unfold minV at h
  split at h
  · cases hx; cases hy; cases h; exact ⟨_, rfl, .int _ _⟩
  · cases h
theorem maxV_sound {x y z x' y' : Value} (h : maxV x y = some z) (hx : VR ρ x x') (hy : VR ρ y y') : ∃ z', (Builtin.max2 x' y').run P w = .ok z' w ∧ VR ρ z z' := by
  unfold maxV at h
  split at h
  · cases hx; cases hy; cases h; exact ⟨_, rfl, .int _ _⟩
  · cases h

theorem lenA_sound {x x' : Value} {n : Nat} (h : lenA x = some n) (hx : VR ρ x x') : (Builtin.lenOf x').run P w = .ok n w := by
  unfold lenA at h
  split at h
  · cases h; cases hx <;> rfl
  · cases h; cases hx; rfl
  · cases h

/-- bytes of a slice to a string -/
theorem b2s_loop (f : Value → ByteArray → Sem (ForInStep ByteArray)) (hf : ∀ n r, f (.int .u8 n) r = pure (.yield (r.push (UInt8.ofNat n.toNat)))) (cs : List Value) : ∀ (cs' : List Value) (acc : ByteArray), VRs ρ cs cs' → (cs.all fun v => match v with | .int .u8 _ => true | _ => false) = true →
    (forIn cs'.toArray acc f).run P w =
      .ok ⟨⟨acc.data.toList ++ cs.map fun v => match v with | .int _ n => UInt8.ofNat n.toNat | _ => 0⟩⟩ w := by
  induction cs with
  | nil => intro cs' acc h _; cases h; simp [run_pure]
  | cons v cs ih =>
    intro cs' acc h ha
    cases h with
    | cons _ v' _ l' hv hl =>
      simp only [List.all_cons, Bool.and_eq_true] at ha
      obtain ⟨h1, h2⟩ := ha
      split at h1
      · rename_i n
        rw [hv.int_inv]
        have := ih l' (acc.push (UInt8.ofNat n.toNat)) hl h2
        simp only [List.forIn_toArray, List.forIn_cons, run_bind, run_pure, hf] at this ⊢
        rw [this]
        simp
      · cases h1

theorem cvB2S_sound (hr : HRel C ρ A w.heap) {a : Option Addr} {n c : Nat} {cs : List Value} {x' : Value} (h : firstA A 1 n (.slice a n c) = some cs)
    (ha : (cs.all fun v => match v with | .int .u8 _ => true | _ => false) = true) (hx : VR ρ (.slice a n c) x') :
    (Conv.bytesToString x').run P w = .ok (.string ⟨⟨cs.map fun v => match v with | .int _ n => UInt8.ofNat n.toNat | _ => 0⟩⟩) w := by
  obtain ⟨vs', h1, h2⟩ := firstA_sound (P := P) hr h hx
  have key : ∀ (b : Addr) (c' : Nat), x' = .slice (some b) n c' → (Conv.bytesToString x').run P w = .ok (.string ⟨⟨cs.map fun v => match v with | .int _ n => UInt8.ofNat n.toNat | _ => 0⟩⟩) w := by
    intro b c' hx'
    subst hx'
    simp only [Builtin.firstCells, Nat.mul_one] at h1
    simp only [Conv.bytesToString, run_bind, h1]
    have hl := fun f hf => b2s_loop (P := P) (w := w) f hf cs vs'.toList ByteArray.empty h2 ha
    simp only [Array.toArray_toList] at hl
    rw [hl _ (fun _ _ => rfl)]
    simp [run_pure]
  cases hx with
  | nils => cases h; rfl
  | slice _ _ _ _ en he hc hl => exact key _ _ rfl
  | sliceOpen _ _ _ q en he hq hrm => exact key _ _ rfl
  | sliceEnd => exact key _ _ rfl

end
end Go.AS
end

section
namespace Go.AS
open Go
set_option linter.unusedSimpArgs false
set_option linter.unusedVariables false

section
variable {C : Comp} {ρ : Ren} {A : AHeap} {w : World} {P : Program} {e : Env} {cev : Operand → Value}

theorem mapM_some {α β : Type} {f : α → Option β} {l : List α} : ∀ {l' : List β}, l.mapM f = some l' → l'.length = l.length ∧ ∀ (i : Nat) (x : α) (y : β), l[i]? = some x → l'[i]? = some y → f x = some y := by
  induction l with
  | nil => intro l' h; cases h; exact ⟨rfl, fun i x y hx => by simp at hx⟩
  | cons x l ih =>
    intro l' h
    simp only [List.mapM_cons, Option.bind_eq_bind, Option.pure_def] at h
    cases hf : f x with
    | none => rw [hf] at h; cases h
    | some y =>
      rw [hf] at h
      simp only [Option.bind_some] at h
      cases hl : l.mapM f with
      | none => rw [hl] at h; cases h
      | some ys =>
        rw [hl] at h; cases h
        obtain ⟨h1, h2⟩ := ih hl
        refine ⟨by simp [h1], fun i a b ha hb => ?_⟩
        cases i with
        | zero => simp at ha hb; subst ha; subst hb; exact hf
        | succ i => simp at ha hb; exact h2 i a b ha hb

theorem map_arr {α β : Type} (l : Array α) (g : α → β) : (⟨l.toList.map g⟩ : Array β) = l.map g := by
  apply Array.ext'
  simp

theorem run_mapM {α β : Type} {f : α → Sem β} {g : α → β} (l : List α) (h : ∀ x ∈ l, (f x).run P w = .ok (g x) w) : (l.mapM f).run P w = .ok (l.map g) w := by
  induction l with
  | nil => rfl
  | cons x l ih => simp only [List.mapM_cons, run_bind, h x (by simp), run_pure, ih (fun y hy => h y (by simp [hy])), List.map_cons]

theorem run_mapMA {α β : Type} {f : α → Sem β} {g : α → β} (l : Array α) (h : ∀ x ∈ l, (f x).run P w = .ok (g x) w) : (l.mapM f).run P w = .ok (l.map g) w := by
  have h1 := run_mapM (P := P) (w := w) (f := f) (g := g) l.toList (fun x hx => h x (Array.mem_toList_iff.1 hx))
  have h2 : l.mapM f = (do let r ← l.toList.mapM f; pure r.toArray) := by
    rw [Array.mapM_eq_mapM_toList]
    rfl
  rw [h2, run_bind, h1]
  rw [← map_arr l g]; rfl

theorem partsOf_spec {t : TypeId} {ps : List (Nat × Operand)} {qs : List (Nat × Nat × Operand)} {z z' out : List Value} (hp : partsOf P t ps = some qs)
    (hev : ∀ p ∈ ps, VR ρ (ev e p.2) (cev p.2)) (hz : VRs ρ z z') (hf : fillP z (qs.map fun q => (q.1, q.2.1, ev e q.2.2)) = some out) (v0 : Value) (hv0 : (zeroValue t).run P w = .ok v0 w) (hcl : cl v0 = z') :
    ∃ v', (Instr.build t (ps.map fun p => (p.1, cev p.2)).toArray).run P w = .ok v' w ∧ VR ρ (.agg ⟨out⟩) v' := by
  unfold partsOf at hp
  have hcells : v0.cells = ⟨z'⟩ := by rw [cells_cl, hcl]
  split at hp
  · rename_i fields hu
    split at hp
    · rename_i hall
      have hmap : (fields.mapM fun f => do pure (f.offset, ← sizeOf f.type) : Sem (Array (Nat × Nat))).run P w = .ok (fields.map fun f => (f.offset, (szOf P f.type).getD 0)) w := by
        refine run_mapMA fields fun f hfm => ?_
        rw [List.all_eq_true] at hall
        have := hall f (Array.mem_toList_iff.2 hfm)
        obtain ⟨s, hs⟩ := Option.isSome_iff_exists.1 this
        simp only [run_bind, run_sizeOf hs, run_pure, hs, Option.getD_some]
      obtain ⟨hlen, hget⟩ := mapM_some hp
      obtain ⟨out', h1, h2⟩ := fill_sound (ρ := ρ) (e := e) (cev := cev) (fun i => (fields.map fun f => (f.offset, (szOf P f.type).getD 0))[i]?) ps qs hlen.symm
        (fun i p q hp hq => by
          have := hget i p q hp hq
          simp only [Option.bind_eq_bind] at this
          cases hfi : fields[p.1]? with
          | none => rw [hfi] at this; cases this
          | some f =>
            rw [hfi] at this
            simp only [Option.bind_some] at this
            cases hs : szOf P f.type with
            | none => rw [hs] at this; cases this
            | some s =>
              rw [hs] at this; cases this
              simp [hfi, hs]) hev z z' out hz hf
      refine ⟨.agg out', ?_, by have := VR.agg _ _ h2; simpa using this⟩
      simp only [Instr.build, run_bind, hv0, hcells, run_underlying hu, hmap, h1, run_pure]
    · cases hp
  · rename_i n elem hu
    cases hs : szOf P elem with
    | none => rw [hs] at hp; cases hp
    | some s =>
      rw [hs] at hp
      simp only [Option.bind_eq_bind, Option.bind_some, Option.some.injEq] at hp
      subst hp
      obtain ⟨out', h1, h2⟩ := fill_sound (ρ := ρ) (e := e) (cev := cev) (fun i => some (i * s, s)) ps (ps.map fun p => (p.1 * s, s, p.2)) (by simp)
        (fun i p q hp hq => by rw [List.getElem?_map, hp] at hq; cases hq; exact ⟨rfl, rfl⟩) hev z z' out hz hf
      refine ⟨.agg out', ?_, by have := VR.agg _ _ h2; simpa using this⟩
      simp only [Instr.build, run_bind, hv0, hcells, run_underlying hu, run_sizeOf hs]
      simp only [h1, run_pure]
  · cases hp

/-! ### Structs and arrays compared -/
theorem leafEq_mono {k : LeafK} {a b : Option Value} {r : Bool} (h : leafEq k a b = some r) {a' b' : Option Value} (ha : ∀ v, a = some v → ∃ v', a' = some v' ∧ VR ρ v v') (hb : ∀ v, b = some v → ∃ v', b' = some v' ∧ VR ρ v v') : leafEq k a' b' = some r := by
  unfold leafEq at h
  split at h
  · obtain ⟨x, h1, h2⟩ := ha _ rfl; obtain ⟨y, h3, h4⟩ := hb _ rfl
    rw [h1, h3, h2.bool_inv, h4.bool_inv]; exact h
  · obtain ⟨x, h1, h2⟩ := ha _ rfl; obtain ⟨y, h3, h4⟩ := hb _ rfl
    rw [h1, h3, h2.int_inv, h4.int_inv]; exact h
  · obtain ⟨x, h1, h2⟩ := ha _ rfl; obtain ⟨y, h3, h4⟩ := hb _ rfl
    rw [h1, h3, h2.string_inv, h4.string_inv]; exact h
  · cases h

theorem eqL_mono {L : List (Nat × LeafK)} {xs ys xs' ys' : List Value} (hx : VRs ρ xs xs') (hy : VRs ρ ys ys') : ∀ {b : Bool}, eqL L xs ys = some b → eqL L xs' ys' = some b := by
  induction L with
  | nil => intro b h; exact h
  | cons p L ih =>
    intro b h
    obtain ⟨o, k⟩ := p
    simp only [eqL] at h ⊢
    cases h1 : leafEq k xs[o]? ys[o]? with
    | none => rw [h1] at h; cases h
    | some r1 =>
      cases h2 : eqL L xs ys with
      | none => rw [h1, h2] at h; cases h
      | some r2 =>
        rw [h1, h2] at h
        rw [leafEq_mono h1 (fun v hv => hx.get hv) (fun v hv => hy.get hv), ih h2]
        exact h

theorem eqL_append {L M : List (Nat × LeafK)} {xs ys : List Value} : ∀ {b : Bool}, eqL (L ++ M) xs ys = some b → ∃ b1 b2, eqL L xs ys = some b1 ∧ eqL M xs ys = some b2 ∧ b = (b1 && b2) := by
  induction L with
  | nil => intro b h; exact ⟨true, b, rfl, h, by simp⟩
  | cons p L ih =>
    intro b h
    obtain ⟨o, k⟩ := p
    simp only [List.cons_append, eqL] at h ⊢
    cases h1 : leafEq k xs[o]? ys[o]? with
    | none => rw [h1] at h; cases h
    | some r1 =>
      cases h2 : eqL (L ++ M) xs ys with
      | none => rw [h1, h2] at h; cases h
      | some r2 =>
        rw [h1, h2] at h; cases h
        obtain ⟨b1, b2, e1, e2, e3⟩ := ih h2
        exact ⟨r1 && b1, b2, by rw [e1], e2, by rw [e3, Bool.and_assoc]⟩

theorem eqL_shift {L : List (Nat × LeafK)} {xs ys : List Value} {off s : Nat} (hL : L.all (fun p => decide (p.1 < s)) = true) : ∀ {b : Bool}, eqL (L.map fun p => (off + p.1, p.2)) xs ys = some b → eqL L ((xs.drop off).take s) ((ys.drop off).take s) = some b := by
  induction L with
  | nil => intro b h; exact h
  | cons p L ih =>
    intro b h
    obtain ⟨o, k⟩ := p
    simp only [List.all_cons, Bool.and_eq_true, decide_eq_true_eq] at hL
    simp only [List.map_cons, eqL] at h ⊢
    have e1 : ∀ zs : List Value, ((zs.drop off).take s)[o]? = zs[off + o]? := by
      intro zs
      rw [List.getElem?_take_of_lt hL.1, List.getElem?_drop]
    rw [e1, e1]
    cases h1 : leafEq k xs[off + o]? ys[off + o]? with
    | none => rw [h1] at h; cases h
    | some r1 =>
      cases h2 : eqL (L.map fun p => (off + p.1, p.2)) xs ys with
      | none => rw [h1, h2] at h; cases h
      | some r2 =>
        rw [h1, h2] at h
        rw [ih hL.2 h2]
        exact h

/-- A value of a type as cells. -/
def AsCells (P : Program) (t : TypeId) (x : Value) (xs : List Value) : Prop :=
  (aggOf P t = some true ∧ x = .agg ⟨xs⟩) ∨ (aggOf P t = some false ∧ xs[0]? = some x)

theorem part_cells {t : TypeId} {xs : List Value} {off s : Nat} (hs : szOf P t = some s) (hs0 : 0 < s) (hle : off < xs.length) (ha : (aggOf P t).isSome = true) :
    ∃ x, (part t ⟨xs⟩ off).run P w = .ok x w ∧ AsCells P t x ((xs.drop off).take s) := by
  obtain ⟨g, hg⟩ := Option.isSome_iff_exists.1 ha
  cases g with
  | true =>
    refine ⟨.agg ⟨(xs.drop off).take s⟩, ?_, .inl ⟨hg, rfl⟩⟩
    simp only [part, run_bind, run_isAgg hg, run_sizeOf hs, run_pure, if_true]
    congr 2
    apply Array.ext'
    simp [List.extract_eq_take_drop]
  | false =>
    refine ⟨xs[off], ?_, .inr ⟨hg, ?_⟩⟩
    · simp only [part, run_bind, run_isAgg hg, Bool.false_eq_true, if_false, List.getElem?_toArray, List.getElem?_eq_getElem hle]; rfl
    · rw [List.getElem?_take_of_lt hs0, List.getElem?_drop, Nat.add_zero, List.getElem?_eq_getElem hle]

theorem leaf_lt {L : List (Nat × LeafK)} {xs ys : List Value} {b : Bool} (h : eqL L xs ys = some b) {o : Nat} {k : LeafK} (hm : (o, k) ∈ L) : o < xs.length ∧ o < ys.length := by
  induction L generalizing b with
  | nil => cases hm
  | cons p L ih =>
    obtain ⟨o2, k2⟩ := p
    simp only [eqL] at h
    cases h1 : leafEq k2 xs[o2]? ys[o2]? with
    | none => rw [h1] at h; cases h
    | some r1 =>
      cases h2 : eqL L xs ys with
      | none => rw [h1, h2] at h; cases h
      | some r2 =>
        cases hm with
        | head =>
          unfold leafEq at h1
          have key : ∀ (zs : List Value) v, zs[o]? = some v → o < zs.length := fun zs v hv => by
            rcases Nat.lt_or_ge o zs.length with q | q
            · exact q
            · rw [List.getElem?_eq_none q] at hv; cases hv
          split at h1
          · exact ⟨key _ _ ‹_›, key _ _ ‹_›⟩
          · exact ⟨key _ _ ‹_›, key _ _ ‹_›⟩
          · exact ⟨key _ _ ‹_›, key _ _ ‹_›⟩
          · cases h1
        | tail _ hm => exact ih h2 hm

theorem fieldsOf_eq {t : TypeId} {fs : Array Field} (h : P.underlying t = some (.struct fs)) : P.fieldsOf t = fs := by
  unfold Program.fieldsOf; rw [h]

theorem cellsOf_eq {t : TypeId} {s : Nat} (h : szOf P t = some s) : P.cellsOf t = s := by
  unfold szOf at h
  unfold Program.cellsOf
  cases hi : P.info? t with
  | none => rw [hi] at h; cases h
  | some i => rw [hi] at h; cases h; rfl

theorem aggOf_some {t : TypeId} {d : TypeDesc} (h : P.underlying t = some d) : (aggOf P t).isSome = true := by
  unfold aggOf; rw [h]; rfl

theorem flat_agg {d : Nat} {t : TypeId} {L : List (Nat × LeafK)} (h : flat P d t = some L) : (aggOf P t).isSome = true := by
  cases d with
  | zero => cases h
  | succ d =>
    simp only [flat] at h
    split at h
    all_goals first
      | exact aggOf_some ‹_›
      | cases h

theorem leafEq_b {x y : Value} {b : Bool} (h : leafEq .b (some x) (some y) = some b) : ∃ a c, x = .bool a ∧ y = .bool c ∧ b = (a == c) := by
  cases x <;> cases y <;> simp only [leafEq, reduceCtorEq] at h
  cases h; exact ⟨_, _, rfl, rfl, rfl⟩
theorem leafEq_i {x y : Value} {b : Bool} (h : leafEq .i (some x) (some y) = some b) : ∃ k a c, x = .int k a ∧ y = .int k c ∧ b = (a == c) := by
  cases x <;> cases y <;> simp only [leafEq, reduceCtorEq] at h
  split at h
  · rename_i hk; subst hk; cases h; exact ⟨_, _, _, rfl, rfl, rfl⟩
  · cases h
theorem leafEq_s {x y : Value} {b : Bool} (h : leafEq .s (some x) (some y) = some b) : ∃ a c, x = .string a ∧ y = .string c ∧ b = (a.data.toList == c.data.toList) := by
  cases x <;> cases y <;> simp only [leafEq, reduceCtorEq] at h
  cases h; exact ⟨_, _, rfl, rfl, rfl⟩

theorem flat_equal (d : Nat) : ∀ (D : Nat) (t : TypeId) (L : List (Nat × LeafK)) (xs ys : List Value) (x y : Value) (b : Bool), flat P d t = some L → eqL L xs ys = some b → AsCells P t x xs → AsCells P t y ys →
    (Op.equalIn (D + d) t x y).run P w = .ok b w := by
  induction d with
  | zero => intro D t L xs ys x y b h; cases h
  | succ d ih =>
    intro D t L xs ys x y b h he hx hy
    have part_eq : ∀ (e : TypeId) (l : List (Nat × LeafK)) (s off : Nat) (b : Bool), flat P d e = some l → szOf P e = some s → (l.all (fun p => decide (p.1 < s)) && !l.isEmpty) = true → eqL (l.map fun p => (off + p.1, p.2)) xs ys = some b →
        ∃ u v, (part e ⟨xs⟩ off).run P w = .ok u w ∧ (part e ⟨ys⟩ off).run P w = .ok v w ∧ (Op.equalIn (D + d) e u v).run P w = .ok b w := by
      intro e l s off b hl hs hall heq
      simp only [Bool.and_eq_true, Bool.not_eq_true'] at hall
      obtain ⟨hall, hne⟩ := hall
      cases l with
      | nil => cases hne
      | cons p l =>
        have hlt := leaf_lt heq (o := off + p.1) (k := p.2) (by simp)
        have hs0 : 0 < s := by
          have := List.all_eq_true.1 hall p (by simp)
          simp only [decide_eq_true_eq] at this; omega
        obtain ⟨u, u1, u2⟩ := part_cells (P := P) (w := w) (off := off) hs hs0 (show off < xs.length by omega) (flat_agg hl)
        obtain ⟨v, v1, v2⟩ := part_cells (P := P) (w := w) (off := off) hs hs0 (show off < ys.length by omega) (flat_agg hl)
        exact ⟨u, v, u1, v1, ih D e _ _ _ u v b hl (eqL_shift hall heq) u2 v2⟩
    have leaf : ∀ k, aggOf P t = some false → L = [(0, k)] → x = x ∧ leafEq k (some x) (some y) = some b := by
      intro k ha hL
      subst hL
      have hx0 : xs[0]? = some x := by rcases hx with ⟨h1, _⟩ | ⟨_, h2⟩; rw [ha] at h1; cases h1; exact h2
      have hy0 : ys[0]? = some y := by rcases hy with ⟨h1, _⟩ | ⟨_, h2⟩; rw [ha] at h1; cases h1; exact h2
      simp only [eqL, hx0, hy0] at he
      cases h1 : leafEq k (some x) (some y) with
      | none => rw [h1] at he; cases he
      | some r => rw [h1] at he; simp at he; subst he; exact ⟨rfl, rfl⟩
    simp only [flat] at h
    split at h
    · rename_i hu
      have ha : aggOf P t = some false := by unfold aggOf; rw [hu]; rfl
      obtain ⟨_, hl⟩ := leaf .b ha (by cases h; rfl)
      obtain ⟨a', b', e1, e2, e3⟩ := leafEq_b hl
      subst e1; subst e2; subst e3
      show (Op.equalIn ((D + d) + 1) t _ _).run P w = _
      simp only [Op.equalIn, run_bind, run_underlying hu]; rfl
    · rename_i kk hu
      have ha : aggOf P t = some false := by unfold aggOf; rw [hu]; rfl
      obtain ⟨_, hl⟩ := leaf .i ha (by cases h; rfl)
      obtain ⟨k1, a', b', e1, e2, e3⟩ := leafEq_i hl
      subst e1; subst e2; subst e3
      show (Op.equalIn ((D + d) + 1) t _ _).run P w = _
      simp only [Op.equalIn, run_bind, run_underlying hu, if_true]; rfl
    · rename_i hu
      have ha : aggOf P t = some false := by unfold aggOf; rw [hu]; rfl
      obtain ⟨_, hl⟩ := leaf .s ha (by cases h; rfl)
      obtain ⟨a', b', e1, e2, e3⟩ := leafEq_s hl
      subst e1; subst e2; subst e3
      show (Op.equalIn ((D + d) + 1) t _ _).run P w = _
      rw [run_equalIn_string (P := P) w (D + d) t a' b' hu, ByteArray.toList_eq, ByteArray.toList_eq]
    · rename_i fs hu
      have ha : aggOf P t = some true := by unfold aggOf; rw [hu]; rfl
      have hxx : x = .agg ⟨xs⟩ := by rcases hx with ⟨_, h2⟩ | ⟨h1, _⟩; exact h2; rw [ha] at h1; cases h1
      have hyy : y = .agg ⟨ys⟩ := by rcases hy with ⟨_, h2⟩ | ⟨h1, _⟩; exact h2; rw [ha] at h1; cases h1
      subst hxx; subst hyy
      split at h
      · cases h
      · rename_i hst
        have hst' : P.stoodInHeld t = false := by simpa using hst
        show (Op.equalIn ((D + d) + 1) t _ _).run P w = _
        rw [run_equalIn_struct (P := P) w (D + d) t ⟨xs⟩ ⟨ys⟩ (by rw [fieldsOf_eq hu]; exact hu) hst', fieldsOf_eq hu]
        generalize fs.toList = l at h
        clear hx hy leaf ha
        cases hm : l.mapM (fieldLeaves P (flat P d)) with
        | none => rw [hm] at h; cases h
        | some Ls =>
          rw [hm] at h; cases h
          clear hst hst' hu
          induction l generalizing Ls b with
          | nil => cases hm; cases he; rfl
          | cons f l ihl =>
            simp only [List.mapM_cons, Option.bind_eq_bind, Option.pure_def] at hm
            cases h1 : fieldLeaves P (flat P d) f with
            | none => rw [h1] at hm; cases hm
            | some L1 =>
              rw [h1] at hm; simp only [Option.bind_some] at hm
              cases h2 : l.mapM (fieldLeaves P (flat P d)) with
              | none => rw [h2] at hm; cases hm
              | some L2 =>
                rw [h2] at hm; cases hm
                simp only [List.flatten_cons] at he
                obtain ⟨b1, b2, e1, e2, e3⟩ := eqL_append he
                have hrest := ihl b2 L2 h2 e2
                simp only [Op.eqFields]
                unfold fieldLeaves at h1
                by_cases hn : f.name = "_"
                · rw [if_pos hn] at h1; cases h1
                  rw [if_neg (by simpa using hn)]
                  cases e1
                  rw [e3]; simpa using hrest
                · rw [if_neg hn] at h1
                  rw [if_pos hn]
                  cases hfl : flat P d f.type with
                  | none => rw [hfl] at h1; cases h1
                  | some l' =>
                    cases hs : szOf P f.type with
                    | none => rw [hfl, hs] at h1; cases h1
                    | some s =>
                      rw [hfl, hs] at h1
                      simp only at h1
                      split at h1
                      · rename_i hall
                        cases h1
                        obtain ⟨u, v, p1, p2, p3⟩ := part_eq f.type l' s f.offset b1 hfl hs hall e1
                        simp only [run_bind, p1, p2, p3]
                        cases b1 with
                        | false => rw [e3]; rfl
                        | true => rw [e3]; simpa using hrest
                      · cases h1
    · rename_i n e hu
      have ha : aggOf P t = some true := by unfold aggOf; rw [hu]; rfl
      have hxx : x = .agg ⟨xs⟩ := by rcases hx with ⟨_, h2⟩ | ⟨h1, _⟩; exact h2; rw [ha] at h1; cases h1
      have hyy : y = .agg ⟨ys⟩ := by rcases hy with ⟨_, h2⟩ | ⟨h1, _⟩; exact h2; rw [ha] at h1; cases h1
      subst hxx; subst hyy
      cases hfl : flat P d e with
      | none => rw [hfl] at h; cases h
      | some l' =>
        cases hs : szOf P e with
        | none => rw [hfl, hs] at h; cases h
        | some s =>
          rw [hfl, hs] at h
          simp only at h
          split at h
          · rename_i hall
            cases h
            show (Op.equalIn ((D + d) + 1) t _ _).run P w = _
            have hi : ∃ i, P.info? e = some i := by
              unfold szOf at hs
              cases hi : P.info? e with
              | none => rw [hi] at hs; cases hs
              | some i => exact ⟨i, rfl⟩
            obtain ⟨i, hi⟩ := hi
            rw [run_equalIn_array (P := P) w (D + d) ⟨xs⟩ ⟨ys⟩ hu hi, cellsOf_eq hs]
            generalize List.range n = is at he
            clear hx hy leaf ha
            induction is generalizing b with
            | nil => simp only [List.flatMap_nil, eqL] at he; cases he; rfl
            | cons j is ihl =>
              simp only [List.flatMap_cons] at he
              obtain ⟨b1, b2, e1, e2, e3⟩ := eqL_append he
              have hrest := ihl b2 e2
              obtain ⟨u, v, p1, p2, p3⟩ := part_eq e l' s (j * s) b1 hfl hs hall e1
              simp only [Op.eqItems, run_bind, p1, p2, p3]
              cases b1 with
              | false => rw [e3]; rfl
              | true => rw [e3]; simpa using hrest
          · cases h
    · cases h

end
end Go.AS
end

section
namespace Go.AS
open Go
set_option linter.unusedSimpArgs false
set_option linter.unusedVariables false

section
variable {P : Program} {w : World}

/-! ### Maps -/
theorem findNow_sound {ρ : Ren} {kk : IntKind} {n : Int} {es : List (Int × Value × Nat)} {es' : List MapEntry} (h : MR ρ kk es es') : ∀ i,
    (findE n es i = none → Instr.findNow (.int kk) (.int kk n) es' i = some none) ∧
    (∀ j v, findE n es i = some (j, v) → ∃ v', Instr.findNow (.int kk) (.int kk n) es' i = some (some (j, v')) ∧ VR ρ v v' ∧ i ≤ j ∧ (es'[j - i]?).map (·.key) = some (.int kk n)) := by
  induction h with
  | nil => intro i; exact ⟨fun _ => rfl, fun j v h => (by cases h)⟩
  | cons k v v' m es es' hv _ ih =>
    intro i
    obtain ⟨h1, h2⟩ := ih (i + 1)
    simp only [findE, Instr.findNow, Instr.sameNow, if_true]
    by_cases hk : n = k
    · subst hk
      simp only [beq_self_eq_true, if_true]
      refine ⟨fun h => (by cases h), fun j u h => ?_⟩
      cases h
      exact ⟨v', rfl, hv, Nat.le_refl _, by simp⟩
    · have hk' : (n == k) = false := by simpa using hk
      simp only [hk', Bool.false_eq_true, if_false]
      refine ⟨h1, fun j u h => ?_⟩
      obtain ⟨u', a, b, c, d⟩ := h2 j u h
      refine ⟨u', a, b, by omega, ?_⟩
      rw [show j - i = (j - (i + 1)) + 1 by omega]
      simpa using d

theorem run_checkKey1 {kt : TypeId} {kk : IntKind} {n : Int} {b : Bool} (m : Nat) (h : P.underlying kt = some (.int kk)) : (Instr.checkKey b (m + 1) kt (.int kk n)).run P w = .ok () w := by
  simp only [Instr.checkKey, run_bind, run_underlying h, run_pure]

theorem run_checkKey {kt : TypeId} {kk : IntKind} {n : Int} {b : Bool} (h : P.underlying kt = some (.int kk)) : (Instr.checkKey b 10000 kt (.int kk n)).run P w = .ok () w :=
  run_checkKey1 9999 h

theorem run_findKey {kt : TypeId} {kk : IntKind} {k : Value} {es : List MapEntry} {r : Option (Nat × Value)} (h : P.underlying kt = some (.int kk)) (hr : Instr.findNow (.int kk) k es 0 = some r) : (Instr.findKey kt k es).run P w = .ok r w := by
  simp only [Instr.findKey, run_bind, run_underlying h, hr, run_pure]

theorem run_newObj0 {o : Obj} : (newObj o).run P w = .ok w.heap.size { w with heap := w.heap.push o } := by
  simp [newObj, Sem.run]

theorem run_setObjMap {r : Nat} {es : Array MapEntry} {c : Nat} {o : Obj} (h : w.heap[r]? = some (.map es c)) : (setObj r o).run P w = .ok () { w with heap := w.heap.setIfInBounds r o } := by
  simp only [setObj, Sem.run, h]

theorem MR.push {ρ : Ren} {kk : IntKind} {es : List (Int × Value × Nat)} {es' : List MapEntry} {n : Int} {x x' : Value} {c : Nat} (h : MR ρ kk es es') (hx : VR ρ x x') : MR ρ kk (es ++ [(n, x, c)]) (es' ++ [⟨.int kk n, x', c⟩]) := by
  induction h with
  | nil => exact .cons _ _ _ _ _ _ hx .nil
  | cons k v v' m es es' hv _ ih => exact .cons _ _ _ _ _ _ hv ih

theorem MR.modify {ρ : Ren} {kk : IntKind} {es : List (Int × Value × Nat)} {es' : List MapEntry} {n : Int} {x x' : Value} (h : MR ρ kk es es') (hx : VR ρ x x') : ∀ i, MR ρ kk (es.modify i fun y => (n, x, y.2.2)) (es'.modify i fun e => { e with key := .int kk n, val := x' }) := by
  induction h with
  | nil => intro i; cases i <;> exact .nil
  | cons k v v' m es es' hv hm ih =>
    intro i
    cases i with
    | zero => exact .cons _ _ _ _ _ _ hx hm
    | succ i => exact .cons _ _ _ _ _ _ hv (ih i)

theorem MR.erase {ρ : Ren} {kk : IntKind} {es : List (Int × Value × Nat)} {es' : List MapEntry} (h : MR ρ kk es es') : ∀ i, MR ρ kk (es.eraseIdx i) (es'.eraseIdx i) := by
  induction h with
  | nil => intro i; cases i <;> exact .nil
  | cons k v v' m es es' hv hm ih =>
    intro i
    cases i with
    | zero => exact hm
    | succ i => exact .cons _ _ _ _ _ _ hv (ih i)

theorem run_getObjMap {r : Nat} {es : Array MapEntry} {c : Nat} (h : w.heap[r]? = some (.map es c)) : (getObj r).run P w = .ok (.map es c) w := by
  simp only [getObj, Sem.run, h]

end

section
variable {C : Comp} {ρ : Ren} {A : AHeap} {w : World} {P : Program} {e : Env} {cev : Operand → Value}

theorem fieldPlace_run {b o : Nat} {f : Field} {s : Nat} (hs : szOf P f.type = some s) (h0 : s ≠ 0) : (fieldPlace ⟨b, o, none⟩ f).run P w = .ok ⟨b, o + f.offset, none⟩ w := by
  simp only [fieldPlace, run_bind, run_sizeOf hs, if_neg h0, run_pure, add_plain]

set_option maxHeartbeats 2000000 in
theorem qop_sound {o : Oper} {ao : AOp} {v : Value} (hc : compileOp P o = some ao) (hq : qop e A ao = some v) (hev : ∀ x ∈ o.op.operands.toList, VR ρ (ev e x) (cev x)) (hr : HRel C ρ A w.heap) :
    ∃ vc, (execOp cev o).run P w = .ok (.value vc) w ∧ VR ρ v vc := by
  obtain ⟨dst, op, ty, pos, after, guard⟩ := o
  unfold compileOp at hc
  split at hc
  · cases hc
  rename_i hops0
  have hops : ∀ x ∈ op.operands.toList, x ∈ op.operands.toList := fun _ h => h
  clear hops0
  cases op with
  | move x =>
    cases hc; cases hq
    exact ⟨cev x, rfl, hev x (hops x (by simp [Op.operands]))⟩
  | assign x =>
    cases hc; cases hq
    exact ⟨cev x, rfl, hev x (hops x (by simp [Op.operands]))⟩
  | pick c a b =>
    cases hc
    have hvc := hev c (hops c (by simp [Op.operands]))
    have hva := hev a (hops a (by simp [Op.operands]))
    have hvb := hev b (hops b (by simp [Op.operands]))
    simp only [qop] at hq
    split at hq
    · rename_i t ht
      rw [ht] at hvc
      cases hq
      refine ⟨if t then cev a else cev b, ?_, by cases t <;> assumption⟩
      simp only [execOp, run_bind, hvc.bool_inv, asBool, run_pure]
    · cases hq
  | build t parts =>
    simp only [Option.bind_eq_bind] at hc
    cases hp : partsOf P t parts.toList with
    | none => rw [hp] at hc; cases hc
    | some qs =>
      rw [hp] at hc
      simp only [Option.bind_some] at hc
      cases hz : zeroOf P t with
      | none => rw [hz] at hc; cases hc
      | some z =>
        rw [hz] at hc; cases hc
        simp only [qop] at hq
        cases hf : fillP z (qs.map fun p => (p.1, p.2.1, ev e p.2.2)) with
        | none => rw [hf] at hq; cases hq
        | some out =>
          rw [hf] at hq; cases hq
          obtain ⟨v0, h1, h2, h3⟩ := zeroOf_spec (w := w) (ρ := ρ) hz
          obtain ⟨v', h4, h5⟩ := partsOf_spec (w := w) (cev := cev) hp (fun p hpm => hev p.2 (hops p.2 (List.mem_map.2 ⟨p, hpm, rfl⟩))) h3 hf v0 h1 h2
          refine ⟨v', run_v ?_, h5⟩
          have := map_arr parts (fun x => (x.1, cev x.2))
          rw [← h4]; show (Instr.build t (parts.map fun x => (x.1, cev x.2))).run P w = _; rw [← this]
  | load t a =>
    simp only [Option.bind_eq_bind] at hc
    cases hg : aggOf P t with
    | none => rw [hg] at hc; cases hc
    | some g =>
      rw [hg] at hc
      simp only [Option.bind_some] at hc
      cases hs : szOf P t with
      | none => rw [hs] at hc; cases hc
      | some s =>
        rw [hs] at hc
        simp only [Option.bind_some, Option.some.injEq] at hc
        have hva := hev a (hops a (by simp [Op.operands]))
        cases g with
        | false =>
          simp only [Bool.false_eq_true, if_false] at hc
          subst hc
          simp only [qop] at hq
          split at hq
          · rename_i b off ha
            rw [ha] at hva
            obtain ⟨en, he, hx⟩ := hva.ptr_inv
            obtain ⟨v', h1, h2⟩ := rd_cell hr he hq
            refine ⟨v', run_v ?_, h2⟩
            simp only [Instr.loadAt, hx, Instr.sureAddr, run_bind, run_pure, loadVar, run_isAgg hg, Bool.false_eq_true, if_false]
            exact run_load h1
          · cases hq
        | true =>
          simp only [if_true] at hc
          subst hc
          simp only [qop] at hq
          split at hq
          · rename_i b off ha
            rw [ha] at hva
            obtain ⟨en, he, hx⟩ := hva.ptr_inv
            split at hq
            · rename_i h0
              cases hq
              refine ⟨.agg #[], run_v ?_, .agg _ _ .nil⟩
              simp only [Instr.loadAt, hx, Instr.sureAddr, run_bind, run_pure, loadVar, run_isAgg hg, if_true, run_sizeOf hs, h0]
              rfl
            · cases hrd : rdCells A b off s with
              | none => rw [hrd] at hq; cases hq
              | some vs =>
                rw [hrd] at hq; cases hq
                obtain ⟨vs', h1, h2⟩ := run_loadN (P := P) hr he hrd
                refine ⟨.agg ⟨vs'⟩, run_v ?_, .agg _ _ h1⟩
                simp only [Instr.loadAt, hx, Instr.sureAddr, run_bind, run_pure, loadVar, run_isAgg hg, if_true, run_sizeOf hs, h2]
          · cases hq
  | nilCheck x =>
    cases hc
    have hvx := hev x (hops x (by simp [Op.operands]))
    simp only [qop] at hq
    generalize hX : cev x = X at hvx
    split at hq
    · rename_i a ha
      rw [ha] at hvx; cases hq
      cases hvx with
      | ptr b o en he => exact ⟨_, by simp only [execOp, hX]; rfl, .ptr _ _ _ he⟩
    · rename_i f c d ha
      rw [ha] at hvx; cases hq
      cases hvx with
      | func _ _ _ _ _ h1 h2 => exact ⟨_, by simp only [execOp, hX]; rfl, .func _ _ _ _ _ h1 h2⟩
    · rename_i f c d ha
      rw [ha] at hvx; cases hq
      cases hvx with
      | yield _ en he => exact ⟨_, by simp only [execOp, hX]; rfl, .yield _ _ he⟩
    · cases hq
  | binOp op t x y yt =>
    have hvx := hev x (hops x (by simp [Op.operands]))
    have hvy := hev y (hops y (by simp [Op.operands]))
    have key : ∀ v, binA op (ev e x) (ev e y) = some v → ∃ vc, (execOp cev { dst, op := .binOp op t x y yt, type := ty, pos, after, guard }).run P w = .ok (.value vc) w ∧ VR ρ v vc := by
      intro v hb
      obtain ⟨h1, h2⟩ := binA_sound (P := P) (w := w) t hb hvx hvy
      refine ⟨v, run_v ?_, h2⟩
      rw [run_bind]
      have hg : (eqGuard op t x y (cev x) (cev y)).run P w = .ok () w := by
        unfold eqGuard
        unfold binA at hb
        split at hb
        · rename_i k a k' b' ex ey
          rw [ex] at hvx; rw [ey] at hvy
          rw [hvx.int_inv, hvy.int_inv]
          split <;> rfl
        · rename_i a b' ex ey
          rw [ex] at hvx; rw [ey] at hvy
          rw [hvx.string_inv, hvy.string_inv]
          split <;> rfl
        · cases hb
      rw [hg]
      exact h1
    have keyE : ∀ (neg : Bool) (d : TypeDesc) (k : EqK), P.underlying t = some d → eqKind d = some k → op = (if neg then .neq else .eql) → ∀ v, qop e A (.eq neg (isLit x || isLit y) k x y) = some v →
        ∃ vc, (execOp cev { dst, op := .binOp op t x y yt, type := ty, pos, after, guard }).run P w = .ok (.value vc) w ∧ VR ρ v vc := by
      intro neg d k hd hk hop v hqe
      simp only [qop] at hqe
      cases he : eqA (isLit x || isLit y) k (ev e x) (ev e y) with
      | none => rw [he] at hqe; cases hqe
      | some b =>
        rw [he] at hqe; cases hqe
        refine ⟨_, run_v ?_, .bool _⟩
        rw [run_bind, eqA_guard (P := P) (w := w) (by cases neg <;> simp_all) rfl he hvx hvy]
        obtain ⟨h1, h2⟩ := eqA_bin (t := t) he hvx hvy
        have h3 := eqA_run (w := w) hd hk he hvx hvy
        cases neg with
        | false => simp only [Bool.false_eq_true, if_false] at hop; subst hop; simp only [h1, run_bind, h3, run_pure]; rfl
        | true => simp only [if_true] at hop; subst hop; simp only [h2, run_bind, h3, run_pure]; rfl
    have keyF : ∀ (neg : Bool) (l : List (Nat × LeafK)), aggOf P t = some true → P.eqGuardType P.depth t = false → flat P 20 t = some l → op = (if neg then .neq else .eql) → ∀ v, qop e A (.eqF neg l x y) = some v →
        ∃ vc, (execOp cev { dst, op := .binOp op t x y yt, type := ty, pos, after, guard }).run P w = .ok (.value vc) w ∧ VR ρ v vc := by
      intro neg l hagg hg hl hop v hqe
      simp only [qop] at hqe
      split at hqe
      · rename_i xs ys hxs hys
        rw [hxs] at hvx; rw [hys] at hvy
        generalize hX : cev x = X at hvx
        generalize hY : cev y = Y at hvy
        cases hvx with
        | agg xs xs' hxx =>
          cases hvy with
          | agg ys ys' hyy =>
            cases he : eqL l xs ys with
            | none => simp only [he] at hqe; cases hqe
            | some b =>
              simp only [he] at hqe
              cases hqe
              have he' := eqL_mono hxx hyy he
              obtain ⟨D, hD⟩ : ∃ D, Op.maxDepth = D + 20 := ⟨9980, rfl⟩
              have h3 : (Op.equal t (.agg ⟨xs'⟩) (.agg ⟨ys'⟩)).run P w = .ok b w := by
                unfold Op.equal; rw [hD]
                exact flat_equal 20 D t l xs' ys' _ _ b hl he' (.inl ⟨hagg, rfl⟩) (.inl ⟨hagg, rfl⟩)
              have hguard : (eqGuard op t x y (.agg ⟨xs'⟩) (.agg ⟨ys'⟩)).run P w = .ok () w := by
                cases neg with
                | false => simp only [Bool.false_eq_true, if_false] at hop; subst hop; simp [eqGuard, run_bind, program, Sem.run, hg, run_pure]
                | true => simp only [if_true] at hop; subst hop; simp [eqGuard, run_bind, program, Sem.run, hg, run_pure]
              refine ⟨_, run_v ?_, .bool _⟩
              rw [run_bind, hX, hY, hguard]
              cases neg with
              | false => simp only [Bool.false_eq_true, if_false] at hop; subst hop; show (do pure (Value.bool (← Op.equal t (.agg ⟨xs'⟩) (.agg ⟨ys'⟩))) : Sem Value).run P w = _; simp only [run_bind, h3, run_pure]; rfl
              | true => simp only [if_true] at hop; subst hop; show (do pure (Value.bool (!(← Op.equal t (.agg ⟨xs'⟩) (.agg ⟨ys'⟩)))) : Sem Value).run P w = _; simp only [run_bind, h3, run_pure]; rfl
      · cases hqe
    have goF : ∀ (neg : Bool), aggOf P t = some true → op = (if neg then .neq else .eql) → (if P.eqGuardType P.depth t then none else (flat P 20 t).map fun l => AOp.eqF neg l x y) = some ao →
        ∃ vc, (execOp cev { dst, op := .binOp op t x y yt, type := ty, pos, after, guard }).run P w = .ok (.value vc) w ∧ VR ρ v vc := by
      intro neg hagg hop hcc
      split at hcc
      · cases hcc
      · rename_i hg
        cases hl : flat P 20 t with
        | none => rw [hl] at hcc; cases hcc
        | some l =>
          rw [hl] at hcc; cases hcc
          exact keyF neg l hagg (by simpa using hg) hl hop v hq
    simp only at hc
    split at hc
    · cases hc; exact key v hq
    · cases hc; exact key v hq
    · rename_i hu; exact goF false (by unfold aggOf; rw [hu]; rfl) rfl hc
    · rename_i hu; exact goF false (by unfold aggOf; rw [hu]; rfl) rfl hc
    · rename_i hu; exact goF true (by unfold aggOf; rw [hu]; rfl) rfl hc
    · rename_i hu; exact goF true (by unfold aggOf; rw [hu]; rfl) rfl hc
    · rename_i d _ _ _ _ hd
      cases hk : eqKind d with
      | none => rw [hk] at hc; cases hc
      | some k => rw [hk] at hc; cases hc; exact keyE false d k hd hk rfl v hq
    · rename_i d _ _ _ _ hd
      cases hk : eqKind d with
      | none => rw [hk] at hc; cases hc
      | some k => rw [hk] at hc; cases hc; exact keyE true d k hd hk rfl v hq
    · cases hc
  | unOp op t x =>
    cases hc
    have hvx := hev x (hops x (by simp [Op.operands]))
    obtain ⟨h1, h2⟩ := unA_sound (P := P) (w := w) hq hvx
    exact ⟨v, run_v h1, h2⟩
  | convert src dst' x =>
    have hvx := hev x (hops x (by simp [Op.operands]))
    simp only at hc
    split at hc
    · rename_i k' k hs hd
      cases hc
      simp only [qop] at hq
      split at hq
      · rename_i kk n hx
        rw [hx] at hvx; cases hq
        refine ⟨_, run_v ?_, .int _ _⟩
        simp only [convert, run_bind, run_underlying hs, run_underlying hd, hvx.int_inv]
        rfl
      · cases hq
    · rename_i hs hd
      cases hc
      simp only [qop] at hq
      split at hq
      · rename_i s hx
        rw [hx] at hvx; cases hq
        refine ⟨_, run_v ?_, .string _⟩
        simp only [convert, run_bind, run_underlying hs, run_underlying hd, hvx.string_inv]
        rfl
      · cases hq
    · split at hc
      · split at hc
        · cases hc; simp only [qop] at hq; cases hq
        · cases hc
      · cases hc
    · rename_i el hs hd
      split at hc
      · rename_i he8
        cases hc
        simp only [qop] at hq
        have conv : ∀ r, (∀ a n c, ev e x = .slice a n c → (Conv.bytesToString (cev x)).run P w = .ok (.string r) w) → (∃ a n c, ev e x = .slice a n c) →
            (execOp cev { dst, op := .convert src dst' x, type := ty, pos, after, guard }).run P w = .ok (.value (.string r)) w := by
          intro r h1 ⟨a, n, c, hx⟩
          refine run_v ?_
          have h2 := h1 a n c hx
          rw [hx] at hvx
          generalize cev x = X at hvx h2
          simp only [convert, run_bind, run_underlying hs, run_underlying hd]
          cases hvx <;> (simp only [run_bind, run_underlying he8]; exact h2)
        split at hq
        · rename_i hx
          cases hq
          refine ⟨_, conv _ (fun a n c hx2 => ?_) ⟨_, _, _, hx⟩, .string _⟩
          rw [hx] at hvx
          generalize cev x = X at hvx
          cases hvx; rfl
        · rename_i a n c _ hx
          split at hq
          · rename_i cs hf
            split at hq
            · rename_i hall
              cases hq
              refine ⟨_, conv _ (fun a2 n2 c2 hx2 => ?_) ⟨_, _, _, hx⟩, .string _⟩
              rw [hx] at hvx
              exact cvB2S_sound hr hf hall hvx
            · cases hq
          · cases hq
        · cases hq
      · cases hc
    · cases hc
  | typeAssert x xt t ok =>
    have hvx := hev x (hops x (by simp [Op.operands]))
    cases ok with
    | true => cases hc
    | false =>
      simp only at hc
      split at hc
      · cases hc
      · rename_i d hn hd
        cases hc
        simp only [qop] at hq
        split at hq
        · rename_i t' u hu
          split at hq
          · rename_i ht
            subst ht
            cases hq
            rw [hu] at hvx
            obtain ⟨u', hx, hv⟩ : ∃ u', cev x = .iface t' u' ∧ VR ρ v u' := by
              generalize cev x = z at hvx
              cases hvx with
              | iface _ _ u' h => exact ⟨u', rfl, h⟩
            refine ⟨u', run_v ?_, hv⟩
            rw [hx]
            simp only [Instr.typeAssert, run_bind, run_underlying hd]
            revert hn
            cases d with
            | interface ms => intro hn; exact (hn ms rfl).elim
            | _ => intro hn; simp only [if_true]; rfl
          · cases hq
        · cases hq
      · cases hc
  | makeInterface t x =>
    have hvx := hev x (hops x (by simp [Op.operands]))
    simp only at hc
    split at hc
    · cases hc
    · rename_i d hn hd
      cases hc; cases hq
      refine ⟨_, run_v ?_, .iface _ _ _ hvx⟩
      simp only [Instr.makeInterface, run_bind, run_underlying hd]
      revert hn
      cases d with
      | interface ms => intro hn; exact (hn ms rfl).elim
      | _ => intro hn; rfl
    · cases hc
  | makeFunc fn first captured =>
    cases fn with
    | func f =>
      cases hc; cases hq
      refine ⟨_, rfl, ?_⟩
      have h1 : VRs ρ (first.toList.map (ev e)) (first.toList.map cev) := VRs.map fun x hx => hev x (hops x (by simp [Op.operands]; exact .inl (Array.mem_toList_iff.1 hx)))
      have h2 : VRs ρ (captured.toList.map (ev e)) (captured.toList.map cev) := VRs.map fun x hx => hev x (hops x (by simp [Op.operands]; exact .inr (Array.mem_toList_iff.1 hx)))
      have := VR.func f _ _ _ _ h1 h2
      rw [map_arr first cev, map_arr captured cev] at this
      exact this
    | _ => cases hc
  | slice t x lo hi mx =>
    have hvx := hev x (hops x (by simp [Op.operands]))
    have hlo : ∀ y, lo = some y → VR ρ (ev e y) (cev y) := fun y hy => hev y (hops y (by simp [Op.operands, hy]))
    have hhi : ∀ y, hi = some y → VR ρ (ev e y) (cev y) := fun y hy => hev y (hops y (by simp [Op.operands, hy]))
    have hmx : ∀ y, mx = some y → VR ρ (ev e y) (cev y) := fun y hy => hev y (hops y (by simp [Op.operands, hy]))
    simp only at hc
    split at hc
    · rename_i n elem hu
      cases hs : szOf P elem with
      | none => rw [hs] at hc; cases hc
      | some s =>
        rw [hs] at hc; cases hc
        simp only [qop, sliceAA] at hq
        split at hq
        · rename_i b off hx
          rw [hx] at hvx
          obtain ⟨en, he, hX⟩ := hvx.ptr_inv
          split at hq
          · rename_i l hh m hb
            split at hq
            · cases hq
            · rename_i hno
              cases hq
              obtain ⟨h1, h2, h3, h4⟩ := bnds_sound (P := P) (w := w) false hb (Nat.le_refl _) hlo hhi hmx
              refine ⟨_, run_v (x := .slice (some (if m = l then ⟨en.cb, en.base + off, none⟩ else (Addr.mk en.cb (en.base + off) none).add (l * s))) (hh - l) (m - l)) ?_, ?_⟩
              · simp only [Instr.sliceAt, run_bind, run_underlying hu, hX, Instr.sureAddr, run_pure, h1, run_sizeOf hs]
              · rw [add_plain]
                by_cases hml : m = l
                · simp only [hml, if_true]; simp only [hml] at hno
                  exact .slice b _ _ _ en he (by omega) (by omega)
                · simp only [hml, if_false]
                  rw [Nat.add_assoc]
                  exact .slice b _ _ _ en he (by omega) (by omega)
          · cases hq
        · cases hq
    · rename_i hu
      split at hc
      · cases hc
      · rename_i hmn
        cases hc
        simp only [qop, sliceSA] at hq
        split at hq
        · rename_i s hx
          rw [hx] at hvx
          split at hq
          · rename_i l hh m hb
            cases hq
            have hmx0 : mx = none := by simpa using hmn
            subst hmx0
            obtain ⟨h1, h2, h3, h4⟩ := bnds_sound (P := P) (w := w) (mx := none) false hb (Nat.le_refl _) hlo hhi (fun _ h => by cases h)
            refine ⟨_, run_v (x := .string (s.extract l hh)) ?_, ?_⟩
            · simp only [Instr.sliceAt, run_bind, run_underlying hu, Instr.slice, hvx.string_inv, Option.map_none, Option.isSome_none, Bool.false_eq_true, if_false, run_pure]
              simp only [Option.map_none] at h1
              rw [show s.size = s.data.toList.length from rfl, h1]
            · have : (⟨⟨(s.data.toList.drop l).take (hh - l)⟩⟩ : ByteArray) = s.extract l hh := by
                apply ByteArray.ext
                apply Array.ext'
                simp [List.extract_eq_take_drop]
              rw [this]; exact .string _
          · cases hq
        · cases hq
    · rename_i elem hu
      cases hs : szOf P elem with
      | none => rw [hs] at hc; cases hc
      | some s =>
        rw [hs] at hc; cases hc
        simp only [qop] at hq
        obtain ⟨v', h1, h2⟩ := sliceVA_sound hr hq hvx hu hs hlo hhi hmx
        refine ⟨v', run_v ?_, h2⟩
        simp only [Instr.sliceAt, run_bind, run_underlying hu]
        exact h1
    · cases hc
  | fieldAddr t x f =>
    have hvx := hev x (hops x (by simp [Op.operands]))
    simp only at hc
    split at hc
    · rename_i fields hu
      simp only [Option.bind_eq_bind] at hc
      cases hf : fields[f]? with
      | none => rw [hf] at hc; cases hc
      | some g =>
        rw [hf] at hc
        simp only [Option.bind_some] at hc
        cases hs : szOf P g.type with
        | none => rw [hs] at hc; cases hc
        | some s =>
          rw [hs] at hc
          simp only [Option.bind_some] at hc
          split at hc
          · cases hc
          · rename_i h0
            cases hc
            simp only [qop] at hq
            split at hq
            · rename_i b off hx
              rw [hx] at hvx; cases hq
              obtain ⟨en, he, hX⟩ := hvx.ptr_inv
              refine ⟨_, run_v (x := .pointer (some ⟨en.cb, en.base + off + g.offset, none⟩)) ?_, ?_⟩
              · simp only [Instr.fieldAt, run_bind, run_underlying hu, hf, hX, Instr.sureAddr, run_pure, fieldPlace_run hs h0]
              · rw [Nat.add_assoc]; exact .ptr _ _ _ he
            · cases hq
    · cases hc
  | field t x f =>
    have hvx := hev x (hops x (by simp [Op.operands]))
    simp only at hc
    split at hc
    · rename_i fields hu
      simp only [Option.bind_eq_bind] at hc
      cases hf : fields[f]? with
      | none => rw [hf] at hc; cases hc
      | some g =>
        rw [hf] at hc
        simp only [Option.bind_some] at hc
        cases hs : szOf P g.type with
        | none => rw [hs] at hc; cases hc
        | some s =>
          rw [hs] at hc
          simp only [Option.bind_some] at hc
          cases ha : aggOf P g.type with
          | none => rw [ha] at hc; cases hc
          | some a =>
            rw [ha] at hc
            simp only [Option.bind_some, Option.some.injEq] at hc
            generalize hX : cev x = X at hvx
            have run : ∀ (cs' : List Value) (r : Value), X = .agg ⟨cs'⟩ → (part g.type ⟨cs'⟩ g.offset).run P w = .ok r w → (execOp cev { dst, op := .field t x f, type := ty, pos, after, guard }).run P w = .ok (.value r) w := by
              intro cs' r h1 h2
              refine run_v ?_
              simp only [Instr.field, run_bind, run_underlying hu, hf, hX, h1, asAgg, run_pure, h2]
            cases a with
            | false =>
              simp only [Bool.false_eq_true, if_false] at hc
              subst hc
              simp only [qop] at hq
              split at hq
              · rename_i cs hx
                rw [hx] at hvx
                cases hvx with
                | agg cs cs' hcs =>
                  obtain ⟨r, h1, h2⟩ := (part_sound (P := P) (w := w) (t := g.type) (off := g.offset) hcs).1 v ha hq
                  exact ⟨r, run cs' r rfl h1, h2⟩
              · cases hq
            | true =>
              simp only [if_true] at hc
              subst hc
              simp only [qop] at hq
              split at hq
              · rename_i cs hx
                rw [hx] at hvx
                split at hq
                · rename_i hle
                  cases hq
                  cases hvx with
                  | agg cs cs' hcs =>
                    obtain ⟨r, h1, h2⟩ := (part_sound (P := P) (w := w) (t := g.type) (off := g.offset) hcs).2 s ha hs hle
                    exact ⟨r, run cs' r rfl h1, h2⟩
                · cases hq
              · cases hq
    · cases hc
  | indexAddr t x i =>
    have hvx := hev x (hops x (by simp [Op.operands]))
    have hvi := hev i (hops i (by simp [Op.operands]))
    simp only at hc
    split at hc
    · rename_i n elem hu
      cases hs : szOf P elem with
      | none => rw [hs] at hc; cases hc
      | some s =>
        rw [hs] at hc; cases hc
        simp only [qop] at hq
        split at hq
        · rename_i b off j hx hj
          split at hq
          · rename_i hb
            cases hq
            rw [hx] at hvx
            obtain ⟨en, he, hX⟩ := hvx.ptr_inv
            obtain ⟨k, hk⟩ := idxA_sound (P := P) (w := w) hj hvi
            refine ⟨_, run_v (x := .pointer (some ((Addr.mk en.cb (en.base + off) none).add (j.toNat * s)))) ?_, ?_⟩
            · simp only [Instr.indexAt, run_bind, hk, run_underlying hu, hX, Instr.sureAddr, run_pure, if_pos hb, run_sizeOf hs]
            · rw [add_plain, Nat.add_assoc]; exact .ptr _ _ _ he
          · cases hq
        · cases hq
    · rename_i elem hu
      cases hs : szOf P elem with
      | none => rw [hs] at hc; cases hc
      | some s =>
        rw [hs] at hc; cases hc
        simp only [qop] at hq
        split at hq
        · rename_i b off len cap j hx hj
          split at hq
          · rename_i hb
            cases hq
            rw [hx] at hvx
            obtain ⟨k, hk⟩ := idxA_sound (P := P) (w := w) hj hvi
            generalize hX : cev x = X at hvx
            have run : ∀ (en : REnt) (c : Nat), X = .slice (some ⟨en.cb, en.base + off, none⟩) len c → (execOp cev { dst, op := .indexAddr t x i, type := ty, pos, after, guard }).run P w = .ok (.value (.pointer (some ((Addr.mk en.cb (en.base + off) none).add (j.toNat * s))))) w := by
              intro en c h1
              refine run_v ?_
              simp only [Instr.indexAt, run_bind, hk, run_underlying hu, hX, h1, run_pure, if_pos hb, run_sizeOf hs]
            cases hvx with
            | slice _ _ _ _ en he hc hl => exact ⟨_, run en _ rfl, by rw [add_plain, Nat.add_assoc]; exact .ptr _ _ _ he⟩
            | sliceOpen _ _ _ q en he hq2 hrm => exact ⟨_, run en _ rfl, by rw [add_plain, Nat.add_assoc]; exact .ptr _ _ _ he⟩
            | sliceEnd => omega
          · cases hq
        · cases hq
    · cases hc
  | index t x i =>
    have hvx := hev x (hops x (by simp [Op.operands]))
    have hvi := hev i (hops i (by simp [Op.operands]))
    simp only at hc
    split at hc
    · rename_i n elem hu
      simp only [Option.bind_eq_bind] at hc
      cases hs : szOf P elem with
      | none => rw [hs] at hc; cases hc
      | some s =>
        rw [hs] at hc
        simp only [Option.bind_some] at hc
        cases ha : aggOf P elem with
        | none => rw [ha] at hc; cases hc
        | some a =>
          rw [ha] at hc
          simp only [Option.bind_some, Option.some.injEq] at hc
          generalize hX : cev x = X at hvx
          have run : ∀ (cs' : List Value) (j : Int) (r : Value), X = .agg ⟨cs'⟩ → idxA (ev e i) = some j → (0 ≤ j ∧ j < n) → (part elem ⟨cs'⟩ (j.toNat * s)).run P w = .ok r w → (execOp cev { dst, op := .index t x i, type := ty, pos, after, guard }).run P w = .ok (.value r) w := by
            intro cs' j r h1 hj hb h2
            obtain ⟨k, hk⟩ := idxA_sound (P := P) (w := w) hj hvi
            refine run_v ?_
            simp only [Instr.index, run_bind, hk, run_underlying hu, hX, h1, if_pos hb, run_sizeOf hs, h2]
          cases a with
          | false =>
            simp only [Bool.false_eq_true, if_false] at hc
            subst hc
            simp only [qop] at hq
            split at hq
            · rename_i cs j hx hj
              rw [hx] at hvx
              split at hq
              · rename_i hb
                cases hvx with
                | agg cs cs' hcs =>
                  obtain ⟨r, h1, h2⟩ := (part_sound (P := P) (w := w) (t := elem) (off := j.toNat * s) hcs).1 v ha hq
                  exact ⟨r, run cs' j r rfl hj hb h1, h2⟩
              · cases hq
            · cases hq
          | true =>
            simp only [if_true] at hc
            subst hc
            simp only [qop] at hq
            split at hq
            · rename_i cs j hx hj
              rw [hx] at hvx
              split at hq
              · rename_i hb
                split at hq
                · rename_i hle
                  cases hq
                  cases hvx with
                  | agg cs cs' hcs =>
                    obtain ⟨r, h1, h2⟩ := (part_sound (P := P) (w := w) (t := elem) (off := j.toNat * s) hcs).2 s ha hs hle
                    exact ⟨r, run cs' j r rfl hj hb h1, h2⟩
                · cases hq
              · cases hq
            · cases hq
    · rename_i hu
      cases hc
      simp only [qop] at hq
      split at hq
      · rename_i s j hx hj
        split at hq
        · rename_i hb
          cases hg : s.data.toList[j.toNat]? with
          | none => rw [hg] at hq; cases hq
          | some b =>
            rw [hg] at hq; cases hq
            rw [hx] at hvx
            obtain ⟨k, hk⟩ := idxA_sound (P := P) (w := w) hj hvi
            refine ⟨_, run_v (x := .int .u8 b.toNat) ?_, .int _ _⟩
            have : s[j.toNat]? = some b := by
              have hlt : j.toNat < s.data.toList.length := by
                rcases Nat.lt_or_ge j.toNat s.data.toList.length with q | q
                · exact q
                · rw [List.getElem?_eq_none q] at hg; cases hg
              rw [List.getElem?_eq_getElem hlt] at hg
              have hlt2 : j.toNat < s.size := hlt
              rw [getElem?_pos s j.toNat hlt2]
              exact hg
            simp only [Instr.index, run_bind, hk, run_underlying hu, hvx.string_inv, if_pos hb, this, run_pure]
        · cases hq
      · cases hq
    · cases hc
  | extract x i =>
    cases hc
    have hvx := hev x (hops x (by simp [Op.operands]))
    simp only [qop] at hq
    split at hq
    · rename_i vs hx
      rw [hx] at hvx
      generalize hX : cev x = X at hvx
      cases hvx with
      | tuple cs cs' hcs =>
        obtain ⟨r, h1, h2⟩ := hcs.get hq
        refine ⟨r, run_v ?_, h2⟩
        simp only [Instr.extract, hX, List.getElem?_toArray, h1, run_pure]
    · cases hq
  | call c =>
    obtain ⟨callee, args, argTypes⟩ := c
    cases callee with
    | value f =>
      cases f with
      | func f =>
        simp only at hc
        split at hc
        · split at hc
          · cases hc
          · cases hc; simp only [qop] at hq; cases hq
        · cases hc
      | _ => cases hc; simp only [qop] at hq; cases hq
    | invoke r n => cases hc
    | builtin b =>
      cases b with
      | len =>
        simp only at hc
        split at hc
        · rename_i t x ht hx
          have hx2 : args[0]? = some x := hx
          have hvx := hev x (hops x (by
            simp only [Op.operands, Call.operands]
            have := Array.mem_of_getElem? hx2
            simp [this]))
          have hargs : (args.map cev)[0]? = some (cev x) := by simp [hx2]
          have run : ∀ (r : Value), (Builtin.len_ argTypes ty (args.map cev)).run P w = .ok r w → (execOp cev { dst, op := .call { callee := .builtin .len, args, argTypes }, type := ty, pos, after, guard }).run P w = .ok (.value r) w := by
            intro r h
            simp only [execOp, resolve, run_bind, run_pure, invoke, builtin, h]
          have lens : P.underlying t = some .string → qop e A (.lenS x) = some v → ∃ vc, (execOp cev { dst, op := .call { callee := .builtin .len, args, argTypes }, type := ty, pos, after, guard }).run P w = .ok (.value vc) w ∧ VR ρ v vc := by
            intro hu hq
            simp only [qop] at hq
            split at hq
            · rename_i s hx3
              rw [hx3] at hvx; cases hq
              refine ⟨_, run (.int .i64 s.data.toList.length) ?_, .int _ _⟩
              simp only [Builtin.len_, ht, hargs, run_bind, hvx.string_inv, run_underlying hu]; rfl
            · cases hq
          have lenv : ∀ el, P.underlying t = some (.slice el) → qop e A (.lenV x) = some v → ∃ vc, (execOp cev { dst, op := .call { callee := .builtin .len, args, argTypes }, type := ty, pos, after, guard }).run P w = .ok (.value vc) w ∧ VR ρ v vc := by
            intro el hu hq
            simp only [qop] at hq
            split at hq
            · rename_i a n c hx3
              rw [hx3] at hvx; cases hq
              refine ⟨_, run (.int .i64 n) ?_, .int _ _⟩
              simp only [Builtin.len_, ht, hargs, run_bind, run_underlying hu]
              generalize cev x = X at hvx
              cases hvx <;> rfl
            · cases hq
          have lenc : ∀ n el, (P.underlying t = some (.array n el) ∨ ∃ a, P.underlying t = some (.pointer a) ∧ P.underlying a = some (.array n el)) → qop e A (.lenC n) = some v → ∃ vc, (execOp cev { dst, op := .call { callee := .builtin .len, args, argTypes }, type := ty, pos, after, guard }).run P w = .ok (.value vc) w ∧ VR ρ v vc := by
            intro n el hu hq
            cases hq
            refine ⟨_, run (.int .i64 n) ?_, .int _ _⟩
            rcases hu with hu | ⟨a, hu, hua⟩
            · simp only [Builtin.len_, ht, hargs, run_bind, run_underlying hu, run_pure]; rfl
            · simp only [Builtin.len_, ht, hargs, run_bind, run_underlying hu, run_underlying hua, run_pure]; rfl
          split at hc
          · rename_i hu; cases hc; exact lens hu hq
          · rename_i el hu; cases hc; exact lenv el hu hq
          · rename_i n el hu; cases hc; exact lenc n el (.inl hu) hq
          · rename_i a hu
            split at hc
            · rename_i n el hua; cases hc; exact lenc n el (.inr ⟨a, hu, hua⟩) hq
            · cases hc
          · cases hc
        · cases hc
      | min =>
        cases hc
        have hm : ∀ x ∈ args.toList, x ∈ (Op.call { callee := .builtin .min, args, argTypes }).operands.toList := fun x hx => (by simpa [Op.operands, Call.operands] using hx)
        cases heq2 : args.toList with
        | nil => rw [heq2] at hq; cases hq
        | cons x xs =>
          rw [heq2] at hm hq
          obtain ⟨v', h1, h2⟩ := foldV_sound (P := P) (w := w) (ρ := ρ) minV_sound hq (hev x (hm x (by simp))) (VRs.map (ρ := ρ) (e := e) (cev := cev) fun y hy => hev y (hm y (by simp [hy])))
          refine ⟨v', ?_, h2⟩
          have hl : (args.map cev).toList = cev x :: xs.map cev := by simp [heq2]
          simp only [execOp, resolve, run_bind, run_pure, invoke, builtin, Builtin.min_, hl, h1]
      | max =>
        cases hc
        have hm : ∀ x ∈ args.toList, x ∈ (Op.call { callee := .builtin .max, args, argTypes }).operands.toList := fun x hx => (by simpa [Op.operands, Call.operands] using hx)
        cases heq2 : args.toList with
        | nil => rw [heq2] at hq; cases hq
        | cons x xs =>
          rw [heq2] at hm hq
          obtain ⟨v', h1, h2⟩ := foldV_sound (P := P) (w := w) (ρ := ρ) maxV_sound hq (hev x (hm x (by simp))) (VRs.map (ρ := ρ) (e := e) (cev := cev) fun y hy => hev y (hm y (by simp [hy])))
          refine ⟨v', ?_, h2⟩
          have hl : (args.map cev).toList = cev x :: xs.map cev := by simp [heq2]
          simp only [execOp, resolve, run_bind, run_pure, invoke, builtin, Builtin.max_, hl, h1]
      | append =>
        simp only at hc
        split at hc
        · split at hc
          · split at hc
            · cases hc
            · simp only [Option.bind_eq_bind] at hc
              rename_i elem d _ _ _
              cases h1 : szOf P elem with
              | none => rw [h1] at hc; cases hc
              | some z =>
                rw [h1] at hc; simp only [Option.bind_some] at hc
                cases h2 : bytesOf P elem with
                | none => rw [h2] at hc; cases hc
                | some bb =>
                  rw [h2] at hc; simp only [Option.bind_some] at hc
                  cases h3 : zeroOf P elem with
                  | none => rw [h3] at hc; cases hc
                  | some zz =>
                    rw [h3] at hc; simp only [Option.bind_some] at hc
                    by_cases hzz : zz.length = z
                    · rw [if_pos hzz] at hc; cases hc; cases hq
                    · rw [if_neg hzz] at hc; cases hc
          · cases hc
        · cases hc
      | delete =>
        simp only at hc
        split at hc
        · split at hc
          · split at hc
            · cases hc; cases hq
            · cases hc
          · cases hc
        · cases hc
      | clear =>
        simp only at hc
        split at hc
        · split at hc
          · rename_i elem _
            cases h1 : zeroOf P elem with
            | none => rw [h1] at hc; cases hc
            | some z => rw [h1] at hc; cases hc; cases hq
          · cases hc
        · cases hc
      | copy =>
        simp only at hc
        split at hc
        · split at hc
          · rename_i elem _
            cases h1 : szOf P elem with
            | none => rw [h1] at hc; cases hc
            | some z => rw [h1] at hc; cases hc; cases hq
          · cases hc
        · cases hc
      | _ => cases hc
  | alloc elem =>
    simp only at hc
    cases h1 : zeroOf P elem with
    | none => rw [h1] at hc; cases hc
    | some z => rw [h1] at hc; cases hc; cases hq
  | box elem x =>
    simp only at hc
    cases h1 : szOf P elem with
    | none => rw [h1] at hc; cases hc
    | some z => rw [h1] at hc; cases hc; cases hq
  | buildSlice t len parts =>
    exfalso
    simp only at hc
    split at hc
    · rename_i elem _
      simp only [Option.bind_eq_bind] at hc
      cases h1 : szOf P elem with
      | none => rw [h1] at hc; cases hc
      | some z =>
        rw [h1] at hc; simp only [Option.bind_some] at hc
        by_cases h0 : len * z = 0
        · rw [if_pos h0] at hc
          by_cases hk : len * z ≤ 16777216 ∧ len ≤ 16777216 ∧ (len * z = 0 ∨ ([] : List Value).length = z)
          · rw [if_pos hk] at hc; cases hc; cases hq
          · rw [if_neg hk] at hc; cases hc
        · rw [if_neg h0] at hc
          cases h2 : zeroOf P elem with
          | none => rw [h2] at hc; cases hc
          | some zz =>
            rw [h2] at hc; simp only [Option.bind_some] at hc
            by_cases hk : len * z ≤ 16777216 ∧ len ≤ 16777216 ∧ (len * z = 0 ∨ zz.length = z)
            · rw [if_pos hk] at hc; cases hc; cases hq
            · rw [if_neg hk] at hc; cases hc
    · cases hc
  | store t a x =>
    simp only at hc
    cases h1 : szOf P t with
    | none => rw [h1] at hc; cases hc
    | some z => rw [h1] at hc; cases hc; cases hq
  | makeSlice t l c =>
    simp only at hc
    split at hc
    · rename_i elem _
      simp only [Option.bind_eq_bind] at hc
      cases h1 : szOf P elem with
      | none => rw [h1] at hc; cases hc
      | some z =>
        rw [h1] at hc; simp only [Option.bind_some] at hc
        cases h2 : bytesOf P elem with
        | none => rw [h2] at hc; cases hc
        | some bb =>
          rw [h2] at hc; simp only [Option.bind_some] at hc
          cases h3 : zeroOf P elem with
          | none => rw [h3] at hc; cases hc
          | some zz => rw [h3] at hc; cases hc; cases hq
    · cases hc
  | makeMap t r =>
    simp only at hc
    split at hc
    · split at hc
      · cases hc; cases hq
      · cases hc
    · cases hc
  | mapUpdate t m k x =>
    simp only at hc
    split at hc
    · split at hc
      · cases hc; cases hq
      · cases hc
    · cases hc
  | insert t m k x =>
    simp only at hc
    split at hc
    · split at hc
      · cases hc; cases hq
      · cases hc
    · cases hc
  | lookup t m k ok =>
    simp only at hc
    split at hc
    · rename_i kt et hu
      split at hc
      · rename_i kk huk
        split at hc
        · rename_i z hz
          split at hc
          · rename_i hpl
            cases hc
            have hvm := hev m (hops m (by simp [Op.operands]))
            have hvk := hev k (hops k (by simp [Op.operands]))
            have hzr : (zeroValue et).run P w = .ok z w := by
              rw [Option.bind_eq_some_iff] at hz
              obtain ⟨inf, h1, h2⟩ := hz
              simp only [zeroValue, run_bind, run_typeInfo h1, h2, run_pure]
            have hres : ∀ v v' b, VR ρ v v' → VR ρ (getRes ok v b) (if ok = true then .tuple #[v', .bool b] else v') := by
              intro v v' b h
              unfold getRes
              split
              · exact .tuple _ _ (.cons _ _ _ _ h (.cons _ _ _ _ (.bool b) .nil))
              · exact h
            simp only [qop] at hq
            split at hq
            · rename_i kj n hm hk
              split at hq
              · rename_i hkk
                cases hq
                subst hkk
                rw [hm] at hvm; rw [hk] at hvk
                have hm' : cev m = .map none := by generalize cev m = X at hvm; cases hvm; rfl
                have hk' := hvk.int_inv
                refine ⟨_, run_v (x := if ok = true then .tuple #[z, .bool false] else z) ?_, hres _ _ _ (plainV_VR hpl)⟩
                simp only [Instr.lookup, run_bind, run_underlying hu, run_pure, hm', hk', run_checkKey huk]
                rw [run_findKey (r := none) huk rfl]
                simp only [run_bind, hzr, run_pure]
              · cases hq
            · rename_i b kj n hm hk
              split at hq
              · rename_i hkk
                subst hkk
                rw [hm] at hvm; rw [hk] at hvk
                obtain ⟨en, he, hm'⟩ : ∃ en, ρ b = some en ∧ cev m = .map (some en.cb) := by
                  generalize cev m = X at hvm; cases hvm with
                  | map _ en he => exact ⟨en, he, rfl⟩
                have hk' := hvk.int_inv
                split at hq
                · rename_i k2 es clock hb
                  split at hq
                  · rename_i hk2
                    subst hk2
                    obtain ⟨es', hh, hmr⟩ := hr.blk _ _ _ he hb
                    obtain ⟨f1, f2⟩ := findNow_sound (n := n) hmr 0
                    split at hq
                    · rename_i j v hf
                      cases hq
                      obtain ⟨v', g1, g2, _, _⟩ := f2 _ _ hf
                      refine ⟨_, run_v (x := if ok = true then .tuple #[v', .bool true] else v') ?_, hres _ _ _ g2⟩
                      simp only [Instr.lookup, run_bind, run_underlying hu, run_pure, hm', hk', run_getObjMap hh, run_checkKey huk]
                      rw [run_findKey huk g1]
                      simp only [run_bind, run_pure]
                    · rename_i hf
                      cases hq
                      have g1 := f1 hf
                      refine ⟨_, run_v (x := if ok = true then .tuple #[z, .bool false] else z) ?_, hres _ _ _ (plainV_VR hpl)⟩
                      simp only [Instr.lookup, run_bind, run_underlying hu, run_pure, hm', hk', run_getObjMap hh, run_checkKey huk]
                      rw [run_findKey huk g1]
                      simp only [run_bind, hzr, run_pure]
                  · cases hq
                · cases hq
              · cases hq
            · cases hq
          · cases hc
        · cases hc
      · cases hc
    · cases hc
  | _ => cases hc

end
end Go.AS
end
