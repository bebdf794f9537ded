import Derived.Test.YtidgbapgedegbaaAsA
namespace Go.AS
open Go
set_option linter.unusedSimpArgs false
set_option linter.unusedVariables false

/-! ## The abstract code -/

/-- What is compared. -/
inductive EqK where
  | bool | ptr | slice | map | func | iface
  deriving Inhabited

/-- A cell that is compared by itself. -/
inductive LeafK where
  | b | i | s
  deriving Inhabited

/-- What an operation is, types looked up. -/
inductive AOp where
  | mov (x : Operand)
  | pick (c a b : Operand)
  | alloc (elem : TypeId) (zero : List Value)
  | box (elem : TypeId) (n : Nat) (x : Operand)
  | build (zero : List Value) (parts : List (Nat × Nat × Operand))
  | bslice (elem : TypeId) (len : Nat) (zero : List Value) (parts : List (Nat × Nat × Operand))
  | load1 (a : Operand)
  | loadN (n : Nat) (a : Operand)
  | store (n : Nat) (a x : Operand)
  | nilchk (x : Operand)
  | bin (op : BinOp) (x y : Operand)
  | eq (neg lit : Bool) (k : EqK) (x y : Operand)
  | eqF (neg : Bool) (l : List (Nat × LeafK)) (x y : Operand)
  | un (op : UnOp) (x : Operand)
  | cvInt (k : IntKind) (x : Operand)
  | cvStr (x : Operand)
  | cvS2B (elem : TypeId) (x : Operand)
  | cvB2S (x : Operand)
  | mkI (t : TypeId) (x : Operand)
  | mkF (f : FuncId) (first captured : List Operand)
  | mkS (elem : TypeId) (size bytes : Nat) (zero : List Value) (l c : Operand)
  | sliceS (x : Operand) (lo hi : Option Operand)
  | sliceV (size : Nat) (x : Operand) (lo hi mx : Option Operand)
  | sliceA (n size : Nat) (x : Operand) (lo hi mx : Option Operand)
  | faddr (off : Nat) (x : Operand)
  | fld1 (off : Nat) (x : Operand)
  | fldN (off n : Nat) (x : Operand)
  | iaddrA (n size : Nat) (x i : Operand)
  | iaddrS (size : Nat) (x i : Operand)
  | idx1 (n size : Nat) (x i : Operand)
  | idxN (n size : Nat) (x i : Operand)
  | idxS (x i : Operand)
  | ext (x : Operand) (i : Nat)
  | lenS (x : Operand)
  | lenV (x : Operand)
  | lenC (n : Nat)
  | append (elem : TypeId) (size bytes : Nat) (s x : Operand)
  | copy (size : Nat) (d s : Operand)
  | clear (zero : List Value) (s : Operand)
  | mkMap (r : Option Operand)
  | mapPut (kk : IntKind) (m k x : Operand)
  | mapGet (kk : IntKind) (ok : Bool) (zero : Value) (m k : Operand)
  | mapDel (kk : IntKind) (m k : Operand)
  | min (xs : List Operand)
  | max (xs : List Operand)
  | call (f : FuncId) (args : List Operand)
  | callv (f : Operand) (args : List Operand)
  deriving Inhabited

structure AOper where
  dst : Option Nat
  guard : Option (Nat × Bool)
  op : AOp
  deriving Inhabited

inductive ACode where
  | skip
  | ops (l : List AOper)
  | opsD (l : List AOper) (chk : List (Nat × Nat))
  | seq (a b : ACode)
  | cond (c : Operand) (a b : ACode)
  | block (id : Nat) (a : ACode)
  | loop (a : ACode)
  | exit (id : Nat)
  | ret
  | rangeFunc (f : Operand) (params : List Nat) (assign body : ACode)
  deriving Inhabited

/-! ## The abstract memory -/

abbrev Env := Trie Value

def Env.rd (e : Env) (t : Nat) : Value := (e.get t).getD undef

inductive ABlk where
  | cells (cs : List Value) (ro : Bool) (opn : Nat)
  | loop (state : LoopState) (pending : Option Code) (fn : FuncId) (n : Nat) (env : Env) (params : List Nat) (assign body : ACode) (defers : Nat)
  | dfr (taken : Bool)
  | map (kk : IntKind) (es : List (Int × Value × Nat)) (clock : Nat)
  | dead
  deriving Inhabited

structure AHeap where
  size : Nat
  m : Trie ABlk

namespace AHeap
def get (A : AHeap) (b : Nat) : Option ABlk := if b < A.size then A.m.get b else none
def set (A : AHeap) (b : Nat) (x : ABlk) : AHeap := ⟨A.size, A.m.set b x⟩
def alloc (A : AHeap) (x : ABlk) : AHeap := ⟨A.size + 1, A.m.set A.size x⟩
theorem get_lt {A : AHeap} {b : Nat} {x : ABlk} (h : A.get b = some x) : b < A.size := by
  unfold get at h; split at h
  · assumption
  · cases h
theorem get_set (A : AHeap) (b j : Nat) (x : ABlk) (h : b < A.size) : (A.set b x).get j = if j = b then some x else A.get j := by
  unfold get set
  simp only [Trie.get_set]
  by_cases hj : j = b
  · subst hj; rw [if_pos h, if_pos rfl, if_pos rfl]
  · rw [if_neg hj, if_neg hj]
theorem get_alloc (A : AHeap) (j : Nat) (x : ABlk) : (A.alloc x).get j = if j = A.size then some x else A.get j := by
  unfold get alloc
  simp only [Trie.get_set]
  by_cases hj : j = A.size
  · subst hj; rw [if_pos (by omega), if_pos rfl, if_pos rfl]
  · rw [if_neg hj, if_neg hj]
    by_cases h : j < A.size
    · rw [if_pos h, if_pos (by omega)]
    · rw [if_neg h, if_neg (by omega)]
theorem get_move (A : AHeap) (b j : Nat) (x y : ABlk) (h : b < A.size) : ((A.set b y).alloc x).get j = if j = A.size then some x else if j = b then some y else A.get j := by
  have h1 := get_alloc (A.set b y) j x
  rw [get_set _ _ _ _ h] at h1
  exact h1
@[simp] theorem size_set (A : AHeap) (b : Nat) (x : ABlk) : (A.set b x).size = A.size := rfl
@[simp] theorem size_alloc (A : AHeap) (x : ABlk) : (A.alloc x).size = A.size + 1 := rfl
end AHeap

/-- A block that nobody writes through. -/
def passive : Option ABlk → Prop
  | some (.cells _ true _) => True
  | some .dead => True
  | none => True
  | _ => False

/-- The code that a piece of ours stands for. -/
abbrev Comp := Code → ACode → Prop

/-- A map's entries. -/
inductive MR (ρ : Ren) (kk : IntKind) : List (Int × Value × Nat) → List MapEntry → Prop
  | nil : MR ρ kk [] []
  | cons (k : Int) (v v' : Value) (n : Nat) (es : List (Int × Value × Nat)) (es' : List MapEntry) : VR ρ v v' → MR ρ kk es es' → MR ρ kk ((k, v, n) :: es) (⟨.int kk k, v', n⟩ :: es')

theorem MR.mono {ρ ρ' : Ren} {kk : IntKind} (hle : Ren.le ρ ρ') {es : List (Int × Value × Nat)} {es' : List MapEntry} (h : MR ρ kk es es') : MR ρ' kk es es' := by
  induction h with
  | nil => exact .nil
  | cons k v v' n es es' hv _ ih => exact .cons k v v' n es es' (hv.mono hle) ih

/-- What one block of ours says of the machine's. -/
def BRel (C : Comp) (ρ : Ren) (e : REnt) (h : Array Obj) : ABlk → Prop
  | .cells cs ro opn => ∃ cc el lo hi, h[e.cb]? = some (.cells cc el (lo, hi)) ∧ e.base + cs.length ≤ cc.size ∧
      (∀ (i : Nat) (v : Value), cs[i]? = some v → ∃ v', cc[e.base + i]? = some v' ∧ VR ρ v v') ∧
      (ro = false → ∀ i, e.base ≤ i → i < cc.size → ¬ (lo ≤ i ∧ i < hi)) ∧
      (opn ≠ 0 → cs.length ≤ e.room * e.esz ∧ e.base + e.room * e.esz ≤ cc.size ∧ e.esz = opn ∧ ro = false)
  | .loop st pend fn n env params assign body dfs => ∃ l : Loop, h[e.cb]? = some (.loop l) ∧ l.state = st ∧ l.pending = pend ∧ l.fn = fn ∧
      l.params.toList = params ∧ C l.assign assign ∧ C l.body body ∧ l.tmps.size = n ∧ (∀ t, VR ρ (env.rd t) (l.tmps.getD t undef)) ∧ (∃ ed, ρ dfs = some ed ∧ l.defers = ed.cb)
  | .dfr taken => h[e.cb]? = some (.deferred (if taken then none else some []))
  | .map kk es clock => ∃ es', h[e.cb]? = some (.map es' clock) ∧ MR ρ kk es es'.toList
  | .dead => True

structure HRel (C : Comp) (ρ : Ren) (A : AHeap) (h : Array Obj) : Prop where
  blk : ∀ b e x, ρ b = some e → A.get b = some x → BRel C ρ e h x
  inj : ∀ b b' e e' x x', b ≠ b' → ρ b = some e → ρ b' = some e' → A.get b = some x → A.get b' = some x' → ¬ passive (some x) → x' ≠ .dead → e.cb ≠ e'.cb

/-- From one state to the next. -/
structure Tr (C : Comp) (ρ : Ren) (A : AHeap) (w : World) (ρ' : Ren) (A' : AHeap) (w' : World) : Prop where
  rel : HRel C ρ' A' w'.heap
  mono : Ren.le ρ ρ'
  free : ∀ b, A.size ≤ b → b < A'.size → ρ b = none
  fresh : ∀ b, ρ b = none → ρ' b ≠ none → A.size ≤ b ∧ b < A'.size
  size : A.size ≤ A'.size
  absent : ∀ b, b < A.size → ρ b = none → A'.get b = A.get b
  still : ∀ b, b < A.size → passive (A.get b) → A'.get b = A.get b
  newcb : ∀ b e, ρ b = none → ρ' b = some e → w.heap.size ≤ e.cb ∨ ∃ b0 e0, b0 < A.size ∧ ρ b0 = some e0 ∧ e0.cb = e.cb ∧ ¬ passive (A.get b0)
  frame : ∀ cb, cb < w.heap.size → (∀ b e, b < A.size → ρ b = some e → e.cb = cb → passive (A.get b)) → w'.heap[cb]? = w.heap[cb]?
  hsize : w.heap.size ≤ w'.heap.size
  os : w'.os = w.os
  tape : w'.tape = w.tape
  output : w'.output = w.output

theorem Tr.refl {C : Comp} {ρ : Ren} {A : AHeap} {w : World} (h : HRel C ρ A w.heap) : Tr C ρ A w ρ A w where
  rel := h
  mono := Ren.le_refl _
  free := fun b h0 h1 => by omega
  fresh := fun b h0 h1 => absurd h0 h1
  size := Nat.le_refl _
  absent := fun _ _ _ => rfl
  still := fun _ _ _ => rfl
  newcb := fun b e h0 h1 => by rw [h0] at h1; cases h1
  frame := fun _ _ _ => rfl
  hsize := Nat.le_refl _
  os := rfl
  tape := rfl
  output := rfl

theorem Tr.trans {C : Comp} {ρ ρ1 ρ2 : Ren} {A A1 A2 : AHeap} {w w1 w2 : World} (h : Tr C ρ A w ρ1 A1 w1) (k : Tr C ρ1 A1 w1 ρ2 A2 w2) : Tr C ρ A w ρ2 A2 w2 where
  rel := k.rel
  mono := Ren.le_trans h.mono k.mono
  free := fun b h0 h1 => by
    by_cases hb : b < A1.size
    · exact h.free b h0 hb
    · cases hr : ρ b with
      | none => rfl
      | some e => have := k.free b (by omega) h1; rw [h.mono _ _ hr] at this; cases this
  fresh := fun b h0 h2 => by
    by_cases h1 : ρ1 b = none
    · have := k.fresh b h1 h2; exact ⟨Nat.le_trans h.size this.1, this.2⟩
    · have := h.fresh b h0 h1; exact ⟨this.1, Nat.lt_of_lt_of_le this.2 k.size⟩
  size := Nat.le_trans h.size k.size
  absent := fun b hb h0 => by
    have h1 : ρ1 b = none := by
      apply Classical.byContradiction; intro h1
      have := h.fresh b h0 h1; omega
    rw [k.absent b (Nat.lt_of_lt_of_le hb h.size) h1, h.absent b hb h0]
  still := fun b hb hp => by
    have e1 := h.still b hb hp
    rw [k.still b (Nat.lt_of_lt_of_le hb h.size) (by rw [e1]; exact hp), e1]
  newcb := fun b e h0 h2 => by
    cases h1 : ρ1 b with
    | none =>
      rcases k.newcb b e h1 h2 with hge | ⟨b0, e0, hb0, he0, hcb, hnp⟩
      · exact .inl (Nat.le_trans h.hsize hge)
      · cases hb : ρ b0 with
        | none =>
          rcases h.newcb b0 e0 hb he0 with hge | ⟨b1, e1, hb1, he1, hcb1, hnp1⟩
          · exact .inl (hcb ▸ hge)
          · exact .inr ⟨b1, e1, hb1, he1, hcb1.trans hcb, hnp1⟩
        | some e1 =>
          have := h.mono _ _ hb
          rw [he0] at this; cases this
          have hlt : b0 < A.size := by
            apply Classical.byContradiction; intro hge
            have := h.free b0 (by omega) hb0
            rw [hb] at this; cases this
          exact .inr ⟨b0, e0, hlt, hb, hcb, fun hp => hnp (by rw [h.still b0 hlt hp]; exact hp)⟩
    | some e1 =>
      have := k.mono _ _ h1
      rw [h2] at this; cases this
      exact h.newcb b e h0 h1
  frame := fun cb hcb hp => by
    rw [k.frame cb (Nat.lt_of_lt_of_le hcb h.hsize) ?_, h.frame cb hcb hp]
    intro b e hb1 he1 hce
    cases h0 : ρ b with
    | none =>
      by_cases hb : b < A.size
      · exact absurd he1 (by
          have : ρ1 b = none := by
            apply Classical.byContradiction; intro h1; have := h.fresh b h0 h1; omega
          rw [this]; simp)
      · rcases h.newcb b e h0 he1 with hge | ⟨b0, e0, hb0, he0, hcb0, hnp⟩
        · omega
        · exact absurd (hp b0 e0 hb0 he0 (hcb0.trans hce)) hnp
    | some e0 =>
      have := h.mono _ _ h0
      rw [he1] at this; cases this
      by_cases hb : b < A.size
      · rw [h.still b hb (hp b e hb h0 hce)]; exact hp b e hb h0 hce
      · have := h.free b (by omega) hb1
        rw [h0] at this; cases this
  hsize := Nat.le_trans h.hsize k.hsize
  os := k.os.trans h.os
  tape := k.tape.trans h.tape
  output := k.output.trans h.output

end Go.AS
