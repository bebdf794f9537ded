import Derived.Test.YtidgbapgedegbaaAsS
namespace Go.AS
open Go
set_option linter.unusedSimpArgs false
set_option linter.unusedVariables false

section
variable {P : Program} {ρ : Ren} {A : AHeap} {w : World} {e : Env} {a : Act} {ops : Array Oper} {call : CallT} {b : Frame} {k : List Item} {cs : List Frame}

def DfR (ρ : Ren) : List Nat → List Deferred → Prop
  | [], [] => True
  | id :: r, d :: s => (∃ e, ρ id = some e ∧ d = { target := .collected e.cb, args := #[] }) ∧ DfR ρ r s
  | _, _ => False

theorem DfR.mono {ρ' : Ren} (hle : Ren.le ρ ρ') : ∀ {l : List Nat} {ds : List Deferred}, DfR ρ l ds → DfR ρ' l ds
  | [], [], _ => trivial
  | _ :: _, _ :: _, ⟨⟨e, h1, h2⟩, h3⟩ => ⟨⟨e, hle _ _ h1, h2⟩, DfR.mono hle h3⟩
  | [], _ :: _, h => h.elim
  | _ :: _, [], h => h.elim

structure StR (ρ : Ren) (st : St) (a : Act) : Prop where
  env : EnvR ρ st.env a
  n : a.tmps.size = st.n
  dfs : DfR ρ st.dfs a.defers

def RoundR (ρ : Ren) (ctx : Option Nat) (b : Frame) : Prop :=
  match ctx with
  | none => b.roundOf = none
  | some l => ∃ e, ρ l = some e ∧ b.roundOf = some e.cb

theorem RoundR.mono {ρ' : Ren} (hle : Ren.le ρ ρ') {ctx : Option Nat} (h : RoundR ρ ctx b) : RoundR ρ' ctx b := by
  cases ctx with
  | none => exact h
  | some l => obtain ⟨e, h1, h2⟩ := h; exact ⟨e, hle _ _ h1, h2⟩

/-- Where code comes to. -/
def Lands (P : Program) (m : Machine) (b : Frame) (k : List Item) (cs : List Frame) (x : AExit) (a : Act) (w : World) : Prop :=
  match x with
  | .normal => Steps P m (lone (fat b a k) cs w)
  | .exit id => ∃ k1, (∀ k2, exitTo id (k1 ++ k2) = exitTo id k2) ∧ Steps P m (lone (fat b a (.code (.exit id) :: (k1 ++ k))) cs w)
  | .ret => ∃ todo, Steps P m (lone (fat b a (.code .ret :: todo)) cs w)

theorem Lands.of_steps {m m1 : Machine} {x : AExit} (h : Steps P m m1) (h' : Lands P m1 b k cs x a w) : Lands P m b k cs x a w := by
  cases x with
  | normal => exact h.trans h'
  | exit id => obtain ⟨k1, h1, h2⟩ := h'; exact ⟨k1, h1, h.trans h2⟩
  | ret => obtain ⟨t, h2⟩ := h'; exact ⟨t, h.trans h2⟩

/-- An item on top that lets jumps pass. -/
theorem Lands.pass {m : Machine} {x : AExit} {i : Item} (hx : x ≠ .normal) (hi : ∀ id k2, x = .exit id → exitTo id (i :: k2) = exitTo id k2) (h : Lands P m b (i :: k) cs x a w) : Lands P m b k cs x a w := by
  cases x with
  | normal => exact absurd rfl hx
  | exit id =>
    obtain ⟨k1, h1, h2⟩ := h
    refine ⟨k1 ++ [i], fun k2 => ?_, by simpa using h2⟩
    rw [List.append_assoc, h1]; exact hi id k2 rfl
  | ret => exact h

/-- What code does, said of both. -/
def SExec (P : Program) (fn : FuncId) (ctx : Option Nat) (c : Code) (st : St) (x : AExit) (st' : St) : Prop :=
  ∀ (ρ : Ren) (a : Act) (w : World) (b : Frame), b.fn = fn → StR ρ st a → HRel (CompOf P) ρ st.A w.heap → (∀ n, st.A.size ≤ n → n < st'.A.size → ρ n = none) → RoundR ρ ctx b →
    ∃ ρ' a' w', (∀ k cs, Lands P (lone (fat b a (.code c :: k)) cs w) b k cs x a' w') ∧ StR ρ' st' a' ∧ Tr (CompOf P) ρ st.A w ρ' st'.A w'

/-! ### Loops over a function: the machine's steps -/
theorem run_newObj {o : Obj} : (newObj o).run P w = .ok w.heap.size { w with heap := w.heap.push o } := by
  simp [newObj, Sem.run]

theorem run_getObj {r : Nat} {o : Obj} (h : w.heap[r]? = some o) (hn : ∀ c t f, o ≠ .cells c t f) : (getObj r).run P w = .ok o w := by
  cases o with
  | cells c t f => exact absurd rfl (hn c t f)
  | _ => simp only [getObj, Sem.run, h]

theorem run_setObj {r : Nat} {o o' : Obj} (h : w.heap[r]? = some o) (hn : ∀ c t f, o ≠ .cells c t f) : (setObj r o').run P w = .ok () { w with heap := w.heap.setIfInBounds r o' } := by
  cases o with
  | cells c t f => exact absurd rfl (hn c t f)
  | _ => simp only [setObj, Sem.run, h]

theorem run_getLoop {l : Nat} {r : Loop} (h : w.heap[l]? = some (.loop r)) : (Instr.getLoop l).run P w = .ok r w := by
  simp only [Instr.getLoop, run_bind, run_getObj h (fun _ _ _ => by simp), run_pure]

theorem st_range {f : Operand} {params : Array Tmp} {assign body : Code} {l : Nat} {mark : List Deferred} {w1 : World} {d : Deferred} {nx : Next} {m : Machine}
    (h1 : (Instr.enterLoop b.fn a.tmps params assign body b.roundOf).run P w = .ok (l, mark) w1)
    (h2 : (Deferred.ofValue (a.eval f) #[.func (.yield l) #[] #[]]).run P w1 = .ok d w1) (h3 : (invoke d.target d.args).run P w1 = .ok nx w1)
    (h4 : (∃ g as, nx = .enter g as ∧ m = lone (Frame.enter P g as .normal) (fat b { a with defers := mark ++ a.defers } (.inRangeFunc l :: k) :: cs) w1) ∨
      (∃ l' g tmps asg bd, nx = .round l' g tmps asg bd ∧ m = lone (Frame.round l' g tmps asg bd .normal) (fat b { a with defers := mark ++ a.defers } (.inRangeFunc l :: k) :: cs) w1)) :
    step P (lone (fat b a (.code (.rangeFunc f params assign body) :: k)) cs w) = .next m := by
  have he := fat_eval b { a with defers := mark ++ a.defers } (.inRangeFunc l :: k)
  have he2 : ∀ x, Frame.eval { (fat b a (.code (.rangeFunc f params assign body) :: k)) with todo := .inRangeFunc l :: k, defers := mark ++ a.defers } x = a.eval x := by
    intro x; cases x <;> rfl
  have hres : (do let d ← resolve (Frame.eval { (fat b a (.code (.rangeFunc f params assign body) :: k)) with todo := .inRangeFunc l :: k, defers := mark ++ a.defers }) { callee := .value f, args := #[.const (.func (.yield l) #[] #[])], argTypes := #[] } 0; invoke d.target d.args : Sem Next).run P w1 = .ok nx w1 := by
    simp only [run_bind, resolve, he2]
    have : (#[Operand.const (.func (.yield l) #[] #[])].map (Frame.eval { (fat b a (.code (.rangeFunc f params assign body) :: k)) with todo := .inRangeFunc l :: k, defers := mark ++ a.defers })) = #[.func (.yield l) #[] #[]] := by
      simp [Frame.eval]
    rw [this, h2]
    exact h3
  rcases h4 with ⟨g, as, rfl, rfl⟩ | ⟨l', g, tmps, asg, bd, rfl, rfl⟩
  · apply step_lone_go
    simp only [fat] at hres h1 ⊢
    simp [stepG, stepG.exec, h1, stepG.apply, hres]
  · apply step_lone_go
    simp only [fat] at hres h1 ⊢
    simp [stepG, stepG.exec, h1, stepG.apply, hres]

theorem st_endRange {l : Nat} {jump : Option Code} {w1 : World} (h : (Instr.endLoop l).run P w = .ok jump w1) :
    step P (lone (fat b a (.endRangeFunc l :: k)) cs w) = .next (lone (fat b a ((jump.map Item.code).toList ++ k)) cs w1) := by
  apply step_lone_go
  simp [stepG, stepG.exec, fat, h]

theorem st_beginRound {l : Nat} {w1 : World} (hb : b.roundOf = some l) (h : (Instr.beginRound l).run P w = .ok () w1) :
    step P (lone (fat b a (.beginRound :: k)) cs w) = .next (lone (fat b a k) cs w1) := by
  apply step_lone_go
  have : (do Instr.beginRound l; pure Next.skip : Sem Next).run P w = .ok .skip w1 := by rw [run_bind, h]; rfl
  simp [stepG, stepG.exec, fat, hb, stepG.apply, h, Result.andThen, Frame.finish]

theorem st_leaveRound {l : Nat} {c : Frame} {v : Value} {w1 : World} {jump : Option Code} {todo : List Item} (hb : b.roundOf = some l) (hk : b.kind = .normal) (h : (Instr.endRound l jump).run P w = .ok v w1)
    (ht : (jump = none ∧ todo = []) ∨ (jump = some .ret ∧ ∃ r, todo = .code .ret :: r) ∨ (∃ id r, jump = some (.exit id) ∧ todo = .code (.exit id) :: r ∧ exitTo id r = none)) :
    step P (lone (fat b a todo) (c :: cs) w) = .next (lone (c.finish v) cs w1) := by
  apply step_lone_go
  rcases ht with ⟨rfl, rfl⟩ | ⟨rfl, r, rfl⟩ | ⟨id, r, rfl, rfl, hx⟩
  · simp [stepG, stepG.exec, fat, hb, h, doReturn, hk]
  · simp [stepG, stepG.exec, fat, hb, h, doReturn, hk]
  · simp [stepG, stepG.exec, fat, hb, h, doReturn, hk, hx]

theorem st_leaveFn {todo : List Item} (hb : b.roundOf = none) (ht : todo = [] ∨ ∃ r, todo = .code .ret :: r) :
    step P (lone (fat b a todo) cs w) = .next (lone { (fat b a todo) with mode := .returning } cs w) := by
  apply step_lone_go
  rcases ht with rfl | ⟨r, rfl⟩
  · simp [stepG, stepG.exec, fat, hb]
  · simp [stepG, stepG.exec, fat, hb]

theorem st_unwindOne {todo : List Item} {r : Nat} {ds : List Deferred} {w1 : World} (hd : a.defers = { target := .collected r, args := #[] } :: ds) (h : (Instr.takeDeferred r).run P w = .ok [] w1) :
    step P (lone { (fat b a todo) with mode := .returning } cs w) = .next (lone { (fat b { a with defers := ds } todo) with mode := .returning } cs w1) := by
  apply step_lone_go
  simp [stepG, unwind, fat, hd, h]

end
end Go.AS
