import Derived.Test.YtidgbapgedegbaaAsQ
namespace Go.AS
open Go
set_option linter.unusedSimpArgs false
set_option linter.unusedVariables false

/-! ## Frames -/

def fat (b : Frame) (a : Act) (todo : List Item) : Frame := { b with tmps := a.tmps, todo := todo, defers := a.defers, mode := .run }

theorem fat_eval (b : Frame) (a : Act) (todo : List Item) : (fat b a todo).eval = a.eval := by
  funext x; cases x <;> rfl

section
variable {P : Program} {b : Frame} {a : Act} {k : List Item} {cs : List Frame} {w : World} {ops : Array Oper}

theorem st_skip : step P (lone (fat b a (.code .skip :: k)) cs w) = .next (lone (fat b a k) cs w) := step_lone_go (by simp [stepG, stepG.exec, fat])
theorem st_label {l : Nat} : step P (lone (fat b a (.code (.label l) :: k)) cs w) = .next (lone (fat b a k) cs w) := step_lone_go (by simp [stepG, stepG.exec, fat])
theorem st_inBlock {id : Nat} : step P (lone (fat b a (.inBlock id :: k)) cs w) = .next (lone (fat b a k) cs w) := step_lone_go (by simp [stepG, stepG.exec, fat])
theorem st_inScope {c : Code} : step P (lone (fat b a (.inScope c :: k)) cs w) = .next (lone (fat b a k) cs w) := step_lone_go (by simp [stepG, stepG.exec, fat])
theorem st_seq {x y : Code} : step P (lone (fat b a (.code (.seq x y) :: k)) cs w) = .next (lone (fat b a (.code x :: .code y :: k)) cs w) := step_lone_go (by simp [stepG, stepG.exec, fat])
theorem st_block {id : Nat} {c : Code} : step P (lone (fat b a (.code (.block id c) :: k)) cs w) = .next (lone (fat b a (.code c :: .inBlock id :: k)) cs w) := step_lone_go (by simp [stepG, stepG.exec, fat])
theorem st_scope {c : Code} : step P (lone (fat b a (.code (.scope c) :: k)) cs w) = .next (lone (fat b a (.code c :: .inScope c :: k)) cs w) := step_lone_go (by simp [stepG, stepG.exec, fat])
theorem st_loop {c : Code} : step P (lone (fat b a (.code (.loop c) :: k)) cs w) = .next (lone (fat b a (.code c :: .inLoop c :: k)) cs w) := step_lone_go (by simp [stepG, stepG.exec, fat])
theorem st_inLoop {c : Code} : step P (lone (fat b a (.inLoop c :: k)) cs w) = .next (lone (fat b a (.code c :: .inLoop c :: k)) cs w) := step_lone_go (by simp [stepG, stepG.exec, fat])
theorem st_cond {c : Operand} {x y : Code} {t : Bool} (h : a.eval c = .bool t) : step P (lone (fat b a (.code (.cond c x y) :: k)) cs w) = .next (lone (fat b a (.code (if t then x else y) :: k)) cs w) :=
  step_lone_go (by
    have := congrFun (fat_eval b a (.code (.cond c x y) :: k)) c
    simp only [fat] at this
    simp [stepG, stepG.exec, fat, this, h])
theorem st_exit {id : Nat} {k' : List Item} (h : exitTo id k = some k') : step P (lone (fat b a (.code (.exit id) :: k)) cs w) = .next (lone (fat b a k') cs w) :=
  step_lone_go (by simp [stepG, stepG.exec, fat, h])
theorem st_region {id : Nat} : step P (lone (fat b a (.code (.region id ops false) :: k)) cs w) = .next (lone (fat b a (.inRegion ops (List.range ops.size) :: k)) cs w) :=
  step_lone_go (by simp [stepG, stepG.exec, fat])
theorem st_regionDraw {id : Nat} : step P (lone (fat b a (.code (.region id ops true) :: k)) cs w) =
    .next (lone (fat b a (.inRegion ops (Region.schedule (P.follows .mixedOrders) ops (w.tape w.drawn (.order b.fn id))) :: k)) cs { w with drawn := w.drawn + 1 }) :=
  step_lone_go (by simp [stepG, stepG.exec, fat, choose, Sem.run, Question.forced, Question.cut])
theorem st_regionEnd : step P (lone (fat b a (.inRegion ops [] :: k)) cs w) = .next (lone (fat b a k) cs w) := step_lone_go (by simp [stepG, stepG.exec, fat])

theorem finish_fat (o : Oper) (i : Nat) (rest : List Nat) (v : Value) (ho : ops[i]? = some o) : (fat b a (.inRegion ops (i :: rest) :: k)).finish v = fat b (a.put o.dst v) (.inRegion ops rest :: k) := by
  cases hd : o.dst <;> simp [Frame.finish, fat, Act.put, ho, hd]

theorem st_opSkip {i : Nat} {rest : List Nat} {o : Oper} (ho : ops[i]? = some o) (h : Region.wanted o (yielded ops a.tmps) = false) :
    step P (lone (fat b a (.inRegion ops (i :: rest) :: k)) cs w) = .next (lone (fat b (a.put o.dst undef) (.inRegion ops rest :: k)) cs w) := by
  rw [← finish_fat o i rest undef ho]
  exact step_lone_go (by simp [stepG, stepG.exec, fat, ho, h])

/-- An operation that runs by itself. -/
theorem st_op {i : Nat} {rest : List Nat} {o : Oper} {nx : Next} {v : Value} {w' : World} (ho : ops[i]? = some o) (hw : Region.wanted o (yielded ops a.tmps) = true) (hd : ∀ c, o.op ≠ .defer c)
    (hr : (execOp a.eval o).run P w = .ok nx w') (hn : nx = .value v ∨ (nx = .skip ∧ v = undef)) :
    step P (lone (fat b a (.inRegion ops (i :: rest) :: k)) cs w) = .next (lone (fat b (a.put o.dst v) (.inRegion ops rest :: k)) cs w') := by
  rw [← finish_fat o i rest v ho]
  have he := fat_eval b a (.inRegion ops (i :: rest) :: k)
  simp only [fat] at he
  apply step_lone_go
  obtain ⟨dst, op, ty, pos, after, guard⟩ := o
  have key : (stepG.apply P true (fat b a (.inRegion ops (i :: rest) :: k)) cs none (execOp a.eval ⟨dst, op, ty, pos, after, guard⟩) w).bare =
      .go { frame := (fat b a (.inRegion ops (i :: rest) :: k)).finish v, callers := cs, status := .running, dying := none } w' := by
    rcases hn with rfl | ⟨rfl, rfl⟩ <;> simp [stepG.apply, hr]
  rw [← key]
  cases op with
  | defer c => exact absurd rfl (hd c)
  | _ => simp [stepG, stepG.exec, stepG.oper, Frame.oper?, fat, ho, hw, he]

/-- An operation that enters a function. -/
theorem st_enter {i : Nat} {rest : List Nat} {o : Oper} {f : FuncId} {args : Array Value} {w' : World} (ho : ops[i]? = some o) (hw : Region.wanted o (yielded ops a.tmps) = true) (hd : ∀ c, o.op ≠ .defer c)
    (hr : (execOp a.eval o).run P w = .ok (.enter f args) w') :
    step P (lone (fat b a (.inRegion ops (i :: rest) :: k)) cs w) = .next (lone (Frame.enter P f args .normal) (fat b a (.inRegion ops (i :: rest) :: k) :: cs) w') := by
  have he := fat_eval b a (.inRegion ops (i :: rest) :: k)
  simp only [fat] at he
  apply step_lone_go
  obtain ⟨dst, op, ty, pos, after, guard⟩ := o
  have key : (stepG.apply P true (fat b a (.inRegion ops (i :: rest) :: k)) cs none (execOp a.eval ⟨dst, op, ty, pos, after, guard⟩) w).bare =
      .go { frame := Frame.enter P f args .normal, callers := fat b a (.inRegion ops (i :: rest) :: k) :: cs, status := .running, dying := none } w' := by
    simp [stepG.apply, hr, fat]
  rw [← key]
  cases op with
  | defer c => exact absurd rfl (hd c)
  | _ => simp [stepG, stepG.exec, stepG.oper, Frame.oper?, fat, ho, hw, he]

theorem st_round {i : Nat} {rest : List Nat} {o : Oper} {l : Nat} {f : FuncId} {tmps : Array Value} {assign body : Code} {w' : World} (ho : ops[i]? = some o) (hw : Region.wanted o (yielded ops a.tmps) = true) (hd : ∀ c, o.op ≠ .defer c)
    (hr : (execOp a.eval o).run P w = .ok (.round l f tmps assign body) w') :
    step P (lone (fat b a (.inRegion ops (i :: rest) :: k)) cs w) = .next (lone (Frame.round l f tmps assign body .normal) (fat b a (.inRegion ops (i :: rest) :: k) :: cs) w') := by
  have he := fat_eval b a (.inRegion ops (i :: rest) :: k)
  simp only [fat] at he
  apply step_lone_go
  obtain ⟨dst, op, ty, pos, after, guard⟩ := o
  have key : (stepG.apply P true (fat b a (.inRegion ops (i :: rest) :: k)) cs none (execOp a.eval ⟨dst, op, ty, pos, after, guard⟩) w).bare =
      .go { frame := Frame.round l f tmps assign body .normal, callers := fat b a (.inRegion ops (i :: rest) :: k) :: cs, status := .running, dying := none } w' := by
    simp [stepG.apply, hr]
  rw [← key]
  cases op with
  | defer c => exact absurd rfl (hd c)
  | _ => simp [stepG, stepG.exec, stepG.oper, Frame.oper?, fat, ho, hw, he]
end

/-! ## What a call does, said of the machine -/

/-- A call of a function's value, entered and left. -/
def CRuns (P : Program) (fv : Value) (args : List Value) (w : World) (v : Value) (w' : World) : Prop :=
  ∃ d, (Deferred.ofValue fv ⟨args⟩).run P w = .ok d w ∧
    ((∃ f as, (invoke d.target d.args).run P w = .ok (.enter f as) w ∧ ∀ c cs, Steps P (lone (Frame.enter P f as .normal) (c :: cs) w) (lone (c.finish v) cs w')) ∨
     (∃ l f tmps assign body, (invoke d.target d.args).run P w = .ok (.round l f tmps assign body) w ∧ ∀ c cs, Steps P (lone (Frame.round l f tmps assign body .normal) (c :: cs) w) (lone (c.finish v) cs w')))

abbrev CompOf (P : Program) : Comp := fun c ac => compileC P c = some ac

/-- A call, said of both. -/
def CallSem (P : Program) (fv : Value) (args : List Value) (A : AHeap) (v : Value) (A' : AHeap) : Prop :=
  ∀ (ρ : Ren) (w : World) (cfv : Value) (cargs : List Value), VR ρ fv cfv → VRs ρ args cargs → HRel (CompOf P) ρ A w.heap → (∀ n, A.size ≤ n → n < A'.size → ρ n = none) →
    ∃ ρ' vc w', CRuns P cfv cargs w vc w' ∧ VR ρ' v vc ∧ Tr (CompOf P) ρ A w ρ' A' w'

def CallSound (P : Program) (call : CallT) : Prop := ∀ fv args A v A', call fv args A = some (v, A') → A.size ≤ A'.size ∧ CallSem P fv args A v A'

end Go.AS
