import Derived.Test.YtidgbapgedegbaaAsP
namespace Go.AS
open Go
set_option linter.unusedSimpArgs false
set_option linter.unusedVariables false

/-! ## The evaluator -/

inductive AExit where
  | normal
  | exit (id : Nat)
  | ret
  deriving DecidableEq

structure St where
  env : Env
  n : Nat
  dfs : List Nat
  A : AHeap

/-- How a call goes: the function's value (or a yield's), its arguments, the memory. -/
abbrev CallT := Value → List Value → AHeap → Option (Value × AHeap)

def putE (st : St) (dst : Option Nat) (v : Value) (A : AHeap) : Option St :=
  match dst with
  | none => some { st with A := A }
  | some d => if d < st.n then some { st with env := st.env.set d v, A := A } else none

def opVal (call : CallT) (e : Env) (A : AHeap) : AOp → Option (Value × AHeap)
  | .call f args => call (.func (.func f) #[] #[]) (args.map (ev e)) A
  | .callv f args => call (ev e f) (args.map (ev e)) A
  | op => lop e A op

def wantedA (e : Env) : Option (Nat × Bool) → Bool
  | none => true
  | some (t, want) => match e.rd t with | .bool b => b == want | _ => false

def runOp (call : CallT) (o : AOper) (st : St) : Option St :=
  if wantedA st.env o.guard then
    match opVal call st.env st.A o.op with
    | some (v, A) => putE st o.dst v A
    | none => none
  else putE st o.dst undef st.A

def runOps (call : CallT) : List AOper → St → Option St
  | [], st => some st
  | o :: r, st => match runOp call o st with | some st' => runOps call r st' | none => none

/-- The states before each operation, and the last one. -/
def runTrace (call : CallT) : List AOper → St → Option (List St)
  | [], st => some [st]
  | o :: r, st => match runOp call o st with
    | some st' => match runTrace call r st' with | some l => some (st :: l) | none => none
    | none => none

/-- Are two values the same, as far as can be told? -/
def vbeq : Nat → Value → Value → Bool
  | 0, _, _ => false
  | _ + 1, .bool a, .bool b => a == b
  | _ + 1, .int k a, .int j b => decide (k = j) && a == b
  | _ + 1, .string a, .string b => a.data.toList == b.data.toList
  | _ + 1, .pointer none, .pointer none => true
  | _ + 1, .pointer (some a), .pointer (some b) => decide (a = b)
  | _ + 1, .slice a n c, .slice b m d => decide (a = b) && n == m && c == d
  | _ + 1, .map a, .map b => decide (a = b)
  | _ + 1, .nilFunc, .nilFunc => true
  | _ + 1, .nilIface, .nilIface => true
  | n + 1, .iface t a, .iface u b => t == u && vbeq n a b
  | n + 1, .func f ⟨a⟩ ⟨b⟩, .func g ⟨c⟩ ⟨d⟩ => decide (f = g) && vbeqs n a c && vbeqs n b d
  | n + 1, .agg ⟨a⟩, .agg ⟨b⟩ => vbeqs n a b
  | n + 1, .tuple ⟨a⟩, .tuple ⟨b⟩ => vbeqs n a b
  | _, _, _ => false
where
  vbeqs (n : Nat) : List Value → List Value → Bool
    | [], [] => true
    | x :: a, y :: b => vbeq n x y && vbeqs n a b
    | _, _ => false

/-- An operation that only reads gives the same at another state's memory. -/
def chkOk (l : List AOper) (tr : List St) (c : Nat × Nat) : Bool :=
  match l[c.1]?, tr[c.1]?, tr[c.1 + 1]?, tr[c.2]? with
  | some o, some st, some st1, some sts =>
    if wantedA st.env o.guard then
      match o.dst, qop st.env sts.A o.op with
      | some d, some v => vbeq 4 v (st1.env.rd d)
      | _, _ => false
    else true
  | _, _, _, _ => false

def iter (f : St → Option (AExit × St)) : Nat → St → Option (AExit × St)
  | 0, _ => none
  | n + 1, st => match f st with
    | some (.normal, st') => iter f n st'
    | some r => some r
    | none => none

/-- The code that a jump stands for. -/
def jumpOf : AExit → Option (Option Code)
  | .normal => some none
  | .ret => some (some .ret)
  | .exit id => some (some (.exit id))

def exitOf : Option Code → Option AExit
  | none => some .normal
  | some .ret => some .ret
  | some (.exit id) => some (.exit id)
  | _ => none

def execC (call : CallT) (fn : FuncId) (ctx : Option Nat) (n : Nat) : ACode → St → Option (AExit × St)
  | .skip, st => some (.normal, st)
  | .ops l, st => (runOps call l st).map fun st => (.normal, st)
  | .opsD l chk, st => match runTrace call l st with
    | some tr => if chk.all (chkOk l tr) then (tr.getLast?).map fun st => (.normal, st) else none
    | none => none
  | .seq a b, st => match execC call fn ctx n a st with
    | some (.normal, st') => execC call fn ctx n b st'
    | r => r
  | .cond c a b, st => match ev st.env c with
    | .bool true => execC call fn ctx n a st
    | .bool false => execC call fn ctx n b st
    | _ => none
  | .block id a, st => match execC call fn ctx n a st with
    | some (.exit id', st') => if id' = id then some (.normal, st') else some (.exit id', st')
    | r => r
  | .loop a, st => iter (execC call fn ctx n a) n st
  | .exit id, st => some (.exit id, st)
  | .ret, st => some (.ret, st)
  | .rangeFunc f params assign body, st =>
    let go (st : St) (d : Nat) : Option (AExit × St) :=
      let l := st.A.size
      let A1 := st.A.alloc (.loop .ready none fn st.n st.env params assign body d)
      match call (ev st.env f) [.func (.yield l) #[] #[]] A1 with
      | some (_, A2) => match A2.get l with
        | some (.loop s p f' n' e' ps a' b' d') => if s = .busy then none else
          match exitOf p with
          | some x => some (x, { st with A := A2.set l (.loop .exhausted p f' n' e' ps a' b' d') })
          | none => none
        | _ => none
      | none => none
    match ctx with
    | none => go { st with A := st.A.alloc (.dfr false), dfs := st.A.size :: st.dfs } st.A.size
    | some l0 => match st.A.get l0 with
      | some (.loop _ _ _ _ _ _ _ _ d) => go st d
      | _ => none

structure AFunc where
  n : Nat
  nargs : Nat
  results : List (Nat ⊕ (Nat × Nat × Bool))     -- a slot; or an address's slot, how many cells, whether an aggregate
  body : ACode
  deriving Inhabited

def resA (e : Env) (A : AHeap) : Nat ⊕ (Nat × Nat × Bool) → Option Value
  | .inl t => some (e.rd t)
  | .inr (t, n, agg) => match e.rd t with
    | .pointer (some ⟨b, o, none⟩) => if agg then (if n = 0 then some (.agg #[]) else (rdCells A b o n).map fun cs => .agg ⟨cs⟩) else rdCell A b o
    | _ => none

def resultsA (e : Env) (A : AHeap) : List (Nat ⊕ (Nat × Nat × Bool)) → Option (List Value)
  | [] => some []
  | r :: rs => match resA e A r, resultsA e A rs with
    | some v, some vs => some (v :: vs)
    | _, _ => none

def tupleA : List Value → Value
  | [v] => v
  | vs => .tuple ⟨vs⟩

def envOf (i : Nat) (e : Env) : List Value → Env
  | [] => e
  | v :: r => envOf (i + 1) (e.set i v) r

/-- The deferred marks taken, one behind the other. -/
def unwindA : List Nat → AHeap → Option AHeap
  | [], A => some A
  | d :: r, A => match A.get d with
    | some (.dfr false) => unwindA r (A.set d (.dfr true))
    | _ => none

abbrev FTab := Nat → Option AFunc

def callN (T : FTab) : Nat → CallT
  | 0 => fun _ _ _ => none
  | n + 1 => fun v args A =>
    match v with
    | .func (.func f) ⟨first⟩ ⟨captured⟩ =>
      match T f with
      | some fn =>
        let as := first ++ args ++ captured
        if as.length = fn.nargs ∧ fn.nargs ≤ fn.n then
          match execC (callN T n) f none n fn.body { env := envOf 0 .leaf as, n := fn.n, dfs := [], A := A } with
          | some (x, st) => match x with
            | .exit _ => none
            | _ => match unwindA st.dfs st.A with
              | some A2 => match resultsA st.env A2 fn.results with
                | some vs => some (tupleA vs, A2)
                | none => none
              | none => none
          | none => none
        else none
      | none => none
    | .func (.yield l) _ _ =>
      match A.get l with
      | some (.loop .ready p f k e params assign body d) =>
        if args.length = params.length ∧ params.all (fun t => decide (t < k)) = true then
          let e' := (params.zip args).foldl (fun e ta => e.set ta.1 ta.2) e
          match execC (callN T n) f (some l) n assign { env := e', n := k, dfs := [], A := A } with
          | some (.normal, st) =>
            match st.A.get l with
            | some (.loop .ready p' f' k' e' params' assign' body' d') =>
              match execC (callN T n) f (some l) n body { st with A := st.A.set l (.loop .busy p' f' k' e' params' assign' body' d') } with
              | some (x, st2) => match st2.A.get l with
                | some (.loop _ _ f k e params assign body d) =>
                  match jumpOf x with
                  | some j => some (.bool j.isNone, st2.A.set l (.loop (if j.isNone then .ready else .done) j f k e params assign body d))
                  | none => none
                | _ => none
              | none => none
            | _ => none
          | _ => none
        else none
      | _ => none
    | _ => none

/-! ## Code of ours out of the machine's -/
def compileOper (P : Program) (ops : Array Oper) (o : Oper) : Option AOper :=
  match compileOp P o with
  | none => none
  | some a =>
    match o.guard with
    | none => some { dst := o.dst, guard := none, op := a }
    | some (j, want) => match (ops[j]?).bind (·.dst) with
      | some d => some { dst := o.dst, guard := some (d, want), op := a }
      | none => none

def compileOps (P : Program) (ops : Array Oper) : Option (List AOper) := ops.toList.mapM (compileOper P ops)

/-! ### Regions that draw their order -/
def kindA : AOp → Nat
  | .load1 _ | .loadN _ _ | .cvB2S _ | .sliceV _ _ _ _ _ | .mapGet _ _ _ _ _ => 1
  | .alloc _ _ | .box _ _ _ | .bslice _ _ _ _ | .mkS _ _ _ _ _ _ | .cvS2B _ _ | .mkMap _ => 2
  | .store _ _ _ | .append _ _ _ _ _ | .copy _ _ _ | .clear _ _ | .mapPut _ _ _ _ | .mapDel _ _ _ | .call _ _ | .callv _ _ => 3
  | _ => 0

def maskD (acc : List Nat) (o : Oper) : Nat :=
  o.after.toList.foldl (fun s e => if Region.binds .any e then s ||| 2 ^ e.on ||| acc.getD e.on 0 else s) 0

def masksD : List Oper → List Nat → List Nat
  | [], acc => acc
  | o :: r, acc => masksD r (acc ++ [maskD acc o])

def tmpsOf (l : List Operand) : List Nat := l.filterMap fun x => match x with | .tmp t => some t | _ => none

def namesD (o : Oper) (a : AOper) : List Nat := o.dst.toList ++ tmpsOf o.op.operands.toList ++ (a.guard.map (·.1)).toList

def ordD (m : List Nat) (i j : Nat) : Bool := (m.getD j 0).testBit i

def backD (os : List Oper) : Bool := os.zipIdx.all fun p => p.1.after.toList.all fun e => !Region.binds .any e || decide (e.on < p.2)

def pairD (m : List Nat) (os : List Oper) (as : List AOper) (i j : Nat) : Bool :=
  match os[i]?, as[i]?, os[j]?, as[j]? with
  | some oi, some ai, some oj, some aj =>
    let clash := oi.dst.toList.any (fun d => (namesD oj aj).contains d) || oj.dst.toList.any (fun d => (namesD oi ai).contains d) || (kindA ai.op == 3 && kindA aj.op == 3)
    !clash || ordD m i j
  | _, _, _, _ => false

def chksD (m : List Nat) (as : List AOper) : List (Nat × Nat) :=
  (List.range as.length).flatMap fun j => match as[j]? with
    | some aj => if kindA aj.op == 1 then
        (List.range as.length).flatMap fun l => match as[l]? with
          | some al => if kindA al.op == 3 && !(if l < j then ordD m l j else ordD m j l) then [(j, l), (j, l + 1)] else []
          | none => []
      else []
    | none => []

def certD (os : List Oper) (as : List AOper) : Option (List (Nat × Nat)) :=
  let m := masksD os []
  if backD os && (List.range os.length).all (fun j => (List.range j).all fun i => pairD m os as i j) then some (chksD m as) else none

/-- Code that we do not follow: whoever comes to it has no answer. -/
def stuckC : ACode := .ops [{ dst := none, guard := none, op := .min [] }]

def compileC (P : Program) : Code → Option ACode
  | .skip => some .skip
  | .label _ => some .skip
  | .region _ ops false => match compileOps P ops with
    | some as => some (.ops as)
    | none => some stuckC
  | .region _ ops true => match compileOps P ops with
    | some as => match certD ops.toList as with
      | some chk => some (.opsD as chk)
      | none => some stuckC
    | none => some stuckC
  | .seq a b => do let x ← compileC P a; let y ← compileC P b; some (.seq x y)
  | .cond c a b => if okOp c then do let x ← compileC P a; let y ← compileC P b; some (.cond c x y) else none
  | .block id a => do let x ← compileC P a; some (.block id x)
  | .scope a => compileC P a
  | .loop a => do let x ← compileC P a; some (.loop x)
  | .exit id => some (.exit id)
  | .ret => some .ret
  | .rangeFunc f params assign body => if okOp f then do let x ← compileC P assign; let y ← compileC P body; some (.rangeFunc f params.toList x y) else none
  | _ => some stuckC

def compileF (P : Program) (f : Func) : Option AFunc := do
  let b ← f.body
  let c ← compileC P b
  let rs ← f.results.toList.mapM fun r => match r with
    | .tmp t => some (.inl t)
    | .cell a t => do let g ← aggOf P t; let s ← szOf P t; some (.inr (a, s, g))
  some { n := f.ntmps, nargs := f.params.size + f.nfree, results := rs, body := c }

end Go.AS
