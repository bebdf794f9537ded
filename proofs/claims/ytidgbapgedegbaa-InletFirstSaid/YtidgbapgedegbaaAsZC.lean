import Derived.Test.YtidgbapgedegbaaAsZB
namespace Go.AS
open Go
set_option linter.unusedSimpArgs false
set_option linter.unusedVariables false

/-! ## More rounds tell the same -/
def Le (c c' : CallT) : Prop := ∀ fv args A r, c fv args A = some r → c' fv args A = some r

section
variable {call call' : CallT} {fn : FuncId} {ctx : Option Nat}

theorem opVal_le (h : Le call call') {e : Env} {A : AHeap} {op : AOp} {r : Value × AHeap} (hr : opVal call e A op = some r) : opVal call' e A op = some r := by
  cases op with
  | call f args => exact h _ _ _ _ hr
  | callv f args => exact h _ _ _ _ hr
  | _ => exact hr

theorem runOp_le (h : Le call call') {o : AOper} {st st' : St} (hr : runOp call o st = some st') : runOp call' o st = some st' := by
  unfold runOp at hr ⊢
  split at hr
  · rename_i hw
    rw [if_pos hw]
    split at hr
    · rename_i v A hv
      rw [opVal_le h hv]; exact hr
    · cases hr
  · rename_i hw
    rw [if_neg hw]; exact hr

theorem runOps_le (h : Le call call') : ∀ (l : List AOper) {st st' : St}, runOps call l st = some st' → runOps call' l st = some st' := by
  intro l
  induction l with
  | nil => intro st st' hr; exact hr
  | cons o l ih =>
    intro st st' hr
    simp only [runOps] at hr ⊢
    split at hr
    · rename_i st1 h1
      rw [runOp_le h h1]; exact ih hr
    · cases hr

theorem runTrace_le (h : Le call call') : ∀ (l : List AOper) {st : St} {tr : List St}, runTrace call l st = some tr → runTrace call' l st = some tr := by
  intro l
  induction l with
  | nil => intro st tr hr; exact hr
  | cons o l ih =>
    intro st tr hr
    simp only [runTrace] at hr ⊢
    split at hr
    · rename_i st1 h1
      simp only [runOp_le h h1]
      split at hr
      · rename_i l2 h2
        simp only [ih h2]; exact hr
      · cases hr
    · cases hr

theorem iter_le {f f' : St → Option (AExit × St)} (h : ∀ st r, f st = some r → f' st = some r) : ∀ (n m : Nat), n ≤ m → ∀ {st : St} {r : AExit × St}, iter f n st = some r → iter f' m st = some r := by
  intro n
  induction n with
  | zero => intro m _ st r hr; cases hr
  | succ n ih =>
    intro m hm st r hr
    cases m with
    | zero => omega
    | succ m =>
      simp only [iter] at hr ⊢
      split at hr
      · rename_i st1 h1
        rw [h _ _ h1]; exact ih m (by omega) hr
      · rename_i r1 hne h1
        rw [h _ _ h1]
        cases hr
        split
        · rename_i st2 h2; cases h2; exact absurd rfl (hne st2)
        · rename_i h2; cases h2; rfl
        · rename_i h2; cases h2
      · cases hr

theorem execC_le (h : Le call call') {n m : Nat} (hnm : n ≤ m) (c : ACode) : ∀ {st : St} {r : AExit × St}, execC call fn ctx n c st = some r → execC call' fn ctx m c st = some r := by
  induction c with
  | skip => intro st r hr; exact hr
  | ops l =>
    intro st r hr
    simp only [execC] at hr ⊢
    cases h1 : runOps call l st with
    | none => rw [h1] at hr; cases hr
    | some st1 => rw [h1] at hr; rw [runOps_le h l h1]; exact hr
  | opsD l chk =>
    intro st r hr
    simp only [execC] at hr ⊢
    cases h1 : runTrace call l st with
    | none => rw [h1] at hr; cases hr
    | some st1 => rw [h1] at hr; rw [runTrace_le h l h1]; exact hr
  | seq a b iha ihb =>
    intro st r hr
    simp only [execC] at hr ⊢
    cases h1 : execC call fn ctx n a st with
    | none => rw [h1] at hr; cases hr
    | some q =>
      rw [h1] at hr; rw [iha h1]
      obtain ⟨x, st1⟩ := q
      cases x with
      | normal => exact ihb hr
      | exit id => exact hr
      | ret => exact hr
  | cond c a b iha ihb =>
    intro st r hr
    simp only [execC] at hr ⊢
    split at hr
    · exact iha hr
    · exact ihb hr
    · cases hr
  | block id a iha =>
    intro st r hr
    simp only [execC] at hr ⊢
    cases h1 : execC call fn ctx n a st with
    | none => rw [h1] at hr; cases hr
    | some q => rw [h1] at hr; rw [iha h1]; exact hr
  | loop a iha =>
    intro st r hr
    exact iter_le (fun st r hr => iha hr) n m hnm hr
  | exit id => intro st r hr; exact hr
  | ret => intro st r hr; exact hr
  | rangeFunc f params assign body _ _ =>
    intro st r hr
    have go : ∀ (st0 : St) (d : Nat), (match call (ev st0.env f) [.func (.yield st0.A.size) #[] #[]] (st0.A.alloc (.loop .ready none fn st0.n st0.env params assign body d)) with
      | some (_, A2) => match A2.get st0.A.size with
        | some (.loop s p f' n' e' ps a' b' d') => if s = .busy then none else
          match exitOf p with
          | some x => some (x, { st0 with A := A2.set st0.A.size (.loop .exhausted p f' n' e' ps a' b' d') })
          | none => none
        | _ => none
      | none => none) = some r → (match call' (ev st0.env f) [.func (.yield st0.A.size) #[] #[]] (st0.A.alloc (.loop .ready none fn st0.n st0.env params assign body d)) with
      | some (_, A2) => match A2.get st0.A.size with
        | some (.loop s p f' n' e' ps a' b' d') => if s = .busy then none else
          match exitOf p with
          | some x => some (x, { st0 with A := A2.set st0.A.size (.loop .exhausted p f' n' e' ps a' b' d') })
          | none => none
        | _ => none
      | none => none) = some r := by
      intro st0 d hr
      cases h1 : call (ev st0.env f) [.func (.yield st0.A.size) #[] #[]] (st0.A.alloc (.loop .ready none fn st0.n st0.env params assign body d)) with
      | none => rw [h1] at hr; cases hr
      | some q => rw [h1] at hr; rw [h _ _ _ _ h1]; exact hr
    simp only [execC] at hr ⊢
    split at hr
    · exact go { st with A := st.A.alloc (.dfr false), dfs := st.A.size :: st.dfs } st.A.size hr
    · split at hr
      · exact go st _ hr
      · cases hr

theorem callN_f (T : FTab) (n : Nat) (f : FuncId) (first captured args : List Value) (A : AHeap) : callN T (n + 1) (.func (.func f) ⟨first⟩ ⟨captured⟩) args A =
      (match T f with
      | some fn =>
        let as := first ++ args ++ captured
        if as.length = fn.nargs ∧ fn.nargs ≤ fn.n then
          match execC (callN T n) f none n fn.body { env := envOf 0 .leaf as, n := fn.n, dfs := [], A := A } with
          | some (x, st) => match x with
            | .exit _ => none
            | _ => match unwindA st.dfs st.A with
              | some A2 => match resultsA st.env A2 fn.results with
                | some vs => some (tupleA vs, A2)
                | none => none
              | none => none
          | none => none
        else none
      | none => none) := rfl

theorem callN_y (T : FTab) (n l : Nat) (y1 y2 : Array Value) (args : List Value) (A : AHeap) : callN T (n + 1) (.func (.yield l) y1 y2) args A =
      (match A.get l with
      | some (.loop .ready p f k e params assign body d) =>
        if args.length = params.length ∧ params.all (fun t => decide (t < k)) = true then
          let e' := (params.zip args).foldl (fun e ta => e.set ta.1 ta.2) e
          match execC (callN T n) f (some l) n assign { env := e', n := k, dfs := [], A := A } with
          | some (.normal, st) =>
            match st.A.get l with
            | some (.loop .ready p' f' k' e' params' assign' body' d') =>
              match execC (callN T n) f (some l) n body { st with A := st.A.set l (.loop .busy p' f' k' e' params' assign' body' d') } with
              | some (x, st2) => match st2.A.get l with
                | some (.loop _ _ f k e params assign body d) =>
                  match jumpOf x with
                  | some j => some (.bool j.isNone, st2.A.set l (.loop (if j.isNone then .ready else .done) j f k e params assign body d))
                  | none => none
                | _ => none
              | none => none
            | _ => none
          | _ => none
        else none
      | _ => none) := rfl

theorem callN_le1 (T : FTab) : ∀ n, Le (callN T n) (callN T (n + 1)) := by
  intro n
  induction n with
  | zero => intro fv args A r hr; cases hr
  | succ n ih =>
    intro fv args A r hr
    cases fv with
    | func fr first captured =>
      obtain ⟨first⟩ := first
      obtain ⟨captured⟩ := captured
      cases fr with
      | func f =>
        rw [callN_f] at hr ⊢
        split at hr
        · rename_i fn hT
          simp only at hr ⊢
          split at hr
          · rename_i hl
            rw [if_pos hl]
            cases h1 : execC (callN T n) f none n fn.body { env := envOf 0 .leaf (first ++ args ++ captured), n := fn.n, dfs := [], A := A } with
            | none => rw [h1] at hr; cases hr
            | some q => rw [h1] at hr; rw [execC_le ih (Nat.le_add_right n 1) _ h1]; exact hr
          · cases hr
        · cases hr
      | yield l =>
        rw [callN_y] at hr ⊢
        simp only at hr ⊢
        split at hr
        case h_2 => cases hr
        rename_i p f k e params assign body d hg
        split at hr
        case isFalse => cases hr
        rename_i hcond
        rw [if_pos hcond]
        cases h1 : execC (callN T n) f (some l) n assign { env := (params.zip args).foldl (fun (e : Env) ta => e.set ta.1 ta.2) e, n := k, dfs := [], A := A } with
        | none => rw [h1] at hr; cases hr
        | some q =>
          rw [h1] at hr; rw [execC_le ih (Nat.le_add_right n 1) _ h1]
          obtain ⟨x, st1⟩ := q
          cases x with
          | exit id => cases hr
          | ret => cases hr
          | normal =>
            simp only at hr ⊢
            split at hr
            case h_2 => cases hr
            rename_i p1 f1 k1 e1 params1 assign1 body1 d1 hg1
            cases h2 : execC (callN T n) f (some l) n body { st1 with A := st1.A.set l (.loop .busy p1 f1 k1 e1 params1 assign1 body1 d1) } with
            | none => rw [h2] at hr; cases hr
            | some q => rw [h2] at hr; rw [execC_le ih (Nat.le_add_right n 1) _ h2]; exact hr
      | _ => simp only [callN] at hr; cases hr
    | _ => simp only [callN] at hr; cases hr

theorem callN_le (T : FTab) {n m : Nat} (h : n ≤ m) : Le (callN T n) (callN T m) := by
  induction h with
  | refl => intro _ _ _ _ hr; exact hr
  | step _ ih => intro fv args A r hr; exact callN_le1 T _ _ _ _ _ (ih _ _ _ _ hr)
end

/-! ## What comes to pass -/
section
variable {T : FTab} {fn : FuncId} {ctx : Option Nat}

def wF (T : FTab) (fv : Value) (args : List Value) (A : AHeap) (Q : Value → AHeap → Prop) : Prop := ∃ n v A', callN T n fv args A = some (v, A') ∧ Q v A'
def wV (T : FTab) (e : Env) (A : AHeap) (op : AOp) (Q : Value → AHeap → Prop) : Prop := ∃ n v A', opVal (callN T n) e A op = some (v, A') ∧ Q v A'
def wO (T : FTab) (l : List AOper) (st : St) (Q : St → Prop) : Prop := ∃ n st', runOps (callN T n) l st = some st' ∧ Q st'
def wC (T : FTab) (fn : FuncId) (ctx : Option Nat) (c : ACode) (st : St) (Q : AExit → St → Prop) : Prop := ∃ n x st', execC (callN T n) fn ctx n c st = some (x, st') ∧ Q x st'
def wL (r : Option (Value × AHeap)) (Q : Value → AHeap → Prop) : Prop := match r with | some (v, A) => Q v A | none => False
def wB (v : Value) (p q : Prop) : Prop := match v with | .bool b => if b = true then p else q | _ => False
def wPut (st : St) (dst : Option Nat) (v : Value) (A : AHeap) (K : St → Prop) : Prop :=
  match dst with
  | none => K { st with A := A }
  | some d => if d < st.n then K { st with env := st.env.set d v, A := A } else False
def notCall : AOp → Bool
  | .call _ _ | .callv _ _ => false
  | _ => true

theorem wF.mono {fv : Value} {args : List Value} {A : AHeap} {Q Q' : Value → AHeap → Prop} (h : wF T fv args A Q) (hq : ∀ v A, Q v A → Q' v A) : wF T fv args A Q' := by
  obtain ⟨n, v, A', h1, h2⟩ := h; exact ⟨n, v, A', h1, hq _ _ h2⟩
theorem wC.mono {c : ACode} {st : St} {Q Q' : AExit → St → Prop} (h : wC T fn ctx c st Q) (hq : ∀ x st, Q x st → Q' x st) : wC T fn ctx c st Q' := by
  obtain ⟨n, v, A', h1, h2⟩ := h; exact ⟨n, v, A', h1, hq _ _ h2⟩
theorem wO.mono {l : List AOper} {st : St} {Q Q' : St → Prop} (h : wO T l st Q) (hq : ∀ st, Q st → Q' st) : wO T l st Q' := by
  obtain ⟨n, A', h1, h2⟩ := h; exact ⟨n, A', h1, hq _ h2⟩

theorem wV_simple {e : Env} {A : AHeap} {op : AOp} {Q : Value → AHeap → Prop} (h : notCall op = true) : wV T e A op Q ↔ wL (lop e A op) Q := by
  have : ∀ n, opVal (callN T n) e A op = lop e A op := fun n => by cases op <;> first | rfl | cases h
  unfold wV wL
  constructor
  · rintro ⟨n, v, A', h1, h2⟩; rw [this] at h1; rw [h1]; exact h2
  · intro h2
    split at h2
    · rename_i v A' hv; exact ⟨0, v, A', by rw [this]; exact hv, h2⟩
    · exact h2.elim

theorem wV_eq {e : Env} {A : AHeap} {op : AOp} {Q : Value → AHeap → Prop} : wV T e A op Q ↔ (match op with
  | .call f args => wF T (.func (.func f) #[] #[]) (args.map (ev e)) A Q
  | .callv f args => wF T (ev e f) (args.map (ev e)) A Q
  | op => wL (lop e A op) Q) := by
  cases op <;> first | exact wV_simple rfl | exact Iff.rfl

theorem rd_leaf (t : Nat) : Env.rd Trie.leaf t = undef := rfl

theorem wV_call {e : Env} {A : AHeap} {f : FuncId} {args : List Operand} {Q : Value → AHeap → Prop} : wV T e A (.call f args) Q ↔ wF T (.func (.func f) #[] #[]) (args.map (ev e)) A Q := Iff.rfl
theorem wV_callv {e : Env} {A : AHeap} {f : Operand} {args : List Operand} {Q : Value → AHeap → Prop} : wV T e A (.callv f args) Q ↔ wF T (ev e f) (args.map (ev e)) A Q := Iff.rfl

theorem wO_nil {st : St} {Q : St → Prop} : wO T [] st Q ↔ Q st := ⟨fun ⟨n, st', h1, h2⟩ => by cases h1; exact h2, fun h => ⟨0, st, rfl, h⟩⟩

theorem putE_wPut {st : St} {dst : Option Nat} {v : Value} {A : AHeap} {K : St → Prop} : (∃ st', putE st dst v A = some st' ∧ K st') ↔ wPut st dst v A K := by
  unfold putE wPut
  cases dst with
  | none => exact ⟨fun ⟨_, h1, h2⟩ => by cases h1; exact h2, fun h => ⟨_, rfl, h⟩⟩
  | some d =>
    by_cases hd : d < st.n
    · simp only [if_pos hd]; exact ⟨fun ⟨_, h1, h2⟩ => by cases h1; exact h2, fun h => ⟨_, rfl, h⟩⟩
    · simp only [if_neg hd]; exact ⟨fun ⟨_, h1, h2⟩ => (by cases h1), fun h => h.elim⟩

theorem wO_cons {o : AOper} {r : List AOper} {st : St} {Q : St → Prop} : wO T (o :: r) st Q ↔
    if wantedA st.env o.guard = true then wV T st.env st.A o.op (fun v A => wPut st o.dst v A fun st' => wO T r st' Q) else wPut st o.dst undef st.A fun st' => wO T r st' Q := by
  constructor
  · rintro ⟨n, st', h1, h2⟩
    simp only [runOps] at h1
    cases h3 : runOp (callN T n) o st with
    | none => rw [h3] at h1; cases h1
    | some st1 =>
      rw [h3] at h1
      unfold runOp at h3
      by_cases hw : wantedA st.env o.guard = true
      · rw [if_pos hw] at h3 ⊢
        cases h4 : opVal (callN T n) st.env st.A o.op with
        | none => rw [h4] at h3; cases h3
        | some q =>
          obtain ⟨v, A⟩ := q
          rw [h4] at h3
          exact ⟨n, v, A, h4, putE_wPut.1 ⟨st1, h3, n, st', h1, h2⟩⟩
      · rw [if_neg hw] at h3 ⊢
        exact putE_wPut.1 ⟨st1, h3, n, st', h1, h2⟩
  · intro h
    by_cases hw : wantedA st.env o.guard = true
    · rw [if_pos hw] at h
      obtain ⟨n, v, A, h1, h2⟩ := h
      obtain ⟨st1, h3, m, st', h4, h5⟩ := putE_wPut.2 h2
      refine ⟨max n m, st', ?_, h5⟩
      have e1 : runOp (callN T (max n m)) o st = some st1 := by
        unfold runOp
        rw [if_pos hw, opVal_le (callN_le T (Nat.le_max_left n m)) h1]; exact h3
      simp only [runOps, e1]
      exact runOps_le (callN_le T (Nat.le_max_right n m)) r h4
    · rw [if_neg hw] at h
      obtain ⟨st1, h3, m, st', h4, h5⟩ := putE_wPut.2 h
      refine ⟨m, st', ?_, h5⟩
      have e1 : runOp (callN T m) o st = some st1 := by
        unfold runOp
        rw [if_neg hw]; exact h3
      simp only [runOps, e1]
      exact h4

theorem wC_ops {l : List AOper} {st : St} {Q : AExit → St → Prop} : wC T fn ctx (.ops l) st Q ↔ wO T l st (Q .normal) := by
  constructor
  · rintro ⟨n, x, st', h1, h2⟩
    simp only [execC] at h1
    cases h3 : runOps (callN T n) l st with
    | none => rw [h3] at h1; cases h1
    | some st1 => rw [h3] at h1; cases h1; exact ⟨n, _, h3, h2⟩
  · rintro ⟨n, st', h1, h2⟩
    exact ⟨n, .normal, st', by simp only [execC, h1]; rfl, h2⟩

theorem runTrace_last {call : CallT} : ∀ (l : List AOper) {st st' : St}, runOps call l st = some st' → ∃ tr, runTrace call l st = some tr ∧ tr.getLast? = some st' := by
  intro l
  induction l with
  | nil => intro st st' h; cases h; exact ⟨[_], rfl, rfl⟩
  | cons o l ih =>
    intro st st' h
    simp only [runOps] at h
    cases h1 : runOp call o st with
    | none => rw [h1] at h; cases h
    | some st1 =>
      rw [h1] at h
      obtain ⟨tr, h2, h3⟩ := ih h
      exact ⟨st :: tr, by simp only [runTrace, h1, h2], by rw [List.getLast?_cons, h3]; rfl⟩

/-- A region that draws its order, with nothing to hold. -/
theorem wC_opsD {l : List AOper} {st : St} {Q : AExit → St → Prop} (h : wO T l st (Q .normal)) : wC T fn ctx (.opsD l []) st Q := by
  obtain ⟨n, st', h1, h2⟩ := h
  obtain ⟨tr, h3, h4⟩ := runTrace_last l h1
  exact ⟨n, .normal, st', by simp only [execC, h3, List.all_nil, if_true, h4]; rfl, h2⟩

theorem wC_opsD_nil {l : List AOper} {st : St} {Q : AExit → St → Prop} : wC T fn ctx (.opsD l []) st Q ↔ wO T l st (Q .normal) := by
  refine ⟨?_, wC_opsD⟩
  rintro ⟨n, x, st', h1, h2⟩
  simp only [execC] at h1
  split at h1
  · rename_i tr htr
    simp only [List.all_nil, if_true] at h1
    cases h3 : tr.getLast? with
    | none => rw [h3] at h1; cases h1
    | some s =>
      rw [h3] at h1
      simp only [Option.map_some, Option.some.injEq, Prod.mk.injEq] at h1
      obtain ⟨hx, hs⟩ := h1
      subst hx
      rw [← hs] at h2
      refine ⟨n, s, ?_, h2⟩
      clear h2
      have key : ∀ (l : List AOper) (st : St) (tr : List St) (s : St), runTrace (callN T n) l st = some tr → tr.getLast? = some s → runOps (callN T n) l st = some s := by
        intro l
        induction l with
        | nil => intro st tr s a b; cases a; cases b; rfl
        | cons o l ih =>
          intro st tr s a b
          simp only [runTrace] at a
          cases h1 : runOp (callN T n) o st with
          | none => rw [h1] at a; cases a
          | some s1 =>
            rw [h1] at a
            simp only at a
            cases h2 : runTrace (callN T n) l s1 with
            | none => rw [h2] at a; cases a
            | some tr2 =>
              rw [h2] at a; cases a
              simp only [runOps, h1]
              refine ih s1 tr2 s h2 ?_
              cases tr2 with
              | nil => cases l with
                | nil => cases h2
                | cons o2 l2 =>
                  simp only [runTrace] at h2
                  split at h2
                  · split at h2 <;> cases h2
                  · cases h2
              | cons y tr2 => simpa using b
      exact key l st tr s htr h3
  · cases h1

theorem wC_skip {st : St} {Q : AExit → St → Prop} : wC T fn ctx .skip st Q ↔ Q .normal st := ⟨fun ⟨n, x, st', h1, h2⟩ => by cases h1; exact h2, fun h => ⟨0, _, _, rfl, h⟩⟩
theorem wC_ret {st : St} {Q : AExit → St → Prop} : wC T fn ctx .ret st Q ↔ Q .ret st := ⟨fun ⟨n, x, st', h1, h2⟩ => by cases h1; exact h2, fun h => ⟨0, _, _, rfl, h⟩⟩
theorem wC_exit {id : Nat} {st : St} {Q : AExit → St → Prop} : wC T fn ctx (.exit id) st Q ↔ Q (.exit id) st := ⟨fun ⟨n, x, st', h1, h2⟩ => by cases h1; exact h2, fun h => ⟨0, _, _, rfl, h⟩⟩

/-- What follows a piece that may be left. -/
def thenC (K : St → Prop) (Q : AExit → St → Prop) : AExit → St → Prop
  | .normal, st => K st
  | .exit id, st => Q (.exit id) st
  | .ret, st => Q .ret st

def blockC (id : Nat) (Q : AExit → St → Prop) : AExit → St → Prop
  | .normal, st => Q .normal st
  | .exit j, st => if j = id then Q .normal st else Q (.exit j) st
  | .ret, st => Q .ret st

theorem wC_seq {a b : ACode} {st : St} {Q : AExit → St → Prop} : wC T fn ctx (.seq a b) st Q ↔ wC T fn ctx a st (thenC (fun st' => wC T fn ctx b st' Q) Q) := by
  constructor
  · rintro ⟨n, x, st', h1, h2⟩
    simp only [execC] at h1
    cases h3 : execC (callN T n) fn ctx n a st with
    | none => rw [h3] at h1; cases h1
    | some q =>
      obtain ⟨y, st1⟩ := q
      rw [h3] at h1
      refine ⟨n, y, st1, h3, ?_⟩
      cases y with
      | normal => exact ⟨n, x, st', h1, h2⟩
      | exit id => cases h1; exact h2
      | ret => cases h1; exact h2
  · rintro ⟨n, x, st1, h1, h2⟩
    cases x with
    | normal =>
      obtain ⟨m, y, st', h3, h4⟩ := h2
      refine ⟨max n m, y, st', ?_, h4⟩
      simp only [execC, execC_le (callN_le T (Nat.le_max_left n m)) (Nat.le_max_left n m) a h1]
      exact execC_le (callN_le T (Nat.le_max_right n m)) (Nat.le_max_right n m) b h3
    | exit id => exact ⟨n, _, st1, by simp only [execC, h1], h2⟩
    | ret => exact ⟨n, _, st1, by simp only [execC, h1], h2⟩

theorem wC_cond {c : Operand} {a b : ACode} {st : St} {Q : AExit → St → Prop} : wC T fn ctx (.cond c a b) st Q ↔ wB (ev st.env c) (wC T fn ctx a st Q) (wC T fn ctx b st Q) := by
  unfold wB wC
  simp only [execC]
  cases h : ev st.env c with
  | bool t => cases t <;> simp
  | _ => simp

theorem wC_block {id : Nat} {a : ACode} {st : St} {Q : AExit → St → Prop} : wC T fn ctx (.block id a) st Q ↔ wC T fn ctx a st (blockC id Q) := by
  constructor
  · rintro ⟨n, x, st', h1, h2⟩
    simp only [execC] at h1
    cases h3 : execC (callN T n) fn ctx n a st with
    | none => rw [h3] at h1; cases h1
    | some q =>
      obtain ⟨y, st1⟩ := q
      rw [h3] at h1
      refine ⟨n, y, st1, h3, ?_⟩
      cases y with
      | normal => cases h1; exact h2
      | exit j =>
        simp only at h1
        show if j = id then _ else _
        split at h1
        · rename_i hj; rw [if_pos hj]; cases h1; exact h2
        · rename_i hj; rw [if_neg hj]; cases h1; exact h2
      | ret => cases h1; exact h2
  · rintro ⟨n, x, st1, h1, h2⟩
    cases x with
    | normal => exact ⟨n, _, st1, by simp only [execC, h1], h2⟩
    | ret => exact ⟨n, _, st1, by simp only [execC, h1], h2⟩
    | exit j =>
      have h2' : if j = id then Q .normal st1 else Q (.exit j) st1 := h2
      by_cases hj : j = id
      · rw [if_pos hj] at h2'; exact ⟨n, .normal, st1, by simp only [execC, h1, if_pos hj], h2'⟩
      · rw [if_neg hj] at h2'; exact ⟨n, .exit j, st1, by simp only [execC, h1, if_neg hj], h2'⟩

/-- One round of a loop. -/
theorem wC_loop {a : ACode} {st : St} {Q : AExit → St → Prop} (h : wC T fn ctx a st (thenC (fun st' => wC T fn ctx (.loop a) st' Q) Q)) : wC T fn ctx (.loop a) st Q := by
  obtain ⟨n, x, st1, h1, h2⟩ := h
  cases x with
  | normal =>
    obtain ⟨m, y, st', h3, h4⟩ := h2
    refine ⟨max n m + 1, y, st', ?_, h4⟩
    have e1 : execC (callN T (max n m + 1)) fn ctx (max n m + 1) a st = some (.normal, st1) := execC_le (callN_le T (by omega)) (by omega) a h1
    show iter _ (max n m + 1) st = _
    simp only [iter, e1]
    exact iter_le (fun st r hr => execC_le (callN_le T (by omega)) (by omega) a hr) m _ (by omega) h3
  | exit id =>
    refine ⟨n + 1, _, st1, ?_, h2⟩
    have e1 : execC (callN T (n + 1)) fn ctx (n + 1) a st = some (.exit id, st1) := execC_le (callN_le T (by omega)) (by omega) a h1
    show iter _ (n + 1) st = _
    simp only [iter, e1]
  | ret =>
    refine ⟨n + 1, _, st1, ?_, h2⟩
    have e1 : execC (callN T (n + 1)) fn ctx (n + 1) a st = some (.ret, st1) := execC_le (callN_le T (by omega)) (by omega) a h1
    show iter _ (n + 1) st = _
    simp only [iter, e1]

/-- A loop, by what stands at each round and a measure that falls. -/
theorem wC_loop_inv {a : ACode} {Q : AExit → St → Prop} (I : Nat → St → Prop) (hs : ∀ m st, I m st → wC T fn ctx a st (thenC (fun st' => ∃ m', m' < m ∧ I m' st') Q)) : ∀ m st, I m st → wC T fn ctx (.loop a) st Q := by
  intro m
  induction m using Nat.strongRecOn with
  | _ m ih =>
    intro st h
    refine wC_loop ((hs m st h).mono fun x st' hx => ?_)
    cases x with
    | normal => obtain ⟨m', h1, h2⟩ := hx; exact ih m' h1 st' h2
    | exit id => exact hx
    | ret => exact hx

/-- A function's call, out of its body. -/
def endF (rs : List (Nat ⊕ (Nat × Nat × Bool))) (Q : Value → AHeap → Prop) : AExit → St → Prop
  | .exit _, _ => False
  | _, st => ∃ A2, unwindA st.dfs st.A = some A2 ∧ ∃ vs, resultsA st.env A2 rs = some vs ∧ Q (tupleA vs) A2

theorem wF_func {f : FuncId} {F : AFunc} (hT : T f = some F) {first captured args : List Value} {A : AHeap} {Q : Value → AHeap → Prop} (hl : (first ++ args ++ captured).length = F.nargs ∧ F.nargs ≤ F.n)
    (h : wC T f none F.body { env := envOf 0 .leaf (first ++ args ++ captured), n := F.n, dfs := [], A := A } (endF F.results Q)) : wF T (.func (.func f) ⟨first⟩ ⟨captured⟩) args A Q := by
  obtain ⟨n, x, st, h1, h2⟩ := h
  cases x with
  | exit id => exact h2.elim
  | normal =>
    obtain ⟨A2, h3, vs, h4, h5⟩ := h2
    exact ⟨n + 1, _, A2, by rw [callN_f]; simp only [hT, if_pos hl, h1, h3, h4], h5⟩
  | ret =>
    obtain ⟨A2, h3, vs, h4, h5⟩ := h2
    exact ⟨n + 1, _, A2, by rw [callN_f]; simp only [hT, if_pos hl, h1, h3, h4], h5⟩

/-- A yield, out of the loop's body. -/
def endY (l : Nat) (Q : Value → AHeap → Prop) (x : AExit) (st : St) : Prop :=
  match st.A.get l, jumpOf x with
  | some (.loop _ _ f k e params assign body d), some j => Q (.bool j.isNone) (st.A.set l (.loop (if j.isNone then .ready else .done) j f k e params assign body d))
  | _, _ => False

def midY (T : FTab) (f : FuncId) (l : Nat) (body : ACode) (Q : Value → AHeap → Prop) (st : St) : Prop :=
  match st.A.get l with
  | some (.loop .ready p' f' k' e' params' assign' body' d') => wC T f (some l) body { st with A := st.A.set l (.loop .busy p' f' k' e' params' assign' body' d') } (endY l Q)
  | _ => False

theorem wF_yield {l : Nat} {y1 y2 : Array Value} {args : List Value} {A : AHeap} {Q : Value → AHeap → Prop} {p : Option Code} {f : FuncId} {k : Nat} {e : Env} {params : List Nat} {assign body : ACode} {d : Nat}
    (hg : A.get l = some (.loop .ready p f k e params assign body d)) (hlen : args.length = params.length) (hall : params.all (fun t => decide (t < k)) = true)
    (h : wC T f (some l) assign { env := (params.zip args).foldl (fun (e : Env) ta => e.set ta.1 ta.2) e, n := k, dfs := [], A := A } (thenC (midY T f l body Q) fun _ _ => False)) :
    wF T (.func (.yield l) y1 y2) args A Q := by
  obtain ⟨n, x, st, h1, h2⟩ := h
  cases x with
  | exit id => exact h2.elim
  | ret => exact h2.elim
  | normal =>
    have h2' : midY T f l body Q st := h2
    unfold midY at h2'
    split at h2'
    · rename_i p' f' k' e' params' assign' body' d' hg1
      obtain ⟨m, x, st2, h3, h4⟩ := h2'
      unfold endY at h4
      split at h4
      · rename_i s2 p2 f2 k2 e2 params2 assign2 body2 d2 j hg2 hj
        refine ⟨max n m + 1, _, _, ?_, h4⟩
        have e1 := execC_le (callN_le T (Nat.le_max_left n m)) (Nat.le_max_left n m) assign h1
        have e2 := execC_le (callN_le T (Nat.le_max_right n m)) (Nat.le_max_right n m) body h3
        rw [callN_y]
        simp only [hg, if_pos (And.intro hlen hall), e1, hg1, e2, hg2, hj]
      · exact h4.elim
    · exact h2'.elim

/-- A range over a function. -/
def endR (l : Nat) (st : St) (Q : AExit → St → Prop) (A2 : AHeap) : Prop :=
  match A2.get l with
  | some (.loop s p f' n' e' ps a' b' d') => s ≠ .busy ∧ ∃ x, exitOf p = some x ∧ Q x { st with A := A2.set l (.loop .exhausted p f' n' e' ps a' b' d') }
  | _ => False

theorem wC_range {f : Operand} {params : List Nat} {assign body : ACode} {st : St} {Q : AExit → St → Prop}
    (h : wF T (ev st.env f) [.func (.yield (st.A.size + 1)) #[] #[]] ((st.A.alloc (.dfr false)).alloc (.loop .ready none fn st.n st.env params assign body st.A.size))
      fun _ A2 => endR (st.A.size + 1) { st with A := st.A.alloc (.dfr false), dfs := st.A.size :: st.dfs } Q A2) : wC T fn none (.rangeFunc f params assign body) st Q := by
  obtain ⟨n, v, A2, h1, h2⟩ := h
  unfold endR at h2
  split at h2
  · rename_i s p f' n' e' ps a' b' d' hg
    obtain ⟨hs, x, hx, hQ⟩ := h2
    refine ⟨n, x, _, ?_, hQ⟩
    simp only [execC, AHeap.size_alloc, h1, hg, if_neg hs, hx]
  · exact h2.elim

/-- A range over a function, within a round of another. -/
theorem wC_range_in {f : Operand} {params : List Nat} {assign body : ACode} {st : St} {Q : AExit → St → Prop} {l0 : Nat} {s0 : LoopState} {p0 : Option Code} {f0 : FuncId} {n0 : Nat} {e0 : Env} {ps0 : List Nat} {a0 b0 : ACode} {d : Nat}
    (h0 : st.A.get l0 = some (.loop s0 p0 f0 n0 e0 ps0 a0 b0 d))
    (h : wF T (ev st.env f) [.func (.yield st.A.size) #[] #[]] (st.A.alloc (.loop .ready none fn st.n st.env params assign body d)) fun _ A2 => endR st.A.size st Q A2) : wC T fn (some l0) (.rangeFunc f params assign body) st Q := by
  obtain ⟨n, v, A2, h1, h2⟩ := h
  unfold endR at h2
  split at h2
  · rename_i s p f' n' e' ps a' b' d' hg
    obtain ⟨hs, x, hx, hQ⟩ := h2
    refine ⟨n, x, _, ?_, hQ⟩
    simp only [execC, h0, h1, hg, if_neg hs, hx]
  · exact h2.elim

end
end Go.AS
