/- Words for stating and walking programs: texts of this claim, one behind the other. -/
import Derived.Test.YtigknpfjhegkgaaGreatM2
import Derived.Below
import Derived.ChangeArms
import Derived.DataReads
import Derived.WideShapes
import Derived.Defers
section
namespace Go.AS
open Go Go.RowKit
set_option linter.unusedSimpArgs false
set_option linter.unusedVariables false

/-- The program's functions, in our words. -/
def tabOf (P : Program) : FTab := fun f => match P.funcs[f]? with
  | some F => if F.name == "runtime.NumGoroutine" then none else compileF P F
  | none => none

theorem tabOf_ok (P : Program) : TabOk P (tabOf P) := by
  intro f fn h
  unfold tabOf at h
  split at h
  · rename_i F hF
    split at h
    · cases h
    · rename_i hn
      exact ⟨F, hF, by simpa using hn, compileF_body h, .inl h⟩
  · cases h

def A0 : AHeap := ⟨8, .leaf⟩

def isTrue : Option (Value × AHeap) → Bool
  | some (.bool true, _) => true
  | _ => false

theorem isTrue_spec {r : Option (Value × AHeap)} (h : isTrue r = true) : ∃ A, r = some (.bool true, A) := by
  unfold isTrue at h
  split at h
  · exact ⟨_, rfl⟩
  · cases h

/-- A memory whose blocks are only read: what a call leaves of the machine's. -/
theorem Tr.below {C : Comp} {ρ ρ' : Ren} {A A' : AHeap} {w w' : World} (T : Tr C ρ A w ρ' A' w') (h : ∀ b, passive (A.get b)) : Below w.heap.size w w' :=
  ⟨T.os, T.tape, T.output, T.hsize, fun k hk => T.frame k hk fun b e _ _ _ => h b⟩

/-- A function without arguments that answers yes says so wherever it is called. -/
theorem closed_yes {P : Program} (hmix : P.follows .mixedOrders = true) (n f : Nat) (h : isTrue (callN (tabOf P) (n + 1) (.func (.func f) #[] #[]) [] A0) = true) : SaysYes P f := by
  intro cs w
  obtain ⟨A', hA⟩ := isTrue_spec h
  obtain ⟨_, h2⟩ := callN_fn_sound (tabOf_ok P) hmix (callN_sound (tabOf_ok P) hmix n) hA
  have hget : ∀ b, A0.get b = none := fun b => by unfold AHeap.get; split <;> rfl
  obtain ⟨ρ', vc, w', h3, h4, h5⟩ := h2 ren0 w [] .nil ⟨fun b e x he hx => (by rw [hget] at hx; cases hx), fun b b' e e' x x' _ he _ hx => (by rw [hget] at hx; cases hx), ren0_glob⟩ (fun b hb _ => ren0_free b hb) cs
  cases h4
  have hb := h5.below fun b => by rw [hget]; trivial
  exact ⟨w', h3, hb.os, hb.tape, hb.output, hb.size, hb.block⟩

/-- The program's functions, some of them known to say yes. -/
def tabYes (P : Program) (yes : List Nat) : FTab := fun f => if yes.contains f then (match P.funcs[f]? with
  | some F => if F.name == "runtime.NumGoroutine" then none else if F.body.isNone then none else some sayYes
  | none => none) else tabOf P f

theorem tabYes_ok {P : Program} {yes : List Nat} (h : ∀ f ∈ yes, SaysYes P f) : TabOk P (tabYes P yes) := by
  intro f fn hf
  unfold tabYes at hf
  split at hf
  · rename_i hy
    split at hf
    · rename_i F hF
      split at hf
      · cases hf
      · rename_i hn
        split at hf
        · cases hf
        · rename_i hb
          cases hf
          exact ⟨F, hF, by simpa using hn, Bool.eq_false_iff.2 hb, .inr (.inl ⟨rfl, h f (by simpa using hy)⟩)⟩
    · cases hf
  · exact tabOf_ok P f fn hf

/-- A function without arguments that answers yes. -/
theorem closed_calls {P : Program} (hmix : P.follows .mixedOrders = true) (n f : Nat) (h : isTrue (callN (tabOf P) (n + 1) (.func (.func f) #[] #[]) [] A0) = true) (w : World) :
    Calls P f #[] w fun e w' => e = .returned (.bool true) ∧ Below w.heap.size w w' := by
  intro cs
  obtain ⟨A', hA⟩ := isTrue_spec h
  obtain ⟨_, h2⟩ := callN_fn_sound (tabOf_ok P) hmix (callN_sound (tabOf_ok P) hmix n) hA
  have hget : ∀ b, A0.get b = none := fun b => by unfold AHeap.get; split <;> rfl
  obtain ⟨ρ', vc, w', h3, h4, h5⟩ := h2 ren0 w [] .nil ⟨fun b e x he hx => (by rw [hget] at hx; cases hx), fun b b' e e' x x' _ he _ hx => (by rw [hget] at hx; cases hx), ren0_glob⟩ (fun b hb _ => ren0_free b hb) cs
  cases h4
  obtain ⟨fr, k1, k2, k3⟩ := h3
  exact ⟨.returned (.bool true), w', fr, ⟨rfl, h5.below fun b => by rw [hget]; trivial⟩, k1, k2, k3⟩

end Go.AS
end

section
namespace Go.AS
open Go
set_option linter.unusedSimpArgs false
set_option linter.unusedVariables false

/-! ## More rounds tell the same -/
def Le (c c' : CallT) : Prop := ∀ fv args A r, c fv args A = some r → c' fv args A = some r

section
variable {call call' : CallT} {fn : FuncId} {ctx : Option Nat}

theorem opVal_le (h : Le call call') {e : Env} {A : AHeap} {op : AOp} {r : Value × AHeap} (hr : opVal call e A op = some r) : opVal call' e A op = some r := by
  cases op with
  | call f args => exact h _ _ _ _ hr
  | callv f args => exact h _ _ _ _ hr
  | _ => exact hr

theorem runOp_le (h : Le call call') {o : AOper} {st st' : St} (hr : runOp call o st = some st') : runOp call' o st = some st' := by
  unfold runOp at hr ⊢
  split at hr
  · rename_i hw
    rw [if_pos hw]
    split at hr
    · rename_i v A hv
      rw [opVal_le h hv]; exact hr
    · cases hr
  · rename_i hw
    rw [if_neg hw]; exact hr

theorem runOps_le (h : Le call call') : ∀ (l : List AOper) {st st' : St}, runOps call l st = some st' → runOps call' l st = some st' := by
  intro l
  induction l with
  | nil => intro st st' hr; exact hr
  | cons o l ih =>
    intro st st' hr
    simp only [runOps] at hr ⊢
    split at hr
    · rename_i st1 h1
      rw [runOp_le h h1]; exact ih hr
    · cases hr

theorem runTrace_le (h : Le call call') : ∀ (l : List AOper) {st : St} {tr : List St}, runTrace call l st = some tr → runTrace call' l st = some tr := by
  intro l
  induction l with
  | nil => intro st tr hr; exact hr
  | cons o l ih =>
    intro st tr hr
    simp only [runTrace] at hr ⊢
    split at hr
    · rename_i st1 h1
      simp only [runOp_le h h1]
      split at hr
      · rename_i l2 h2
        simp only [ih h2]; exact hr
      · cases hr
    · cases hr

theorem iter_le {f f' : St → Option (AExit × St)} (h : ∀ st r, f st = some r → f' st = some r) : ∀ (n m : Nat), n ≤ m → ∀ {st : St} {r : AExit × St}, iter f n st = some r → iter f' m st = some r := by
  intro n
  induction n with
  | zero => intro m _ st r hr; cases hr
  | succ n ih =>
    intro m hm st r hr
    cases m with
    | zero => omega
    | succ m =>
      simp only [iter] at hr ⊢
      split at hr
      · rename_i st1 h1
        rw [h _ _ h1]; exact ih m (by omega) hr
      · rename_i r1 hne h1
        rw [h _ _ h1]
        cases hr
        split
        · rename_i st2 h2; cases h2; exact absurd rfl (hne st2)
        · rename_i h2; cases h2; rfl
        · rename_i h2; cases h2
      · cases hr

theorem execC_le (h : Le call call') {n m : Nat} (hnm : n ≤ m) (c : ACode) : ∀ {st : St} {r : AExit × St}, execC call fn ctx n c st = some r → execC call' fn ctx m c st = some r := by
  induction c generalizing fn ctx with
  | skip => intro st r hr; exact hr
  | ops l =>
    intro st r hr
    simp only [execC] at hr ⊢
    cases h1 : runOps call l st with
    | none => rw [h1] at hr; cases hr
    | some st1 => rw [h1] at hr; rw [runOps_le h l h1]; exact hr
  | opsD l chk =>
    intro st r hr
    simp only [execC] at hr ⊢
    cases h1 : runTrace call l st with
    | none => rw [h1] at hr; cases hr
    | some st1 => rw [h1] at hr; rw [runTrace_le h l h1]; exact hr
  | seq a b iha ihb =>
    intro st r hr
    simp only [execC] at hr ⊢
    cases h1 : execC call fn ctx n a st with
    | none => rw [h1] at hr; cases hr
    | some q =>
      rw [h1] at hr; rw [iha h1]
      obtain ⟨x, st1⟩ := q
      cases x with
      | normal => exact ihb hr
      | exit id => exact hr
      | ret => exact hr
  | cond c a b iha ihb =>
    intro st r hr
    simp only [execC] at hr ⊢
    split at hr
    · exact iha hr
    · exact ihb hr
    · cases hr
  | block id a iha =>
    intro st r hr
    simp only [execC] at hr ⊢
    cases h1 : execC call fn ctx n a st with
    | none => rw [h1] at hr; cases hr
    | some q => rw [h1] at hr; rw [iha h1]; exact hr
  | loop a iha =>
    intro st r hr
    exact iter_le (fun st r hr => iha hr) n m hnm hr
  | exit id => intro st r hr; exact hr
  | ret => intro st r hr; exact hr
  | guarded fc d nc r y clos inner ihc ihi =>
    intro st r0 hr
    obtain ⟨x, st'⟩ := r0
    obtain ⟨cap, x1, st1, v, x2, sc, k0, k1, k2, k3, k4, k5, k6, k7, rfl, rfl⟩ := guarded_inv hr
    simp only [execC, k0, ihi k1, k2, if_pos k3, ihc k4]
    cases x2 with
    | exit id => exact absurd rfl (k5 id)
    | normal => simp [finG, k6, k7]
    | ret => simp [finG, k6, k7]
  | rangeFunc f params assign body _ _ =>
    intro st r hr
    have go : ∀ (st0 : St) (d : Nat), (match call (ev st0.env f) [.func (.yield st0.A.size) #[] #[]] (st0.A.alloc (.loop .ready none fn st0.n st0.env params assign body d)) with
      | some (_, A2) => match A2.get st0.A.size with
        | some (.loop s p f' n' e' ps a' b' d') => if s = .busy then none else
          match exitOf p with
          | some x => some (x, { st0 with A := A2.set st0.A.size (.loop .exhausted p f' n' e' ps a' b' d') })
          | none => none
        | _ => none
      | none => none) = some r → (match call' (ev st0.env f) [.func (.yield st0.A.size) #[] #[]] (st0.A.alloc (.loop .ready none fn st0.n st0.env params assign body d)) with
      | some (_, A2) => match A2.get st0.A.size with
        | some (.loop s p f' n' e' ps a' b' d') => if s = .busy then none else
          match exitOf p with
          | some x => some (x, { st0 with A := A2.set st0.A.size (.loop .exhausted p f' n' e' ps a' b' d') })
          | none => none
        | _ => none
      | none => none) = some r := by
      intro st0 d hr
      cases h1 : call (ev st0.env f) [.func (.yield st0.A.size) #[] #[]] (st0.A.alloc (.loop .ready none fn st0.n st0.env params assign body d)) with
      | none => rw [h1] at hr; cases hr
      | some q => rw [h1] at hr; rw [h _ _ _ _ h1]; exact hr
    simp only [execC] at hr ⊢
    split at hr
    · exact go { st with A := st.A.alloc (.dfr false), dfs := st.A.size :: st.dfs } st.A.size hr
    · split at hr
      · exact go st _ hr
      · cases hr

theorem callN_f (T : FTab) (n : Nat) (f : FuncId) (first captured args : List Value) (A : AHeap) : callN T (n + 1) (.func (.func f) ⟨first⟩ ⟨captured⟩) args A =
      (match T f with
      | some fn =>
        let as := first ++ args ++ captured
        if as.length = fn.nargs ∧ fn.nargs ≤ fn.n then
          match execC (callN T n) f none n fn.body { env := envOf 0 .leaf as, n := fn.n, dfs := [], A := A } with
          | some (x, st) => match x with
            | .exit _ => none
            | _ => match unwindA st.dfs st.A with
              | some A2 => match resultsA st.env A2 fn.results with
                | some vs => some (tupleA vs, A2)
                | none => none
              | none => none
          | none => none
        else none
      | none => none) := rfl

theorem callN_y (T : FTab) (n l : Nat) (y1 y2 : Array Value) (args : List Value) (A : AHeap) : callN T (n + 1) (.func (.yield l) y1 y2) args A =
      (match A.get l with
      | some (.loop .ready p f k e params assign body d) =>
        if args.length = params.length ∧ params.all (fun t => decide (t < k)) = true then
          let e' := (params.zip args).foldl (fun e ta => e.set ta.1 ta.2) e
          match execC (callN T n) f (some l) n assign { env := e', n := k, dfs := [], A := A } with
          | some (.normal, st) =>
            match st.A.get l with
            | some (.loop .ready p' f' k' e' params' assign' body' d') =>
              match execC (callN T n) f (some l) n body { st with A := st.A.set l (.loop .busy p' f' k' e' params' assign' body' d') } with
              | some (x, st2) => match st2.A.get l with
                | some (.loop _ _ f k e params assign body d) =>
                  match jumpOf x with
                  | some j => some (.bool j.isNone, st2.A.set l (.loop (if j.isNone then .ready else .done) j f k e params assign body d))
                  | none => none
                | _ => none
              | none => none
            | _ => none
          | _ => none
        else none
      | _ => none) := rfl

theorem callN_le1 (T : FTab) : ∀ n, Le (callN T n) (callN T (n + 1)) := by
  intro n
  induction n with
  | zero => intro fv args A r hr; cases hr
  | succ n ih =>
    intro fv args A r hr
    cases fv with
    | func fr first captured =>
      obtain ⟨first⟩ := first
      obtain ⟨captured⟩ := captured
      cases fr with
      | func f =>
        rw [callN_f] at hr ⊢
        split at hr
        · rename_i fn hT
          simp only at hr ⊢
          split at hr
          · rename_i hl
            rw [if_pos hl]
            cases h1 : execC (callN T n) f none n fn.body { env := envOf 0 .leaf (first ++ args ++ captured), n := fn.n, dfs := [], A := A } with
            | none => rw [h1] at hr; cases hr
            | some q => rw [h1] at hr; rw [execC_le ih (Nat.le_add_right n 1) _ h1]; exact hr
          · cases hr
        · cases hr
      | yield l =>
        rw [callN_y] at hr ⊢
        simp only at hr ⊢
        split at hr
        case h_2 => cases hr
        rename_i p f k e params assign body d hg
        split at hr
        case isFalse => cases hr
        rename_i hcond
        rw [if_pos hcond]
        cases h1 : execC (callN T n) f (some l) n assign { env := (params.zip args).foldl (fun (e : Env) ta => e.set ta.1 ta.2) e, n := k, dfs := [], A := A } with
        | none => rw [h1] at hr; cases hr
        | some q =>
          rw [h1] at hr; rw [execC_le ih (Nat.le_add_right n 1) _ h1]
          obtain ⟨x, st1⟩ := q
          cases x with
          | exit id => cases hr
          | ret => cases hr
          | normal =>
            simp only at hr ⊢
            split at hr
            case h_2 => cases hr
            rename_i p1 f1 k1 e1 params1 assign1 body1 d1 hg1
            cases h2 : execC (callN T n) f (some l) n body { st1 with A := st1.A.set l (.loop .busy p1 f1 k1 e1 params1 assign1 body1 d1) } with
            | none => rw [h2] at hr; cases hr
            | some q => rw [h2] at hr; rw [execC_le ih (Nat.le_add_right n 1) _ h2]; exact hr
      | _ => simp only [callN] at hr; cases hr
    | _ => simp only [callN] at hr; cases hr

theorem callN_le (T : FTab) {n m : Nat} (h : n ≤ m) : Le (callN T n) (callN T m) := by
  induction h with
  | refl => intro _ _ _ _ hr; exact hr
  | step _ ih => intro fv args A r hr; exact callN_le1 T _ _ _ _ _ (ih _ _ _ _ hr)
end

/-! ## What comes to pass -/
section
variable {T : FTab} {fn : FuncId} {ctx : Option Nat}

def wF (T : FTab) (fv : Value) (args : List Value) (A : AHeap) (Q : Value → AHeap → Prop) : Prop := ∃ n v A', callN T n fv args A = some (v, A') ∧ Q v A'
def wV (T : FTab) (e : Env) (A : AHeap) (op : AOp) (Q : Value → AHeap → Prop) : Prop := ∃ n v A', opVal (callN T n) e A op = some (v, A') ∧ Q v A'
def wO (T : FTab) (l : List AOper) (st : St) (Q : St → Prop) : Prop := ∃ n st', runOps (callN T n) l st = some st' ∧ Q st'
def wC (T : FTab) (fn : FuncId) (ctx : Option Nat) (c : ACode) (st : St) (Q : AExit → St → Prop) : Prop := ∃ n x st', execC (callN T n) fn ctx n c st = some (x, st') ∧ Q x st'
def wL (r : Option (Value × AHeap)) (Q : Value → AHeap → Prop) : Prop := match r with | some (v, A) => Q v A | none => False
def wB (v : Value) (p q : Prop) : Prop := match v with | .bool b => if b = true then p else q | _ => False
def wPut (st : St) (dst : Option Nat) (v : Value) (A : AHeap) (K : St → Prop) : Prop :=
  match dst with
  | none => K { st with A := A }
  | some d => if d < st.n then K { st with env := st.env.set d v, A := A } else False
def notCall : AOp → Bool
  | .call _ _ | .callv _ _ => false
  | _ => true

theorem wF.mono {fv : Value} {args : List Value} {A : AHeap} {Q Q' : Value → AHeap → Prop} (h : wF T fv args A Q) (hq : ∀ v A, Q v A → Q' v A) : wF T fv args A Q' := by
  obtain ⟨n, v, A', h1, h2⟩ := h; exact ⟨n, v, A', h1, hq _ _ h2⟩
theorem wC.mono {c : ACode} {st : St} {Q Q' : AExit → St → Prop} (h : wC T fn ctx c st Q) (hq : ∀ x st, Q x st → Q' x st) : wC T fn ctx c st Q' := by
  obtain ⟨n, v, A', h1, h2⟩ := h; exact ⟨n, v, A', h1, hq _ _ h2⟩
theorem wO.mono {l : List AOper} {st : St} {Q Q' : St → Prop} (h : wO T l st Q) (hq : ∀ st, Q st → Q' st) : wO T l st Q' := by
  obtain ⟨n, A', h1, h2⟩ := h; exact ⟨n, A', h1, hq _ h2⟩

theorem wV_simple {e : Env} {A : AHeap} {op : AOp} {Q : Value → AHeap → Prop} (h : notCall op = true) : wV T e A op Q ↔ wL (lop e A op) Q := by
  have : ∀ n, opVal (callN T n) e A op = lop e A op := fun n => by cases op <;> first | rfl | cases h
  unfold wV wL
  constructor
  · rintro ⟨n, v, A', h1, h2⟩; rw [this] at h1; rw [h1]; exact h2
  · intro h2
    split at h2
    · rename_i v A' hv; exact ⟨0, v, A', by rw [this]; exact hv, h2⟩
    · exact h2.elim

theorem wV_eq {e : Env} {A : AHeap} {op : AOp} {Q : Value → AHeap → Prop} : wV T e A op Q ↔ (match op with
  | .call f args => wF T (.func (.func f) #[] #[]) (args.map (ev e)) A Q
  | .callv f args => wF T (ev e f) (args.map (ev e)) A Q
  | op => wL (lop e A op) Q) := by
  cases op <;> first | exact wV_simple rfl | exact Iff.rfl

theorem rd_leaf (t : Nat) : Env.rd Trie.leaf t = undef := rfl

theorem wV_call {e : Env} {A : AHeap} {f : FuncId} {args : List Operand} {Q : Value → AHeap → Prop} : wV T e A (.call f args) Q ↔ wF T (.func (.func f) #[] #[]) (args.map (ev e)) A Q := Iff.rfl
theorem wV_callv {e : Env} {A : AHeap} {f : Operand} {args : List Operand} {Q : Value → AHeap → Prop} : wV T e A (.callv f args) Q ↔ wF T (ev e f) (args.map (ev e)) A Q := Iff.rfl

theorem wO_nil {st : St} {Q : St → Prop} : wO T [] st Q ↔ Q st := ⟨fun ⟨n, st', h1, h2⟩ => by cases h1; exact h2, fun h => ⟨0, st, rfl, h⟩⟩

theorem putE_wPut {st : St} {dst : Option Nat} {v : Value} {A : AHeap} {K : St → Prop} : (∃ st', putE st dst v A = some st' ∧ K st') ↔ wPut st dst v A K := by
  unfold putE wPut
  cases dst with
  | none => exact ⟨fun ⟨_, h1, h2⟩ => by cases h1; exact h2, fun h => ⟨_, rfl, h⟩⟩
  | some d =>
    by_cases hd : d < st.n
    · simp only [if_pos hd]; exact ⟨fun ⟨_, h1, h2⟩ => by cases h1; exact h2, fun h => ⟨_, rfl, h⟩⟩
    · simp only [if_neg hd]; exact ⟨fun ⟨_, h1, h2⟩ => (by cases h1), fun h => h.elim⟩

theorem wO_cons {o : AOper} {r : List AOper} {st : St} {Q : St → Prop} : wO T (o :: r) st Q ↔
    if wantedA st.env o.guard = true then wV T st.env st.A o.op (fun v A => wPut st o.dst v A fun st' => wO T r st' Q) else wPut st o.dst undef st.A fun st' => wO T r st' Q := by
  constructor
  · rintro ⟨n, st', h1, h2⟩
    simp only [runOps] at h1
    cases h3 : runOp (callN T n) o st with
    | none => rw [h3] at h1; cases h1
    | some st1 =>
      rw [h3] at h1
      unfold runOp at h3
      by_cases hw : wantedA st.env o.guard = true
      · rw [if_pos hw] at h3 ⊢
        cases h4 : opVal (callN T n) st.env st.A o.op with
        | none => rw [h4] at h3; cases h3
        | some q =>
          obtain ⟨v, A⟩ := q
          rw [h4] at h3
          exact ⟨n, v, A, h4, putE_wPut.1 ⟨st1, h3, n, st', h1, h2⟩⟩
      · rw [if_neg hw] at h3 ⊢
        exact putE_wPut.1 ⟨st1, h3, n, st', h1, h2⟩
  · intro h
    by_cases hw : wantedA st.env o.guard = true
    · rw [if_pos hw] at h
      obtain ⟨n, v, A, h1, h2⟩ := h
      obtain ⟨st1, h3, m, st', h4, h5⟩ := putE_wPut.2 h2
      refine ⟨max n m, st', ?_, h5⟩
      have e1 : runOp (callN T (max n m)) o st = some st1 := by
        unfold runOp
        rw [if_pos hw, opVal_le (callN_le T (Nat.le_max_left n m)) h1]; exact h3
      simp only [runOps, e1]
      exact runOps_le (callN_le T (Nat.le_max_right n m)) r h4
    · rw [if_neg hw] at h
      obtain ⟨st1, h3, m, st', h4, h5⟩ := putE_wPut.2 h
      refine ⟨m, st', ?_, h5⟩
      have e1 : runOp (callN T m) o st = some st1 := by
        unfold runOp
        rw [if_neg hw]; exact h3
      simp only [runOps, e1]
      exact h4

theorem wC_ops {l : List AOper} {st : St} {Q : AExit → St → Prop} : wC T fn ctx (.ops l) st Q ↔ wO T l st (Q .normal) := by
  constructor
  · rintro ⟨n, x, st', h1, h2⟩
    simp only [execC] at h1
    cases h3 : runOps (callN T n) l st with
    | none => rw [h3] at h1; cases h1
    | some st1 => rw [h3] at h1; cases h1; exact ⟨n, _, h3, h2⟩
  · rintro ⟨n, st', h1, h2⟩
    exact ⟨n, .normal, st', by simp only [execC, h1]; rfl, h2⟩

theorem runTrace_last {call : CallT} : ∀ (l : List AOper) {st st' : St}, runOps call l st = some st' → ∃ tr, runTrace call l st = some tr ∧ tr.getLast? = some st' := by
  intro l
  induction l with
  | nil => intro st st' h; cases h; exact ⟨[_], rfl, rfl⟩
  | cons o l ih =>
    intro st st' h
    simp only [runOps] at h
    cases h1 : runOp call o st with
    | none => rw [h1] at h; cases h
    | some st1 =>
      rw [h1] at h
      obtain ⟨tr, h2, h3⟩ := ih h
      exact ⟨st :: tr, by simp only [runTrace, h1, h2], by rw [List.getLast?_cons, h3]; rfl⟩

/-- A region that draws its order, with nothing to hold. -/
theorem wC_opsD {l : List AOper} {st : St} {Q : AExit → St → Prop} (h : wO T l st (Q .normal)) : wC T fn ctx (.opsD l []) st Q := by
  obtain ⟨n, st', h1, h2⟩ := h
  obtain ⟨tr, h3, h4⟩ := runTrace_last l h1
  exact ⟨n, .normal, st', by simp only [execC, h3, List.all_nil, if_true, h4]; rfl, h2⟩

theorem wC_opsD_nil {l : List AOper} {st : St} {Q : AExit → St → Prop} : wC T fn ctx (.opsD l []) st Q ↔ wO T l st (Q .normal) := by
  refine ⟨?_, wC_opsD⟩
  rintro ⟨n, x, st', h1, h2⟩
  simp only [execC] at h1
  split at h1
  · rename_i tr htr
    simp only [List.all_nil, if_true] at h1
    cases h3 : tr.getLast? with
    | none => rw [h3] at h1; cases h1
    | some s =>
      rw [h3] at h1
      simp only [Option.map_some, Option.some.injEq, Prod.mk.injEq] at h1
      obtain ⟨hx, hs⟩ := h1
      subst hx
      rw [← hs] at h2
      refine ⟨n, s, ?_, h2⟩
      clear h2
      have key : ∀ (l : List AOper) (st : St) (tr : List St) (s : St), runTrace (callN T n) l st = some tr → tr.getLast? = some s → runOps (callN T n) l st = some s := by
        intro l
        induction l with
        | nil => intro st tr s a b; cases a; cases b; rfl
        | cons o l ih =>
          intro st tr s a b
          simp only [runTrace] at a
          cases h1 : runOp (callN T n) o st with
          | none => rw [h1] at a; cases a
          | some s1 =>
            rw [h1] at a
            simp only at a
            cases h2 : runTrace (callN T n) l s1 with
            | none => rw [h2] at a; cases a
            | some tr2 =>
              rw [h2] at a; cases a
              simp only [runOps, h1]
              refine ih s1 tr2 s h2 ?_
              cases tr2 with
              | nil => cases l with
                | nil => cases h2
                | cons o2 l2 =>
                  simp only [runTrace] at h2
                  split at h2
                  · split at h2 <;> cases h2
                  · cases h2
              | cons y tr2 => simpa using b
      exact key l st tr s htr h3
  · cases h1

theorem wC_skip {st : St} {Q : AExit → St → Prop} : wC T fn ctx .skip st Q ↔ Q .normal st := ⟨fun ⟨n, x, st', h1, h2⟩ => by cases h1; exact h2, fun h => ⟨0, _, _, rfl, h⟩⟩
theorem wC_ret {st : St} {Q : AExit → St → Prop} : wC T fn ctx .ret st Q ↔ Q .ret st := ⟨fun ⟨n, x, st', h1, h2⟩ => by cases h1; exact h2, fun h => ⟨0, _, _, rfl, h⟩⟩
theorem wC_exit {id : Nat} {st : St} {Q : AExit → St → Prop} : wC T fn ctx (.exit id) st Q ↔ Q (.exit id) st := ⟨fun ⟨n, x, st', h1, h2⟩ => by cases h1; exact h2, fun h => ⟨0, _, _, rfl, h⟩⟩

/-- What follows a piece that may be left. -/
def thenC (K : St → Prop) (Q : AExit → St → Prop) : AExit → St → Prop
  | .normal, st => K st
  | .exit id, st => Q (.exit id) st
  | .ret, st => Q .ret st

def blockC (id : Nat) (Q : AExit → St → Prop) : AExit → St → Prop
  | .normal, st => Q .normal st
  | .exit j, st => if j = id then Q .normal st else Q (.exit j) st
  | .ret, st => Q .ret st

theorem wC_seq {a b : ACode} {st : St} {Q : AExit → St → Prop} : wC T fn ctx (.seq a b) st Q ↔ wC T fn ctx a st (thenC (fun st' => wC T fn ctx b st' Q) Q) := by
  constructor
  · rintro ⟨n, x, st', h1, h2⟩
    simp only [execC] at h1
    cases h3 : execC (callN T n) fn ctx n a st with
    | none => rw [h3] at h1; cases h1
    | some q =>
      obtain ⟨y, st1⟩ := q
      rw [h3] at h1
      refine ⟨n, y, st1, h3, ?_⟩
      cases y with
      | normal => exact ⟨n, x, st', h1, h2⟩
      | exit id => cases h1; exact h2
      | ret => cases h1; exact h2
  · rintro ⟨n, x, st1, h1, h2⟩
    cases x with
    | normal =>
      obtain ⟨m, y, st', h3, h4⟩ := h2
      refine ⟨max n m, y, st', ?_, h4⟩
      simp only [execC, execC_le (callN_le T (Nat.le_max_left n m)) (Nat.le_max_left n m) a h1]
      exact execC_le (callN_le T (Nat.le_max_right n m)) (Nat.le_max_right n m) b h3
    | exit id => exact ⟨n, _, st1, by simp only [execC, h1], h2⟩
    | ret => exact ⟨n, _, st1, by simp only [execC, h1], h2⟩

theorem wC_cond {c : Operand} {a b : ACode} {st : St} {Q : AExit → St → Prop} : wC T fn ctx (.cond c a b) st Q ↔ wB (ev st.env c) (wC T fn ctx a st Q) (wC T fn ctx b st Q) := by
  unfold wB wC
  simp only [execC]
  cases h : ev st.env c with
  | bool t => cases t <;> simp
  | _ => simp

theorem wC_block {id : Nat} {a : ACode} {st : St} {Q : AExit → St → Prop} : wC T fn ctx (.block id a) st Q ↔ wC T fn ctx a st (blockC id Q) := by
  constructor
  · rintro ⟨n, x, st', h1, h2⟩
    simp only [execC] at h1
    cases h3 : execC (callN T n) fn ctx n a st with
    | none => rw [h3] at h1; cases h1
    | some q =>
      obtain ⟨y, st1⟩ := q
      rw [h3] at h1
      refine ⟨n, y, st1, h3, ?_⟩
      cases y with
      | normal => cases h1; exact h2
      | exit j =>
        simp only at h1
        show if j = id then _ else _
        split at h1
        · rename_i hj; rw [if_pos hj]; cases h1; exact h2
        · rename_i hj; rw [if_neg hj]; cases h1; exact h2
      | ret => cases h1; exact h2
  · rintro ⟨n, x, st1, h1, h2⟩
    cases x with
    | normal => exact ⟨n, _, st1, by simp only [execC, h1], h2⟩
    | ret => exact ⟨n, _, st1, by simp only [execC, h1], h2⟩
    | exit j =>
      have h2' : if j = id then Q .normal st1 else Q (.exit j) st1 := h2
      by_cases hj : j = id
      · rw [if_pos hj] at h2'; exact ⟨n, .normal, st1, by simp only [execC, h1, if_pos hj], h2'⟩
      · rw [if_neg hj] at h2'; exact ⟨n, .exit j, st1, by simp only [execC, h1, if_neg hj], h2'⟩

/-- One round of a loop. -/
theorem wC_loop {a : ACode} {st : St} {Q : AExit → St → Prop} (h : wC T fn ctx a st (thenC (fun st' => wC T fn ctx (.loop a) st' Q) Q)) : wC T fn ctx (.loop a) st Q := by
  obtain ⟨n, x, st1, h1, h2⟩ := h
  cases x with
  | normal =>
    obtain ⟨m, y, st', h3, h4⟩ := h2
    refine ⟨max n m + 1, y, st', ?_, h4⟩
    have e1 : execC (callN T (max n m + 1)) fn ctx (max n m + 1) a st = some (.normal, st1) := execC_le (callN_le T (by omega)) (by omega) a h1
    show iter _ (max n m + 1) st = _
    simp only [iter, e1]
    exact iter_le (fun st r hr => execC_le (callN_le T (by omega)) (by omega) a hr) m _ (by omega) h3
  | exit id =>
    refine ⟨n + 1, _, st1, ?_, h2⟩
    have e1 : execC (callN T (n + 1)) fn ctx (n + 1) a st = some (.exit id, st1) := execC_le (callN_le T (by omega)) (by omega) a h1
    show iter _ (n + 1) st = _
    simp only [iter, e1]
  | ret =>
    refine ⟨n + 1, _, st1, ?_, h2⟩
    have e1 : execC (callN T (n + 1)) fn ctx (n + 1) a st = some (.ret, st1) := execC_le (callN_le T (by omega)) (by omega) a h1
    show iter _ (n + 1) st = _
    simp only [iter, e1]

/-- A loop, by what stands at each round and a measure that falls. -/
theorem wC_loop_inv {a : ACode} {Q : AExit → St → Prop} (I : Nat → St → Prop) (hs : ∀ m st, I m st → wC T fn ctx a st (thenC (fun st' => ∃ m', m' < m ∧ I m' st') Q)) : ∀ m st, I m st → wC T fn ctx (.loop a) st Q := by
  intro m
  induction m using Nat.strongRecOn with
  | _ m ih =>
    intro st h
    refine wC_loop ((hs m st h).mono fun x st' hx => ?_)
    cases x with
    | normal => obtain ⟨m', h1, h2⟩ := hx; exact ih m' h1 st' h2
    | exit id => exact hx
    | ret => exact hx

/-- A function's call, out of its body. -/
def endF (rs : List (Nat ⊕ (Nat × Nat × Bool))) (Q : Value → AHeap → Prop) : AExit → St → Prop
  | .exit _, _ => False
  | _, st => ∃ A2, unwindA st.dfs st.A = some A2 ∧ ∃ vs, resultsA st.env A2 rs = some vs ∧ Q (tupleA vs) A2

theorem wF_func {f : FuncId} {F : AFunc} (hT : T f = some F) {first captured args : List Value} {A : AHeap} {Q : Value → AHeap → Prop} (hl : (first ++ args ++ captured).length = F.nargs ∧ F.nargs ≤ F.n)
    (h : wC T f none F.body { env := envOf 0 .leaf (first ++ args ++ captured), n := F.n, dfs := [], A := A } (endF F.results Q)) : wF T (.func (.func f) ⟨first⟩ ⟨captured⟩) args A Q := by
  obtain ⟨n, x, st, h1, h2⟩ := h
  cases x with
  | exit id => exact h2.elim
  | normal =>
    obtain ⟨A2, h3, vs, h4, h5⟩ := h2
    exact ⟨n + 1, _, A2, by rw [callN_f]; simp only [hT, if_pos hl, h1, h3, h4], h5⟩
  | ret =>
    obtain ⟨A2, h3, vs, h4, h5⟩ := h2
    exact ⟨n + 1, _, A2, by rw [callN_f]; simp only [hT, if_pos hl, h1, h3, h4], h5⟩

/-- A yield, out of the loop's body. -/
def endY (l : Nat) (Q : Value → AHeap → Prop) (x : AExit) (st : St) : Prop :=
  match st.A.get l, jumpOf x with
  | some (.loop _ _ f k e params assign body d), some j => Q (.bool j.isNone) (st.A.set l (.loop (if j.isNone then .ready else .done) j f k e params assign body d))
  | _, _ => False

def midY (T : FTab) (f : FuncId) (l : Nat) (body : ACode) (Q : Value → AHeap → Prop) (st : St) : Prop :=
  match st.A.get l with
  | some (.loop .ready p' f' k' e' params' assign' body' d') => wC T f (some l) body { st with A := st.A.set l (.loop .busy p' f' k' e' params' assign' body' d') } (endY l Q)
  | _ => False

theorem wF_yield {l : Nat} {y1 y2 : Array Value} {args : List Value} {A : AHeap} {Q : Value → AHeap → Prop} {p : Option Code} {f : FuncId} {k : Nat} {e : Env} {params : List Nat} {assign body : ACode} {d : Nat}
    (hg : A.get l = some (.loop .ready p f k e params assign body d)) (hlen : args.length = params.length) (hall : params.all (fun t => decide (t < k)) = true)
    (h : wC T f (some l) assign { env := (params.zip args).foldl (fun (e : Env) ta => e.set ta.1 ta.2) e, n := k, dfs := [], A := A } (thenC (midY T f l body Q) fun _ _ => False)) :
    wF T (.func (.yield l) y1 y2) args A Q := by
  obtain ⟨n, x, st, h1, h2⟩ := h
  cases x with
  | exit id => exact h2.elim
  | ret => exact h2.elim
  | normal =>
    have h2' : midY T f l body Q st := h2
    unfold midY at h2'
    split at h2'
    · rename_i p' f' k' e' params' assign' body' d' hg1
      obtain ⟨m, x, st2, h3, h4⟩ := h2'
      unfold endY at h4
      split at h4
      · rename_i s2 p2 f2 k2 e2 params2 assign2 body2 d2 j hg2 hj
        refine ⟨max n m + 1, _, _, ?_, h4⟩
        have e1 := execC_le (callN_le T (Nat.le_max_left n m)) (Nat.le_max_left n m) assign h1
        have e2 := execC_le (callN_le T (Nat.le_max_right n m)) (Nat.le_max_right n m) body h3
        rw [callN_y]
        simp only [hg, if_pos (And.intro hlen hall), e1, hg1, e2, hg2, hj]
      · exact h4.elim
    · exact h2'.elim

/-- A range over a function. -/
def endR (l : Nat) (st : St) (Q : AExit → St → Prop) (A2 : AHeap) : Prop :=
  match A2.get l with
  | some (.loop s p f' n' e' ps a' b' d') => s ≠ .busy ∧ ∃ x, exitOf p = some x ∧ Q x { st with A := A2.set l (.loop .exhausted p f' n' e' ps a' b' d') }
  | _ => False

theorem wC_range {f : Operand} {params : List Nat} {assign body : ACode} {st : St} {Q : AExit → St → Prop}
    (h : wF T (ev st.env f) [.func (.yield (st.A.size + 1)) #[] #[]] ((st.A.alloc (.dfr false)).alloc (.loop .ready none fn st.n st.env params assign body st.A.size))
      fun _ A2 => endR (st.A.size + 1) { st with A := st.A.alloc (.dfr false), dfs := st.A.size :: st.dfs } Q A2) : wC T fn none (.rangeFunc f params assign body) st Q := by
  obtain ⟨n, v, A2, h1, h2⟩ := h
  unfold endR at h2
  split at h2
  · rename_i s p f' n' e' ps a' b' d' hg
    obtain ⟨hs, x, hx, hQ⟩ := h2
    refine ⟨n, x, _, ?_, hQ⟩
    simp only [execC, AHeap.size_alloc, h1, hg, if_neg hs, hx]
  · exact h2.elim

/-- A range over a function, within a round of another. -/
theorem wC_range_in {f : Operand} {params : List Nat} {assign body : ACode} {st : St} {Q : AExit → St → Prop} {l0 : Nat} {s0 : LoopState} {p0 : Option Code} {f0 : FuncId} {n0 : Nat} {e0 : Env} {ps0 : List Nat} {a0 b0 : ACode} {d : Nat}
    (h0 : st.A.get l0 = some (.loop s0 p0 f0 n0 e0 ps0 a0 b0 d))
    (h : wF T (ev st.env f) [.func (.yield st.A.size) #[] #[]] (st.A.alloc (.loop .ready none fn st.n st.env params assign body d)) fun _ A2 => endR st.A.size st Q A2) : wC T fn (some l0) (.rangeFunc f params assign body) st Q := by
  obtain ⟨n, v, A2, h1, h2⟩ := h
  unfold endR at h2
  split at h2
  · rename_i s p f' n' e' ps a' b' d' hg
    obtain ⟨hs, x, hx, hQ⟩ := h2
    refine ⟨n, x, _, ?_, hQ⟩
    simp only [execC, h0, h1, hg, if_neg hs, hx]
  · exact h2.elim


/-- Code that is guarded. -/
theorem wC_guarded {fc : FuncId} {d nc r y : Nat} {clos inner : ACode} {st : St} {K : AExit → St → Prop} (cap : List Value) (hcap : capsG fc (st.env.rd d) = some cap) (hl : cap.length ≤ nc ∧ r < nc ∧ y < nc)
    (h : wC T fn ctx inner st fun x st1 => ∃ v, valG x st1 = some v ∧ st1.dfs = [] ∧ wC T fc none clos { env := envG cap r y v, n := nc, dfs := [], A := st1.A } fun x2 sc => (∀ id, x2 ≠ .exit id) ∧ sc.dfs = [] ∧ K .ret { st1 with A := sc.A }) :
    wC T fn ctx (.guarded fc d nc r y clos inner) st K := by
  obtain ⟨n, x1, st1, h1, v, h2, h3, m, x2, sc, h4, h5, h6, h7⟩ := h
  refine ⟨max n m, .ret, _, ?_, h7⟩
  have e1 := execC_le (callN_le T (Nat.le_max_left n m)) (Nat.le_max_left n m) inner h1
  have e2 := execC_le (callN_le T (Nat.le_max_right n m)) (Nat.le_max_right n m) clos h4
  simp only [execC, hcap, e1, h2, if_pos hl, e2]
  cases x2 with
  | exit id => exact absurd rfl (h5 id)
  | normal => simp [finG, h6, h3]
  | ret => simp [finG, h6, h3]

end
end Go.AS
end

section
namespace Go.AS
open Go
set_option linter.unusedSimpArgs false
set_option linter.unusedVariables false

/-! ## Words for open statements: what a memory keeps, what a slice holds -/

/-- The memory A' has what A had, but for the blocks in S. -/
structure Ext (S : Nat → Prop) (A A' : AHeap) : Prop where
  size : A.size ≤ A'.size
  keep : ∀ b, b < A.size → ¬ S b → A'.get b = A.get b

def NoB : Nat → Prop := fun _ => False

theorem Ext.refl {S : Nat → Prop} {A : AHeap} : Ext S A A := ⟨Nat.le_refl _, fun _ _ _ => rfl⟩
theorem Ext.trans {S : Nat → Prop} {A A1 A2 : AHeap} (h : Ext S A A1) (k : Ext S A1 A2) : Ext S A A2 :=
  ⟨Nat.le_trans h.size k.size, fun b hb hs => by rw [k.keep b (Nat.lt_of_lt_of_le hb h.size) hs, h.keep b hb hs]⟩
theorem Ext.mono {S S' : Nat → Prop} {A A' : AHeap} (h : Ext S A A') (hs : ∀ b, b < A.size → S b → S' b) : Ext S' A A' :=
  ⟨h.size, fun b hb hn => h.keep b hb fun q => hn (hs b hb q)⟩
theorem Ext.alloc {S : Nat → Prop} {A : AHeap} {x : ABlk} : Ext S A (A.alloc x) :=
  ⟨by simp, fun b hb _ => by rw [AHeap.get_alloc, if_neg (by omega)]⟩
theorem Ext.set {S : Nat → Prop} {A : AHeap} {b : Nat} {x : ABlk} (h : S b) : Ext S A (A.set b x) :=
  ⟨Nat.le_refl _, fun j hj hs => by
    have : j ≠ b := fun q => hs (by rw [q]; exact h)
    by_cases hb : b < A.size
    · rw [AHeap.get_set _ _ _ _ hb, if_neg this]
    · unfold AHeap.get AHeap.set; simp only [Trie.get_set, if_neg this]⟩
theorem Ext.get {S : Nat → Prop} {A A' : AHeap} (h : Ext S A A') {b : Nat} {x : ABlk} (hb : A.get b = some x) (hs : ¬ S b) : A'.get b = some x := by
  rw [h.keep b (AHeap.get_lt hb) hs]; exact hb

theorem get_set' (A : AHeap) (b j : Nat) (x : ABlk) : (A.set b x).get j = if j = b then (if b < A.size then some x else none) else A.get j := by
  by_cases hb : b < A.size
  · rw [AHeap.get_set _ _ _ _ hb, if_pos hb]
  · rw [if_neg hb]
    unfold AHeap.get AHeap.set
    simp only [Trie.get_set]
    by_cases hj : j = b
    · subst hj; rw [if_neg hb, if_pos rfl]
    · rw [if_neg hj, if_neg hj]

/-- The block that a slice lies in. -/
def Own (v : Value) (b : Nat) : Prop := ∃ o n c, v = .slice (some ⟨b, o, none⟩) n c

/-- A slice of n elements of sz cells each that may be appended to: cs are its cells. -/
def SliceAt (A : AHeap) (sz : Nat) (v : Value) (n : Nat) (cs : List Value) : Prop :=
  (v = .slice none 0 0 ∧ n = 0 ∧ cs = []) ∨
  ∃ d o c bs opn, v = .slice (some ⟨d, o, none⟩) n c ∧ A.get d = some (.cells bs false opn) ∧ o + n * sz ≤ bs.length ∧ cs = (bs.drop o).take (n * sz) ∧
    ((c = OPEN ∧ opn = sz ∧ bs.length = o + n * sz) ∨ (c = n ∧ n < OPEN) ∨ (c = ENDCAP ∧ n = 0 ∧ opn = sz ∧ bs.length = o))

/-- A slice that is read. -/
def ReadAt (A : AHeap) (sz : Nat) (v : Value) (n : Nat) (cs : List Value) : Prop :=
  (v = .slice none 0 0 ∧ n = 0 ∧ cs = []) ∨
  (∃ d o c bs ro opn, v = .slice (some ⟨d, o, none⟩) n c ∧ A.get d = some (.cells bs ro opn) ∧ o + n * sz ≤ bs.length ∧ cs = (bs.drop o).take (n * sz) ∧ (c = ENDCAP → n = 0)) ∨
  ∃ d o c, v = .slice (some ⟨d, o, none⟩) 0 c ∧ n = 0 ∧ cs = []

theorem SliceAt.read {A : AHeap} {sz n : Nat} {v : Value} {cs : List Value} (h : SliceAt A sz v n cs) : ReadAt A sz v n cs := by
  rcases h with h | ⟨d, o, c, bs, opn, h1, h2, h3, h4, h5⟩
  · exact .inl h
  · refine .inr (.inl ⟨d, o, c, bs, false, opn, h1, h2, h3, h4, fun hc => ?_⟩)
    rcases h5 with ⟨q, _⟩ | ⟨q, q2⟩ | ⟨_, q, _⟩
    · rw [q] at hc; exact absurd hc (by decide)
    · rw [q] at hc; rw [hc] at q2; exact absurd q2 (by decide)
    · exact q

theorem ReadAt.length {A : AHeap} {sz n : Nat} {v : Value} {cs : List Value} (h : ReadAt A sz v n cs) : cs.length = n * sz := by
  rcases h with ⟨_, h2, h3⟩ | ⟨d, o, c, bs, ro, opn, h1, h2, h3, h4, h5⟩ | ⟨d, o, c, h1, h2, h3⟩
  · rw [h2, h3]; simp
  · rw [h4, List.length_take, List.length_drop]; omega
  · rw [h2, h3]; simp

theorem ReadAt.ext {S : Nat → Prop} {A A' : AHeap} {sz n : Nat} {v : Value} {cs : List Value} (h : ReadAt A sz v n cs) (he : Ext S A A') (hs : ∀ b, Own v b → ¬ S b) : ReadAt A' sz v n cs := by
  rcases h with h | ⟨d, o, c, bs, ro, opn, h1, h2, h3, h4, h5⟩ | h
  · exact .inl h
  · exact .inr (.inl ⟨d, o, c, bs, ro, opn, h1, he.get h2 (hs d ⟨o, n, c, h1⟩), h3, h4, h5⟩)
  · exact .inr (.inr h)

theorem SliceAt.ext {S : Nat → Prop} {A A' : AHeap} {sz n : Nat} {v : Value} {cs : List Value} (h : SliceAt A sz v n cs) (he : Ext S A A') (hs : ∀ b, Own v b → ¬ S b) : SliceAt A' sz v n cs := by
  rcases h with h | ⟨d, o, c, bs, opn, h1, h2, h3, h4, h5⟩
  · exact .inl h
  · exact .inr ⟨d, o, c, bs, opn, h1, he.get h2 (hs d ⟨o, n, c, h1⟩), h3, h4, h5⟩

theorem SliceAt.own_lt {A : AHeap} {sz n : Nat} {v : Value} {cs : List Value} (h : SliceAt A sz v n cs) {b : Nat} (hb : Own v b) : b < A.size := by
  obtain ⟨o', n', c', hv⟩ := hb
  rcases h with h | ⟨d, o, c, bs, opn, h1, h2, _⟩
  · rw [h.1] at hv; cases hv
  · rw [h1] at hv; cases hv; exact AHeap.get_lt h2

theorem SliceAt.nil {A : AHeap} {sz : Nat} : SliceAt A sz (.slice none 0 0) 0 [] := .inl ⟨rfl, rfl, rfl⟩

/-- The value of a slice: its length. -/
theorem ReadAt.val {A : AHeap} {sz n : Nat} {v : Value} {cs : List Value} (h : ReadAt A sz v n cs) : ∃ a c, v = .slice a n c := by
  rcases h with ⟨h1, h2, _⟩ | ⟨d, o, c, bs, ro, opn, h1, _⟩ | ⟨d, o, c, h1, h2, _⟩
  · exact ⟨none, 0, by rw [h1, h2]⟩
  · exact ⟨_, _, h1⟩
  · exact ⟨_, c, by rw [h1, h2]⟩

theorem ReadAt.lenA {A : AHeap} {sz n : Nat} {v : Value} {cs : List Value} (h : ReadAt A sz v n cs) : AS.lenA v = some n := by
  obtain ⟨a, c, rfl⟩ := h.val; rfl

theorem ReadAt.firstA {A : AHeap} {sz n k : Nat} {v : Value} {cs : List Value} (h : ReadAt A sz v n cs) (hk : k ≤ n) : AS.firstA A sz k v = some (cs.take (k * sz)) := by
  have hle : k * sz ≤ n * sz := Nat.mul_le_mul_right _ hk
  rcases h with ⟨h1, h2, h3⟩ | ⟨d, o, c, bs, ro, opn, h1, h2, h3, h4, h5⟩ | ⟨d, o, c, h1, h2, h3⟩
  case inr.inr =>
    have hk0 : k = 0 := by omega
    rw [h1, h3, hk0]; simp [AS.firstA]
  · rw [h1, h3]; simp [AS.firstA]
  · rw [h1]
    simp only [AS.firstA]
    by_cases h0 : k * sz = 0
    · rw [if_pos h0, h0]; simp
    · rw [if_neg h0]
      have hc : c ≠ ENDCAP := fun q => by
        have := h5 q; subst this
        have : k = 0 := by omega
        subst this; simp at h0
      rw [if_neg hc]
      simp only [rdCells, h2]
      rw [if_pos (by omega), h4, List.take_take]
      congr 2; omega

/-- The address of an element, and what lies there. -/
theorem ReadAt.elem {A : AHeap} {sz n i : Nat} {v : Value} {cs : List Value} (h : ReadAt A sz v n cs) (hi : i < n) : ∃ d o c, v = .slice (some ⟨d, o, none⟩) n c ∧ rdCells A d (o + i * sz) sz = some ((cs.drop (i * sz)).take sz) := by
  have hle : i * sz + sz ≤ n * sz := by
    have := Nat.mul_le_mul_right sz (show i + 1 ≤ n by omega)
    rwa [Nat.add_mul, Nat.one_mul] at this
  rcases h with ⟨h1, h2, h3⟩ | ⟨d, o, c, bs, ro, opn, h1, h2, h3, h4, h5⟩ | ⟨_, _, _, _, h2, _⟩
  case inr.inr => omega
  · omega
  · refine ⟨d, o, c, h1, ?_⟩
    simp only [rdCells, h2]
    rw [if_pos (by omega), h4, List.drop_take, List.take_take, List.drop_drop]
    congr 2; omega

/-- The cell of an element of one cell. -/
theorem ReadAt.cell {A : AHeap} {n i : Nat} {v : Value} {cs : List Value} (h : ReadAt A 1 v n cs) (hi : i < n) : ∃ d o c bs ro opn, v = .slice (some ⟨d, o, none⟩) n c ∧ A.get d = some (.cells bs ro opn) ∧ bs[o + i]? = cs[i]? := by
  rcases h with ⟨h1, h2, h3⟩ | ⟨d, o, c, bs, ro, opn, h1, h2, h3, h4, h5⟩ | ⟨_, _, _, _, h2, _⟩
  case inr.inr => omega
  · omega
  · refine ⟨d, o, c, bs, ro, opn, h1, h2, ?_⟩
    rw [h4, List.getElem?_take_of_lt (by omega), List.getElem?_drop]

/-- An append. -/
theorem SliceAt.append {A : AHeap} {sz n m bytes : Nat} {v x : Value} {cs new : List Value} (h : SliceAt A sz v n cs) (hsz : sz ≠ 0) (hx : AS.lenA x = some m) (hn : AS.firstA A sz m x = some new) (hone : new.all oneCell = true) (hlen : new.length = m * sz)
    (hfit : n + m ≤ 4294967296) (hb : bytes ≤ 8192) (hstr : isStr x = true → sz = 1) :
    ∃ v' A', appA A sz bytes v x = some (v', A') ∧ SliceAt A' sz v' (n + m) (cs ++ new) ∧ Ext (Own v) A A' ∧ (∀ b, Own v' b → Own v b ∨ A.size ≤ b) := by
  have hguard : (!(fitsA (n + m) bytes) || decide (sz = 0) || (isStr x && sz != 1)) = false := by
    simp only [fitsA, hfit, hb, decide_true, Bool.and_self, Bool.not_true, hsz, decide_false, Bool.or_self, Bool.false_or, Bool.and_eq_false_iff]
    cases hs : isStr x with
    | false => exact .inl rfl
    | true => right; rw [hstr hs]; rfl
  have hgrow : ∀ (A1 : AHeap) (old : List Value), A1.size = A.size → old = cs → Ext (Own v) A A1 → ∃ v' A', some (growA A1 sz old new (n + m)) = some (v', A') ∧ SliceAt A' sz v' (n + m) (cs ++ new) ∧ Ext (Own v) A A' ∧ (∀ b, Own v' b → Own v b ∨ A.size ≤ b) := by
    intro A1 old h1 h2 h3
    subst h2
    have hcs := h.read.length
    refine ⟨_, _, rfl, .inr ⟨A1.size, 0, OPEN, old ++ new, sz, rfl, by rw [AHeap.get_alloc, if_pos rfl], ?_, ?_, .inl ⟨rfl, rfl, ?_⟩⟩, h3.trans Ext.alloc, ?_⟩
    · rw [List.length_append, hcs, hlen, Nat.add_mul]; omega
    · rw [List.drop_zero, List.take_of_length_le]; rw [List.length_append, hcs, hlen, Nat.add_mul]; omega
    · rw [List.length_append, hcs, hlen, Nat.add_mul]; omega
    · rintro b ⟨o, k, c, hv⟩
      cases hv
      exact .inr (by omega)
  by_cases hm : m = 0
  · subst hm
    have hnew : new = [] := List.length_eq_zero_iff.1 (by rw [hlen]; simp)
    subst hnew
    refine ⟨v, A, ?_, by simpa using h, Ext.refl, fun b hb => .inl hb⟩
    obtain ⟨a, c, hv⟩ := h.read.val
    rcases h with ⟨h1, h2, h3⟩ | ⟨d, o, c, bs, opn, h1, h2, h3, h4, h5⟩
    · subst h1; subst h2
      unfold appA
      simp only [hx, hguard, Bool.false_eq_true, if_false, hn, if_true]
    · subst h1
      unfold appA
      simp only [hx, hguard, Bool.false_eq_true, if_false, hn, if_true]
  · have hmsz : 0 < m * sz := Nat.mul_pos (by omega) (by omega)
    rcases h with ⟨h1, h2, h3⟩ | ⟨d, o, c, bs, opn, h1, h2, h3, h4, h5⟩
    · subst h1; subst h2; subst h3
      obtain ⟨v', A', k1, k2⟩ := hgrow A [] rfl rfl Ext.refl
      refine ⟨v', A', ?_, k2⟩
      rw [← k1]
      unfold appA
      simp only [hx, hguard, Bool.false_eq_true, if_false, hn, if_neg hm, hone, if_true]
      simp only [Nat.zero_add]
    · have hrd : AS.firstA A sz n v = some cs := by
        have := (SliceAt.read (.inr ⟨d, o, c, bs, opn, h1, h2, h3, h4, h5⟩)).firstA (Nat.le_refl n)
        rw [this, List.take_of_length_le]
        rw [h4, List.length_take]; omega
      subst h1
      rcases h5 with ⟨q1, q2, q3⟩ | ⟨q1, q2⟩ | ⟨q1, q2, q3, q4⟩
      · subst q1; subst q2
        have hold : bs.drop o = cs := by rw [h4, List.take_of_length_le]; rw [List.length_drop]; omega
        obtain ⟨v', A', k1, k2⟩ := hgrow (A.set d .dead) (bs.drop o) rfl hold (Ext.set ⟨o, n, OPEN, rfl⟩)
        refine ⟨v', A', ?_, k2⟩
        rw [← k1]
        unfold appA
        have hno : ¬ (o + (n + m) * opn ≤ o + n * opn) := by rw [Nat.add_mul]; omega
        simp only [hx, hguard, Bool.false_eq_true, if_false, hn, if_neg hm, if_neg (show ¬ OPEN < OPEN by omega), if_true, h2, bne_self_eq_false, hno, q3, decide_true, hone, Bool.and_self]
      · subst q1
        obtain ⟨v', A', k1, k2⟩ := hgrow A cs rfl rfl Ext.refl
        refine ⟨v', A', ?_, k2⟩
        rw [← k1]
        unfold appA
        simp only [hx, hguard, Bool.false_eq_true, if_false, hn, if_neg hm, if_pos q2, if_neg (show ¬ c + m ≤ c by omega), hrd]
      · subst q1; subst q2; subst q3
        have hold : bs.drop o = cs := by rw [h4, List.take_of_length_le]; rw [List.length_drop]; omega
        obtain ⟨v', A', k1, k2⟩ := hgrow (A.set d .dead) (bs.drop o) rfl hold (Ext.set ⟨o, 0, ENDCAP, rfl⟩)
        refine ⟨v', A', ?_, k2⟩
        rw [← k1]
        unfold appA
        simp only [hx, hguard, Bool.false_eq_true, if_false, hn, if_neg hm, if_neg (show ¬ ENDCAP < OPEN by decide), if_neg (show ¬ ENDCAP = OPEN by decide), if_true, h2, bne_self_eq_false, q4, decide_true, hone, Bool.and_self]

end Go.AS
end

section
namespace Go.AS
open Go
set_option linter.unusedSimpArgs false
set_option linter.unusedVariables false

/-! ## Regions that draw their order, with checks -/
section
variable {T : FTab} {fn : FuncId} {ctx : Option Nat}

def wD (T : FTab) (all : List AOper) (chk : List (Nat × Nat)) (l : List AOper) (tr : List St) (st : St) (Q : St → Prop) : Prop :=
  ∃ n tr2, runTrace (callN T n) l st = some tr2 ∧ chk.all (chkOk all (tr ++ tr2)) = true ∧ ∃ s, tr2.getLast? = some s ∧ Q s

theorem wD_nil {all : List AOper} {chk : List (Nat × Nat)} {tr : List St} {st : St} {Q : St → Prop} : wD T all chk [] tr st Q ↔ chk.all (chkOk all (tr ++ [st])) = true ∧ Q st := by
  constructor
  · rintro ⟨n, tr2, h1, h2, s, h3, h4⟩
    cases h1; cases h3
    exact ⟨h2, h4⟩
  · rintro ⟨h1, h2⟩
    exact ⟨0, [st], rfl, h1, st, rfl, h2⟩

theorem runTrace_ne {call : CallT} {l : List AOper} {st : St} {tr : List St} (h : runTrace call l st = some tr) : ∃ s, tr.getLast? = some s ∧ ∀ x, (x :: tr).getLast? = some s := by
  cases l with
  | nil => cases h; exact ⟨st, rfl, fun _ => rfl⟩
  | cons o l =>
    simp only [runTrace] at h
    split at h
    · split at h
      · rename_i l2 _
        cases h
        cases hl : l2.getLast? with
        | none =>
          have : l2 = [] := by simpa using hl
          subst this
          exact ⟨st, rfl, fun _ => rfl⟩
        | some s => exact ⟨s, by rw [List.getLast?_cons, hl]; rfl, fun _ => by rw [List.getLast?_cons, List.getLast?_cons, hl]; rfl⟩
      · cases h
    · cases h

theorem wD_cons {all : List AOper} {chk : List (Nat × Nat)} {o : AOper} {r : List AOper} {tr : List St} {st : St} {Q : St → Prop} (h : if wantedA st.env o.guard = true then wV T st.env st.A o.op (fun v A => wPut st o.dst v A fun st' => wD T all chk r (tr ++ [st]) st' Q) else wPut st o.dst undef st.A fun st' => wD T all chk r (tr ++ [st]) st' Q) :
    wD T all chk (o :: r) tr st Q := by
  have fin : ∀ (n : Nat) (st1 : St), runOp (callN T n) o st = some st1 → wD T all chk r (tr ++ [st]) st1 Q → wD T all chk (o :: r) tr st Q := by
    rintro n st1 h1 ⟨m, tr2, h2, h3, s, h4, h5⟩
    refine ⟨max n m, st :: tr2, ?_, by simpa using h3, s, ?_, h5⟩
    · simp only [runTrace, runOp_le (callN_le T (Nat.le_max_left n m)) h1, runTrace_le (callN_le T (Nat.le_max_right n m)) r h2]
    · obtain ⟨s', k1, k2⟩ := runTrace_ne h2
      rw [k1] at h4; cases h4
      exact k2 st
  by_cases hw : wantedA st.env o.guard = true
  · rw [if_pos hw] at h
    obtain ⟨n, v, A, h1, h2⟩ := h
    obtain ⟨st1, h3, h4⟩ := putE_wPut.2 h2
    refine fin n st1 ?_ h4
    unfold runOp
    rw [if_pos hw, h1]; exact h3
  · rw [if_neg hw] at h
    obtain ⟨st1, h3, h4⟩ := putE_wPut.2 h
    refine fin 0 st1 ?_ h4
    unfold runOp
    rw [if_neg hw]; exact h3

theorem wD_cons' {all : List AOper} {chk : List (Nat × Nat)} {o : AOper} {r : List AOper} {tr : List St} {st : St} {Q : St → Prop} : wD T all chk (o :: r) tr st Q ↔
    if wantedA st.env o.guard = true then wV T st.env st.A o.op (fun v A => wPut st o.dst v A fun st' => wD T all chk r (tr ++ [st]) st' Q) else wPut st o.dst undef st.A fun st' => wD T all chk r (tr ++ [st]) st' Q := by
  refine ⟨?_, wD_cons⟩
  rintro ⟨n, tr2, h1, h2, s, h3, h4⟩
  simp only [runTrace] at h1
  cases h5 : runOp (callN T n) o st with
  | none => rw [h5] at h1; cases h1
  | some st1 =>
    rw [h5] at h1
    simp only at h1
    cases h6 : runTrace (callN T n) r st1 with
    | none => rw [h6] at h1; cases h1
    | some tr3 =>
      rw [h6] at h1; cases h1
      obtain ⟨s', k1, k2⟩ := runTrace_ne h6
      rw [k2 st] at h3; cases h3
      have hw : wD T all chk r (tr ++ [st]) st1 Q := ⟨n, tr3, h6, by simpa using h2, _, k1, h4⟩
      unfold runOp at h5
      by_cases hg : wantedA st.env o.guard = true
      · rw [if_pos hg] at h5 ⊢
        cases h7 : opVal (callN T n) st.env st.A o.op with
        | none => rw [h7] at h5; cases h5
        | some q =>
          obtain ⟨v, A⟩ := q
          rw [h7] at h5
          exact ⟨n, v, A, h7, putE_wPut.1 ⟨st1, h5, hw⟩⟩
      · rw [if_neg hg] at h5 ⊢
        exact putE_wPut.1 ⟨st1, h5, hw⟩

theorem wC_opsD_chk {l : List AOper} {chk : List (Nat × Nat)} {st : St} {Q : AExit → St → Prop} (h : wD T l chk l [] st (Q .normal)) : wC T fn ctx (.opsD l chk) st Q := by
  obtain ⟨n, tr2, h1, h2, s, h3, h4⟩ := h
  refine ⟨n, .normal, s, ?_, h4⟩
  have h2' : chk.all (chkOk l tr2) = true := h2
  simp only [execC, h1, h2', if_true, h3, Option.map_some]

end
/-! ## More of slices -/
theorem Ext.trans2 {S S' : Nat → Prop} {A A1 A2 : AHeap} (h : Ext S A A1) (k : Ext S' A1 A2) (hs : ∀ b, b < A.size → S' b → S b) : Ext S A A2 :=
  ⟨Nat.le_trans h.size k.size, fun b hb hn => by rw [k.keep b (Nat.lt_of_lt_of_le hb h.size) (fun q => hn (hs b hb q)), h.keep b hb hn]⟩
/-- The cells of an element, as they lie in their block. -/
theorem ReadAt.elem2 {A : AHeap} {sz n i : Nat} {v : Value} {cs : List Value} (h : ReadAt A sz v n cs) (hi : i < n) : ∃ d o c bs ro opn, v = .slice (some ⟨d, o, none⟩) n c ∧ A.get d = some (.cells bs ro opn) ∧ o + i * sz + sz ≤ bs.length ∧ (bs.drop (o + i * sz)).take sz = (cs.drop (i * sz)).take sz := by
  have hle : i * sz + sz ≤ n * sz := by
    have := Nat.mul_le_mul_right sz (show i + 1 ≤ n by omega)
    rwa [Nat.add_mul, Nat.one_mul] at this
  rcases h with ⟨h1, h2, h3⟩ | ⟨d, o, c, bs, ro, opn, h1, h2, h3, h4, h5⟩ | ⟨_, _, _, _, h2, _⟩
  case inr.inr => omega
  · omega
  · refine ⟨d, o, c, bs, ro, opn, h1, h2, by omega, ?_⟩
    rw [h4, List.drop_take, List.take_take, List.drop_drop]
    congr 1; omega

theorem bnd_nat (k : IntKind) (x y : Nat) (h : x ≤ y) : bnd (.int k (x : Int)) y = some x := by
  simp [bnd, h]

/-- A slice's rest, with its capacity at its end: x[l:len(x):len(x)]. -/
theorem SliceAt.cut3 {A : AHeap} {sz n l : Nat} {v : Value} {cs : List Value} {k1 k2 k3 : IntKind} (h : SliceAt A sz v n cs) (hsz : sz ≠ 0) (hl : l ≤ n) (hn : n < 1000000) :
    ∃ v', sliceVA A sz v (some (.int k1 (l : Int))) (some (.int k2 (n : Int))) (some (.int k3 (n : Int))) = some v' ∧ SliceAt A sz v' (n - l) (cs.drop (l * sz)) ∧ ∀ j, Own v' j → Own v j := by
  have hb : ∀ cap, n ≤ cap → bndsA n cap (some (.int k1 (l : Int))) (some (.int k2 (n : Int))) (some (.int k3 (n : Int))) = some (l, n, n) := fun cap hc => by
    delta bndsA; simp [bnd_nat, hc, hl]
  have e1 : n - l < OPEN := Nat.lt_of_lt_of_le (show n - l < 1000000 by omega) (by decide)
  have e2 : ¬ OPEN ≤ n - l := by omega
  have hm : l * sz ≤ n * sz := Nat.mul_le_mul_right _ hl
  have hm2 : (n - l) * sz = n * sz - l * sz := by rw [Nat.sub_mul]
  rcases h with ⟨h1, h2, h3⟩ | ⟨d, o, c, bs, opn, h1, h2, h3, h4, h5⟩
  · subst h1; subst h2; subst h3
    have : l = 0 := by omega
    subst this
    exact ⟨_, by simp only [sliceVA, hb 0 (Nat.le_refl _)], .inl ⟨rfl, rfl, by simp⟩, fun j hj => hj⟩
  · subst h1
    have fin : SliceAt A sz (.slice (some ⟨d, if n = l then o else o + l * sz, none⟩) (n - l) (n - l)) (n - l) (cs.drop (l * sz)) := by
      refine .inr ⟨d, _, n - l, bs, opn, rfl, h2, ?_, ?_, .inr (.inl ⟨rfl, e1⟩)⟩
      · split <;> omega
      · split
        · rename_i q; subst q
          rw [h4, List.drop_take, Nat.sub_self]; simp
        · rw [h4, List.drop_take, List.drop_drop, hm2]
    have own : ∀ j, Own (.slice (some ⟨d, if n = l then o else o + l * sz, none⟩) (n - l) (n - l)) j → Own (.slice (some ⟨d, o, none⟩) n c) j := by
      rintro j ⟨o', n', c', q⟩; cases q; exact ⟨_, _, _, rfl⟩
    rcases h5 with ⟨q1, q2, q3⟩ | ⟨q1, q2⟩ | ⟨q1, q2, q3, q4⟩
    · subst q1; subst q2
      refine ⟨_, ?_, fin, own⟩
      simp only [sliceVA, if_true, h2, hb n (Nat.le_refl _), if_neg e2]
      rw [if_neg (by simp [hsz])]
    · subst q1
      refine ⟨_, ?_, fin, own⟩
      have c1 : c ≠ OPEN := by omega
      have c2 : c ≠ ENDCAP := fun q => by rw [q] at q2; exact absurd q2 (by decide)
      simp only [sliceVA, if_neg c1, if_neg c2, if_neg (show ¬ OPEN ≤ c by omega), hb c (Nat.le_refl _), if_neg e2]
    · subst q1; subst q2
      have : l = 0 := by omega
      subst this
      have hb0 := hb 0 (Nat.le_refl _)
      refine ⟨.slice (some ⟨d, o, none⟩) 0 ENDCAP, ?_, .inr ⟨d, o, ENDCAP, bs, opn, rfl, h2, h3, by simpa using h4, .inr (.inr ⟨rfl, rfl, q3, q4⟩)⟩, fun j hj => hj⟩
      simp only [sliceVA, if_neg (show ¬ ENDCAP = OPEN by decide), if_true, hb0]

end Go.AS
end

section
namespace Go.AS
open Go
universe u
set_option linter.unusedSimpArgs false
set_option linter.unusedVariables false

/-! ## What follows is not looked into before its turn -/
theorem get_alloc_top {A : AHeap} {x : ABlk} {l : Nat} (h : l = A.size) : (A.alloc x).get l = some x := by rw [AHeap.get_alloc, if_pos h]

/-- A value, marked: so that a congruence counts as taken. -/
def idS {α : Sort u} (x : α) : α := x
@[simp ↓] theorem idS_eq {α : Sort u} (x : α) : idS x = x := Eq.trans rfl rfl

def idP {α : Sort u} (x : α) : α := x
@[simp] theorem idP_eq {α : Sort u} (x : α) : idP x = x := Eq.trans rfl rfl

section
variable {T : FTab} {fn : FuncId} {ctx : Option Nat}

/-- A state, closed. -/
def Bx (_ : Nat) (s : St) : St := s
@[congr] theorem Bx_congr {u u' : Nat} {s : St} (h : idS (idP u) = u') : Bx u s = Bx u' s := by rw [← h, idS_eq, idP_eq]

theorem wL_some {v : Value} {A : AHeap} {Q : Value → AHeap → Prop} : wL (some (v, A)) Q ↔ Q v A := Iff.rfl
theorem wL_none {Q : Value → AHeap → Prop} : wL none Q ↔ False := Iff.rfl
theorem wB_true {p q : Prop} : wB (.bool true) p q ↔ p := by simp [wB]
theorem wB_false {p q : Prop} : wB (.bool false) p q ↔ q := by simp [wB]
theorem wO_cons' {dst : Option Nat} {guard : Option (Nat × Bool)} {op : AOp} {r : List AOper} {st : St} {Q : St → Prop} : wO T (⟨dst, guard, op⟩ :: r) st Q ↔
    wB (.bool (wantedA st.env guard)) (wV T st.env st.A op (fun v A => wPut st dst v A fun st' => wO T r st' Q)) (wPut st dst undef st.A fun st' => wO T r st' Q) := wO_cons
theorem wD_cons'' {all : List AOper} {chk : List (Nat × Nat)} {dst : Option Nat} {guard : Option (Nat × Bool)} {op : AOp} {r : List AOper} {tr : List St} {st : St} {Q : St → Prop} : wD T all chk (⟨dst, guard, op⟩ :: r) tr st Q ↔
    wB (.bool (wantedA st.env guard)) (wV T st.env st.A op (fun v A => wPut st dst v A fun st' => wD T all chk r (tr ++ [Bx 0 st]) st' Q)) (wPut st dst undef st.A fun st' => wD T all chk r (tr ++ [Bx 0 st]) st' Q) := wD_cons'

@[congr] theorem wC_congr {c : ACode} {st st' : St} {Q : AExit → St → Prop} (h : idS (idP st) = st') : wC T fn ctx c st Q = wC T fn ctx c st' Q := by rw [← h, idS_eq, idP_eq]
@[congr] theorem wO_congr {l : List AOper} {st st' : St} {Q : St → Prop} (h : idS (idP st) = st') : wO T l st Q = wO T l st' Q := by rw [← h, idS_eq, idP_eq]
@[congr] theorem wV_congr {e e' : Env} {A A' : AHeap} {op : AOp} {Q : Value → AHeap → Prop} (h : idS (idP e) = e') (h2 : idS (idP A) = A') : wV T e A op Q = wV T e' A' op Q := by rw [← h, idS_eq, idP_eq, ← h2, idS_eq, idP_eq]
@[congr] theorem wL_congr {r r' : Option (Value × AHeap)} {Q : Value → AHeap → Prop} (h : idS (idP r) = r') : wL r Q = wL r' Q := by rw [← h, idS_eq, idP_eq]
@[congr] theorem wB_congr {v v' : Value} {p q : Prop} (h : idS (idP v) = v') : wB v p q = wB v' p q := by rw [← h, idS_eq, idP_eq]
@[congr] theorem wF_congr {f f' : Value} {args args' : List Value} {A A' : AHeap} {Q : Value → AHeap → Prop} (h : idS (idP f) = f') (h1 : idS (idP args) = args') (h2 : idS (idP A) = A') : wF T f args A Q = wF T f' args' A' Q := by rw [← h, idS_eq, idP_eq, ← h1, idS_eq, idP_eq, ← h2, idS_eq, idP_eq]
@[congr] theorem wPut_congr {st st' : St} {dst : Option Nat} {v v' : Value} {A A' : AHeap} {K : St → Prop} (h : idS (idP st) = st') (h1 : idS (idP v) = v') (h2 : idS (idP A) = A') : wPut st dst v A K = wPut st' dst v' A' K := by rw [← h, idS_eq, idP_eq, ← h1, idS_eq, idP_eq, ← h2, idS_eq, idP_eq]
@[congr] theorem wD_congr {all l : List AOper} {chk : List (Nat × Nat)} {tr : List St} {st st' : St} {Q : St → Prop} (h : idS (idP st) = st') : wD T all chk l tr st Q = wD T all chk l tr st' Q := by rw [← h, idS_eq, idP_eq]
/-- The end of a region that draws its order: its checks, and what follows. -/
def wE (all : List AOper) (chk : List (Nat × Nat)) (tr : List St) (st : St) (Q : St → Prop) : Prop := chk.all (chkOk all (tr ++ [st])) = true ∧ Q st
theorem wD_nil' {all : List AOper} {chk : List (Nat × Nat)} {tr : List St} {st : St} {Q : St → Prop} : wD T all chk [] tr st Q ↔ wE all chk tr st Q := wD_nil
@[congr] theorem wE_congr {all : List AOper} {chk : List (Nat × Nat)} {tr : List St} {st st' : St} {Q : St → Prop} (h : idS (idP st) = st') : wE all chk tr st Q = wE all chk tr st' Q := by rw [← h, idS_eq, idP_eq]
theorem wE_intro {all : List AOper} {chk : List (Nat × Nat)} {tr : List St} {st : St} {Q : St → Prop} (h : chk.all (chkOk all (tr ++ [Bx 0 st])) = true) (hq : Q st) : wE all chk tr st Q := ⟨h, hq⟩
@[congr] theorem thenC_congr {K : St → Prop} {Q : AExit → St → Prop} {x x' : AExit} {st st' : St} (h : idS (idP st) = st') (h1 : idS (idP x) = x') : thenC K Q x st = thenC K Q x' st' := by rw [← h, idS_eq, idP_eq, ← h1, idS_eq, idP_eq]
@[congr] theorem blockC_congr {id : Nat} {Q : AExit → St → Prop} {x x' : AExit} {st st' : St} (h : idS (idP st) = st') (h1 : idS (idP x) = x') : blockC id Q x st = blockC id Q x' st' := by rw [← h, idS_eq, idP_eq, ← h1, idS_eq, idP_eq]
@[congr] theorem endF_congr {rs : List (Nat ⊕ (Nat × Nat × Bool))} {Q : Value → AHeap → Prop} {x x' : AExit} {st st' : St} (h : idS (idP st) = st') (h1 : idS (idP x) = x') : endF rs Q x st = endF rs Q x' st' := by rw [← h, idS_eq, idP_eq, ← h1, idS_eq, idP_eq]
@[congr] theorem endY_congr {l : Nat} {Q : Value → AHeap → Prop} {x x' : AExit} {st st' : St} (h : idS (idP st) = st') (h1 : idS (idP x) = x') : endY l Q x st = endY l Q x' st' := by rw [← h, idS_eq, idP_eq, ← h1, idS_eq, idP_eq]
@[congr] theorem midY_congr {f : FuncId} {l : Nat} {body : ACode} {Q : Value → AHeap → Prop} {st st' : St} (h : idS (idP st) = st') : midY T f l body Q st = midY T f l body Q st' := by rw [← h, idS_eq, idP_eq]
@[congr] theorem endR_congr {l : Nat} {st st' : St} {Q : AExit → St → Prop} {A A' : AHeap} (h : idS (idP st) = st') (h1 : idS (idP A) = A') : endR l st Q A = endR l st' Q A' := by rw [← h, idS_eq, idP_eq, ← h1, idS_eq, idP_eq]
end
end Go.AS
end

section
namespace Go.AS
open Go Go.RowKit
set_option linter.unusedSimpArgs false
set_option linter.unusedVariables false

/-! ## Arguments: from the machine's to ours -/

/-- What an element's cell may be. -/
inductive Prim where
  | int (k : IntKind)
  | str
  | bool

def Prim.ok : Prim → Value → Prop
  | .int k, v => ∃ n, v = .int k n ∧ (Lit.int k n).wf = true
  | .str, v => ∃ s, v = .string s ∧ s.size ≤ maxLen
  | .bool, v => ∃ b, v = .bool b

def Oks : List Prim → List Value → Prop
  | [], [] => True
  | p :: ps, v :: vs => p.ok v ∧ Oks ps vs
  | _, _ => False

theorem Oks.length : ∀ {ps : List Prim} {vs : List Value}, Oks ps vs → vs.length = ps.length
  | [], [], _ => rfl
  | _ :: _, _ :: _, h => by simp [Oks.length h.2]
  | [], _ :: _, h => h.elim
  | _ :: _, [], h => h.elim

theorem oks_of : ∀ {ps : List Prim} {vs : List Value}, vs.length = ps.length → (∀ (i : Nat) p v, ps[i]? = some p → vs[i]? = some v → p.ok v) → Oks ps vs
  | [], [], _, _ => trivial
  | p :: ps, v :: vs, h, k => ⟨k 0 p v rfl rfl, oks_of (by simpa using h) fun i p v a b => k (i + 1) p v (by simpa using a) (by simpa using b)⟩
  | [], _ :: _, h, _ => by simp at h
  | _ :: _, [], h, _ => by simp at h

inductive Plain : Value → Prop
  | bool (b : Bool) : Plain (.bool b)
  | int (k : IntKind) (n : Int) : Plain (.int k n)
  | string (s : ByteArray) : Plain (.string s)

theorem Plain.vr {ρ : Ren} {v : Value} (h : Plain v) : VR ρ v v := by
  cases h
  · exact .bool _
  · exact .int _ _
  · exact .string _

theorem Plain.vrs {ρ : Ren} : ∀ {l : List Value}, (∀ v ∈ l, Plain v) → VRs ρ l l
  | [], _ => .nil
  | v :: l, h => .cons _ _ _ _ (h v (by simp)).vr (Plain.vrs fun x hx => h x (by simp [hx]))

theorem Prim.plain {p : Prim} {v : Value} (h : p.ok v) : Plain v := by
  cases p with
  | int k => obtain ⟨n, rfl, _⟩ := h; exact .int k n
  | str => obtain ⟨s, rfl, _⟩ := h; exact .string s
  | bool => obtain ⟨b, rfl⟩ := h; exact .bool b

theorem Oks.plain : ∀ {ps : List Prim} {vs : List Value}, Oks ps vs → ∀ v ∈ vs, Plain v
  | [], [], _, v, hv => by simp at hv
  | p :: ps, w :: vs, h, v, hv => by
    rcases List.mem_cons.1 hv with q | q
    · subst q; exact Prim.plain h.1
    · exact Oks.plain h.2 v q
  | [], _ :: _, h, _, _ => h.elim
  | _ :: _, [], h, _, _ => h.elim

/-- The cells of an element that the row's reading bears. -/
def ElemOk (P : Program) (e : TypeId) (ps : List Prim) : Prop := P.cellsOf e = ps.length ∧
  ∀ {H : Type} (enc : TypeId × Value → H) (w : World) (base : Nat) (sp : Nat → Bool) (held : Bool) (fuel : Nat) (cs : List Value) (x : DataW H × List MemPlace), DataW.trod enc P w base sp held fuel e cs = some x → Oks ps cs

theorem elemOk_string {P : Program} {e : TypeId} (he : P.underlying e = some .string) (hc : P.cellsOf e = 1) : ElemOk P e [.str] :=
  ⟨hc, fun enc w base sp held fuel cs x h => by obtain ⟨s, rfl, _, hs⟩ := DataW.trod_string he h; exact ⟨⟨s, rfl, hs⟩, trivial⟩⟩
theorem elemOk_int {P : Program} {e : TypeId} {k : IntKind} (he : P.underlying e = some (.int k)) (hc : P.cellsOf e = 1) : ElemOk P e [.int k] :=
  ⟨hc, fun enc w base sp held fuel cs x h => by obtain ⟨n, rfl, _, hs⟩ := DataW.trod_int he h; exact ⟨⟨n, rfl, hs⟩, trivial⟩⟩
theorem elemOk_bool {P : Program} {e : TypeId} (he : P.underlying e = some .bool) (hc : P.cellsOf e = 1) : ElemOk P e [.bool] :=
  ⟨hc, fun enc w base sp held fuel cs x h => by obtain ⟨b, rfl, _⟩ := DataW.trod_bool he h; exact ⟨⟨b, rfl⟩, trivial⟩⟩

/-- A struct of such fields, one cell each. -/
theorem elemOk_struct {P : Program} {e : TypeId} {fs : Array Field} {ps : List Prim} (he : P.underlying e = some (.struct fs)) (hc : P.cellsOf e = ps.length)
    (hf : ∀ (i : Nat) p, ps[i]? = some p → ∃ f, fs[i]? = some f ∧ f.offset = i ∧ ElemOk P f.type [p]) : ElemOk P e ps := by
  refine ⟨hc, fun enc w base sp held fuel cs x h => ?_⟩
  obtain ⟨xs, n, _, _, hl, hx, hi⟩ := DataW.trod_struct he h
  refine oks_of (by omega) fun i p v hp hv => ?_
  obtain ⟨f, h1, h2, h3⟩ := hf i p hp
  have hlt : i < xs.length := by rw [hx]; exact (Array.getElem?_eq_some_iff.1 h1).1
  have h4 := hi i f h1
  rw [List.getElem?_eq_getElem hlt] at h4
  have h5 := h3.2 enc w base sp held n _ _ h4
  rw [h2, h3.1] at h5
  have e1 : (cs.drop i).take [p].length = [v] := by
    obtain ⟨hlt2, hv2⟩ := List.getElem?_eq_some_iff.1 hv
    rw [List.drop_eq_getElem_cons hlt2, hv2]; rfl
  rw [e1] at h5
  exact h5.1

/-- A row's argument that is a slice: its cells. -/
def RowC (w : World) (vc : Value) (n sz : Nat) (cs : List Value) : Prop :=
  (vc = .slice none 0 0 ∧ n = 0 ∧ cs = []) ∨
  ∃ x cap, vc = .slice (some x) n cap ∧ x.spot = none ∧ n ≤ cap ∧ cap ≤ maxLen ∧ cs.length = n * sz ∧ (∀ v ∈ cs, Plain v) ∧ ∀ i v, cs[i]? = some v → w.cell? (x.add i) = some v

theorem okWide_spot {P : Program} {w : World} {r : Reach} {base : Nat} {t e : TypeId} {a : Addr} {len cap : Nat} (ht : P.underlying t = some (.slice e)) (h : Value.okWide P w r base t (.slice (some a) len cap)) : a.spot = none := by
  simp only [Value.okWide, ht, Cell.okWide, Cell.ok] at h
  exact h.2.2.2.1

theorem add_add {x : Addr} {i j : Nat} (h : x.spot = none) : (x.add i).add j = x.add (i + j) := by
  obtain ⟨b, o, s⟩ := x
  cases h
  unfold Addr.add
  by_cases hi : i = 0
  · subst hi; simp
  · by_cases hj : j = 0
    · subst hj; simp
    · rw [if_neg hi, if_neg hj, if_neg (by omega)]; simp; omega

theorem flat_len {ps : List Prim} : ∀ {rows : List (List Value)}, (∀ r ∈ rows, Oks ps r) → rows.flatten.length = rows.length * ps.length
  | [], _ => by simp
  | r :: rows, h => by
    have h1 := Oks.length (h r (by simp))
    have h2 := flat_len (rows := rows) fun x hx => h x (by simp [hx])
    rw [List.flatten_cons, List.length_append, h1, h2, List.length_cons, Nat.succ_mul]; omega

/-- A slice of such elements, opened: its elements' cells, row by row. -/
theorem open_rows {H : Type} {enc : TypeId × Value → H} {P : Program} {w : World} {b0 : Nat} {r : Reach} {sp : Nat → Bool} {held : Bool} {base : Nat} {t e : TypeId} {ps : List Prim} {v : Value} {d : DataW H} {q : List MemPlace}
    (ht : P.underlying t = some (.slice e)) (he : ElemOk P e ps) (hval : Value.okWide P w r b0 t v) (h : DataW.Trod enc P w base sp held t v d q) :
    ∃ rows : List (List Value), (∀ r ∈ rows, Oks ps r) ∧ RowC w v rows.length ps.length rows.flatten := by
  obtain ⟨a, len, cap, rfl⟩ := WideShapes.okWide_slice ht hval
  obtain ⟨fuel, hf⟩ := h
  rcases DataW.trod_slice ht hf with ⟨hcs, _⟩ | ⟨x, len', cap', elems, rest, n, _, hcs, _, hb, hl, hm, hlen, hel, _⟩
  · simp [Value.cells] at hcs
    obtain ⟨rfl, rfl, rfl⟩ := hcs
    exact ⟨[], by simp, .inl ⟨rfl, rfl, rfl⟩⟩
  · simp [Value.cells] at hcs
    obtain ⟨rfl, rfl, rfl⟩ := hcs
    have hs := okWide_spot ht hval
    have key : ∀ k, k ≤ len → ∃ rows : List (List Value), rows.length = k ∧ (∀ r ∈ rows, Oks ps r) ∧ ∀ i v, rows.flatten[i]? = some v → w.cell? (x.add i) = some v := by
      intro k
      induction k with
      | zero => intro _; exact ⟨[], rfl, by simp, by simp⟩
      | succ k ih =>
        intro hk
        obtain ⟨rows, r1, r2, r3⟩ := ih (by omega)
        have h1 := hel k (by omega)
        have hlt : k < elems.length := by omega
        rw [List.getElem?_eq_getElem hlt, Option.bind_eq_some_iff] at h1
        obtain ⟨cs, h2, h3⟩ := h1
        have h4 := he.2 enc w base sp held n cs _ h3
        obtain ⟨_, h5, h6⟩ := World.cells?_some h2
        have fl : rows.flatten.length = k * ps.length := by rw [flat_len r2, r1]
        refine ⟨rows ++ [cs], by simp [r1], fun r hr => ?_, fun i v hv => ?_⟩
        · rcases List.mem_append.1 hr with q | q
          · exact r2 r q
          · rw [List.mem_singleton] at q; subst q; exact h4
        · rw [List.flatten_append] at hv
          simp only [List.flatten_cons, List.flatten_nil, List.append_nil] at hv
          by_cases hi : i < rows.flatten.length
          · rw [List.getElem?_append_left hi] at hv; exact r3 i v hv
          · rw [List.getElem?_append_right (by omega)] at hv
            have hlt2 : i - rows.flatten.length < cs.length := (List.getElem?_eq_some_iff.1 hv).1
            have h7 := h6 (i - rows.flatten.length) (by omega)
            rw [hv, add_add hs, he.1, fl] at h7
            rw [show k * ps.length + (i - k * ps.length) = i by rw [fl] at hi; omega] at h7
            exact h7
    obtain ⟨rows, r1, r2, r3⟩ := key len (Nat.le_refl _)
    refine ⟨rows, r2, .inr ⟨x, cap, by rw [r1], hs, by omega, hm, ?_, ?_, r3⟩⟩
    · exact flat_len r2
    · intro v hv
      obtain ⟨r, hr, hv⟩ := List.mem_flatten.1 hv
      exact (r2 r hr).plain v hv

/-- Rows, read as what they stand for. -/
theorem rows_as {α : Type} {ps : List Prim} (g : α → List Value) (good : α → Prop) (dec : ∀ r, Oks ps r → ∃ x, r = g x ∧ good x) : ∀ (rows : List (List Value)), (∀ r ∈ rows, Oks ps r) → ∃ l : List α, l.length = rows.length ∧ rows.flatten = l.flatMap g ∧ ∀ x ∈ l, good x
  | [], _ => ⟨[], rfl, rfl, by simp⟩
  | r :: rows, h => by
    obtain ⟨x, hx, hg⟩ := dec r (h r (by simp))
    obtain ⟨l, h1, h2, h3⟩ := rows_as g good dec rows fun y hy => h y (by simp [hy])
    refine ⟨x :: l, by simp [h1], by simp [h2, hx], fun y hy => ?_⟩
    rcases List.mem_cons.1 hy with q | q
    · subst q; exact hg
    · exact h3 y q

/-! ## The call's own memory -/
structure Args (P : Program) (w : World) (ρ : Ren) (A : AHeap) (vs vcs : List Value) : Prop where
  rel : HRel (CompOf P) ρ A w.heap
  pas : ∀ b, passive (A.get b)
  free : ∀ b, A.size ≤ b → ρ b = none
  vrs : VRs ρ vs vcs

def A00 : AHeap := ⟨8, .leaf⟩

theorem Args.nil {P : Program} {w : World} : Args P w ren0 A00 [] [] where
  rel := ⟨fun b e x he hx => (by have : A00.get b = none := (by unfold AHeap.get; split <;> rfl); rw [this] at hx; cases hx), fun b b' e e' x x' _ he _ hx => (by have : A00.get b = none := (by unfold AHeap.get; split <;> rfl); rw [this] at hx; cases hx), ren0_glob⟩
  pas := fun b => by
    have : A00.get b = none := by unfold AHeap.get; split <;> rfl
    rw [this]; trivial
  free := fun b hb => ren0_free b hb
  vrs := .nil

/-- The memory at a call's beginning, where errors.errorType is known. -/
def A0E (tt te : Nat) : AHeap := A00.set 0 (.cells [.iface tt (.agg ⟨[.pointer (some ⟨1, te, none⟩)]⟩)] true 0)
theorem A0E_get (tt te b : Nat) : (A0E tt te).get b = if b = 0 then some (.cells [.iface tt (.agg ⟨[.pointer (some ⟨1, te, none⟩)]⟩)] true 0) else none := by
  have h0 : ∀ b, A00.get b = none := fun b => by unfold AHeap.get; split <;> rfl
  unfold A0E
  rw [AHeap.get_set _ _ _ _ (by decide), h0]
theorem Args.errT {P : Program} {w : World} {tt te : Nat} (hg : w.cell? ⟨0, 0, none⟩ = some (.iface tt (.agg #[.pointer (some ⟨1, te, none⟩)]))) : Args P w ren0 (A0E tt te) [] [] where
  rel := by
    refine ⟨fun b e x he hx => ?_, fun b b' e e' x x' hne _ _ hx hx' _ _ => ?_, ren0_glob⟩
    · rw [A0E_get] at hx
      split at hx
      · rename_i hb
        subst hb
        cases hx
        have : e = ⟨0, 0, 0, 0⟩ := by
          have := ren0_glob 0 (by decide)
          rw [this] at he; cases he; rfl
        subst this
        unfold World.cell? at hg
        split at hg
        case h_2 => cases hg
        rename_i cc el fz hcc
        refine ⟨cc, el, fz.1, fz.2, hcc, ?_, ?_, (fun q => by cases q), (fun q => absurd rfl q)⟩
        · have := (Array.getElem?_eq_some_iff.1 hg).1
          show 0 + 1 ≤ cc.size
          simp only at this; omega
        · intro i v hv
          cases i with
          | zero =>
            cases hv
            refine ⟨_, hg, .iface _ _ _ (.agg _ _ (.cons _ _ _ _ ?_ .nil))⟩
            have := VR.ptr (ρ := ren0) 1 te ⟨1, 0, 0, 0⟩ (ren0_glob 1 (by decide))
            simpa using this
          | succ i => cases hv
      · cases hx
    · rw [A0E_get] at hx hx'
      split at hx <;> split at hx'
      · omega
      · cases hx'
      · cases hx
      · cases hx
  pas := fun b => by
    rw [A0E_get]
    split <;> trivial
  free := fun b hb => ren0_free b hb
  vrs := .nil

theorem Args.plain {P : Program} {w : World} {ρ : Ren} {A : AHeap} {vs vcs : List Value} (h : Args P w ρ A vs vcs) {v : Value} (hv : Plain v) : Args P w ρ A (vs ++ [v]) (vcs ++ [v]) :=
  ⟨h.rel, h.pas, h.free, h.vrs.append (.cons _ _ _ _ hv.vr .nil)⟩

theorem Args.agg {P : Program} {w : World} {ρ : Ren} {A : AHeap} {vs vcs : List Value} (h : Args P w ρ A vs vcs) {l : List Value} (hv : ∀ v ∈ l, Plain v) : Args P w ρ A (vs ++ [.agg ⟨l⟩]) (vcs ++ [.agg ⟨l⟩]) :=
  ⟨h.rel, h.pas, h.free, h.vrs.append (.cons _ _ _ _ (.agg _ _ (Plain.vrs hv)) .nil)⟩

/-- An argument's own slice. -/
def ArgV (v : Value) (n : Nat) : Prop := (v = .slice none 0 0 ∧ n = 0) ∨ ∃ d c, v = .slice (some ⟨d, 0, none⟩) n c ∧ n ≤ c ∧ c < OPEN

theorem ArgV.front {A : AHeap} {sz n l : Nat} {v : Value} {cs : List Value} {k2 : IntKind} (h : ArgV v n) (hr : ReadAt A sz v n cs) (hl : l ≤ n) :
    ∃ v', sliceVA A sz v none (some (.int k2 (l : Int))) none = some v' ∧ ReadAt A sz v' l (cs.take (l * sz)) ∧ ∀ j, Own v' j → Own v j := by
  have hb : ∀ cap, l ≤ cap → bndsA n cap none (some (.int k2 (l : Int))) none = some (0, l, cap) := fun cap hc => by
    delta bndsA; simp [bnd_nat, hc]
  have hm : l * sz ≤ n * sz := Nat.mul_le_mul_right _ hl
  rcases h with ⟨h1, h2⟩ | ⟨d, c, h1, h2, h3⟩
  · subst h1; subst h2
    have : l = 0 := by omega
    subst this
    exact ⟨_, by simp only [sliceVA, hb 0 (Nat.le_refl _)], .inl ⟨rfl, rfl, by simp⟩, fun j hj => hj⟩
  · subst h1
    have c1 : c ≠ OPEN := by omega
    have c2 : c ≠ ENDCAP := fun q => by rw [q] at h3; exact absurd h3 (by decide)
    refine ⟨.slice (some ⟨d, 0, none⟩) l c, ?_, ?_, ?_⟩
    · simp only [sliceVA, if_neg c1, if_neg c2, if_neg (show ¬ OPEN ≤ c by omega), hb c (Nat.le_trans hl h2), Nat.sub_zero]
      simp
    · rcases hr with ⟨q, _⟩ | ⟨d', o, c', bs, ro, opn, q1, q2, q3, q4, q5⟩ | ⟨d', o, c', q1, q2, q3⟩
      · cases q
      · cases q1
        exact .inr (.inl ⟨d, 0, c, bs, ro, opn, rfl, q2, by omega, by rw [q4, List.take_take, Nat.min_eq_left hm], fun q => absurd q c2⟩)
      · have : l = 0 := by omega
        subst this
        exact .inr (.inr ⟨d, 0, c, rfl, rfl, by simp⟩)
    · rintro j ⟨o', n', c', q⟩; cases q; exact ⟨_, _, _, rfl⟩

theorem Args.rowV {P : Program} {w : World} {ρ : Ren} {A : AHeap} {vs vcs : List Value} (h : Args P w ρ A vs vcs) {vc : Value} {n sz : Nat} {cs : List Value} (hr : RowC w vc n sz cs) (hsz : 0 < sz) :
    ∃ ρ' A' v, Args P w ρ' A' (vs ++ [v]) (vcs ++ [vc]) ∧ Ext NoB A A' ∧ ReadAt A' sz v n cs ∧ (∀ j, Own v j → j < A'.size) ∧ ArgV v n := by
  rcases hr with ⟨h1, h2, h3⟩ | ⟨x, cap, h1, h2, h3, h4, h5, h6, h7⟩
  · subst h1; subst h2; subst h3
    exact ⟨ρ, A, .slice none 0 0, ⟨h.rel, h.pas, h.free, h.vrs.append (.cons _ _ _ _ .nils .nil)⟩, Ext.refl, .inl ⟨rfl, rfl, rfl⟩, (fun j ⟨_, _, _, q⟩ => by cases q), .inl ⟨rfl, rfl⟩⟩
  · obtain ⟨xb, xo, xs⟩ := x
    simp only at h2
    subst h2
    let blk : ABlk := if cs = [] then .dead else .cells cs true 0
    let ρ' : Ren := fun b => if b = A.size then some ⟨xb, xo, 0, 0⟩ else ρ b
    have hpas : passive (some blk) := by
      show passive (some (if cs = [] then ABlk.dead else ABlk.cells cs true 0))
      split
      · trivial
      · trivial
    have hle : Ren.le ρ ρ' := fun b e he => by
      show (if b = A.size then _ else _) = _
      rw [if_neg fun q => by rw [h.free b (by omega)] at he; cases he]; exact he
    have hpas' : ∀ b, passive ((A.alloc blk).get b) := fun b => by
      rw [AHeap.get_alloc]
      split
      · exact hpas
      · exact h.pas b
    have hcap : cap < OPEN := Nat.lt_of_le_of_lt h4 (by decide)
    refine ⟨ρ', A.alloc blk, .slice (some ⟨A.size, 0, none⟩) n cap, ⟨⟨?_, ?_, fun g hg => hle _ _ (h.rel.glob g hg)⟩, hpas', ?_, (h.vrs.mono hle).append (.cons _ _ _ _ ?_ .nil)⟩, Ext.alloc, ?_, ?_, .inr ⟨A.size, cap, rfl, h3, hcap⟩⟩
    · intro b e y he hy
      rw [AHeap.get_alloc] at hy
      by_cases hb : b = A.size
      · rw [if_pos hb] at hy
        cases hy
        have he' : (if b = A.size then some (⟨xb, xo, 0, 0⟩ : REnt) else ρ b) = some e := he
        rw [if_pos hb] at he'
        cases he'
        show BRel (CompOf P) ρ' _ _ (if cs = [] then ABlk.dead else ABlk.cells cs true 0)
        split
        · trivial
        · rename_i hne
          have hpos : 0 < cs.length := List.length_pos_iff.2 hne
          have h0 := h7 0 cs[0] (List.getElem?_eq_getElem hpos)
          have e0 : (⟨xb, xo, none⟩ : Addr).add 0 = ⟨xb, xo, none⟩ := rfl
          rw [e0] at h0
          unfold World.cell? at h0
          split at h0
          case h_2 => cases h0
          rename_i cc el fz hcc
          have hcell : ∀ i v, cs[i]? = some v → cc[xo + i]? = some v := by
            intro i v hv
            have := h7 i v hv
            unfold World.cell? Addr.add at this
            by_cases hi : i = 0
            · subst hi
              simp only [if_true, hcc] at this
              simpa using this
            · simp only [if_neg hi, hcc] at this
              simpa using this
          refine ⟨cc, el, fz.1, fz.2, hcc, ?_, ?_, (fun q => by cases q), (fun q => absurd rfl q)⟩
          · have hlast := hcell (cs.length - 1) cs[cs.length - 1] (List.getElem?_eq_getElem (by omega))
            have := (Array.getElem?_eq_some_iff.1 hlast).1
            show xo + cs.length ≤ cc.size
            omega
          · intro i v hv
            exact ⟨v, hcell i v hv, (h6 v (List.mem_of_getElem? hv)).vr⟩
      · rw [if_neg hb] at hy
        have he' : (if b = A.size then some (⟨xb, xo, 0, 0⟩ : REnt) else ρ b) = some e := he
        rw [if_neg hb] at he'
        by_cases hd : y = .dead
        · subst hd; trivial
        · exact BRel.keep hle (.inr rfl) (h.rel.blk b e y he' hy)
    · intro b b' e e' y y' _ _ _ hy _ hp _
      have := hpas' b
      rw [hy] at this
      exact absurd this hp
    · intro b hb
      simp only [AHeap.size_alloc] at hb
      show (if b = A.size then _ else _) = _
      rw [if_neg (by omega)]; exact h.free b (by omega)
    · have hs : ρ' A.size = some ⟨xb, xo, 0, 0⟩ := if_pos rfl
      subst h1
      exact VR.slice (ρ := ρ') A.size 0 n cap ⟨xb, xo, 0, 0⟩ hs hcap h3
    · by_cases hne : cs = []
      · have hn : n = 0 := by
          rw [hne] at h5
          rcases Nat.eq_zero_or_pos n with q | q
          · exact q
          · have := Nat.mul_pos q hsz; simp at h5; omega
        exact .inr (.inr ⟨A.size, 0, cap, by rw [hn], hn, hne⟩)
      · refine .inr (.inl ⟨A.size, 0, cap, cs, true, 0, rfl, ?_, by omega, ?_, ?_⟩)
        · rw [AHeap.get_alloc, if_pos rfl]
          show some (if cs = [] then ABlk.dead else ABlk.cells cs true 0) = _
          rw [if_neg hne]
        · rw [List.drop_zero, List.take_of_length_le (by omega)]
        · intro q; rw [q] at hcap; exact absurd hcap (by decide)
    · rintro j ⟨o, n', c', q⟩; cases q
      simp

theorem Args.row {P : Program} {w : World} {ρ : Ren} {A : AHeap} {vs vcs : List Value} (h : Args P w ρ A vs vcs) {vc : Value} {n sz : Nat} {cs : List Value} (hr : RowC w vc n sz cs) (hsz : 0 < sz) :
    ∃ ρ' A' v, Args P w ρ' A' (vs ++ [v]) (vcs ++ [vc]) ∧ Ext NoB A A' ∧ ReadAt A' sz v n cs ∧ ∀ j, Own v j → j < A'.size := by
  obtain ⟨ρ', A', v, h1, h2, h3, h4, _⟩ := h.rowV hr hsz
  exact ⟨ρ', A', v, h1, h2, h3, h4⟩

/-- What answers yes in our words does so on the machine. -/
theorem Args.calls {P : Program} {T : FTab} (hT : TabOk P T) (hmix : P.follows .mixedOrders = true) {w : World} {ρ : Ren} {A : AHeap} {vs vcs : List Value} (h : Args P w ρ A vs vcs) {f : Nat}
    (hw : wF T (.func (.func f) #[] #[]) vs A fun v _ => v = .bool true) : Calls P f ⟨vcs⟩ w fun e w' => e = .returned (.bool true) ∧ Below w.heap.size w w' := by
  obtain ⟨n, v, A', hA, hv⟩ := hw
  subst hv
  cases n with
  | zero => cases hA
  | succ n =>
    obtain ⟨_, h2⟩ := callN_fn_sound hT hmix (callN_sound hT hmix n) hA
    intro cs
    obtain ⟨ρ', vc, w', h3, h4, h5⟩ := h2 ρ w vcs (by simpa using h.vrs) h.rel (fun b hb _ => h.free b hb) cs
    cases h4
    obtain ⟨fr, k1, k2, k3⟩ := h3
    exact ⟨.returned (.bool true), w', fr, ⟨rfl, h5.below h.pas⟩, k1, k2, k3⟩

end Go.AS
end

section
namespace Go.AS
open Go
set_option linter.unusedSimpArgs false
set_option linter.unusedVariables false

/-! ## Rows of things in memory, read and written one by one -/
section
variable {α : Type}

def encs (enc : α → List Value) (l : List α) : List Value := l.flatMap enc

theorem encs_nil (enc : α → List Value) : encs enc [] = [] := rfl
theorem encs_cons (enc : α → List Value) (x : α) (l : List α) : encs enc (x :: l) = enc x ++ encs enc l := rfl
theorem encs_append (enc : α → List Value) (a b : List α) : encs enc (a ++ b) = encs enc a ++ encs enc b := by simp [encs]
theorem encs_len {enc : α → List Value} {sz : Nat} (h : ∀ x, (enc x).length = sz) : ∀ l : List α, (encs enc l).length = l.length * sz
  | [] => by simp [encs]
  | x :: l => by rw [encs_cons, List.length_append, h, encs_len h l, List.length_cons, Nat.add_mul, Nat.one_mul, Nat.add_comm]
theorem encs_one {enc : α → List Value} (h : ∀ x, (enc x).all oneCell = true) : ∀ l : List α, (encs enc l).all oneCell = true
  | [] => rfl
  | x :: l => by rw [encs_cons, List.all_append, h, encs_one h l]; rfl

theorem lay_mid (vs : List Value) : ∀ (a b c : List Value), vs.length = b.length → lay (a ++ b ++ c) a.length vs = a ++ vs ++ c := by
  induction vs with
  | nil => intro a b c h; cases b with | nil => rfl | cons _ _ => simp at h
  | cons v vs ih =>
    intro a b c h
    cases b with
    | nil => simp at h
    | cons x b =>
      show lay ((a ++ (x :: b) ++ c).set a.length v) (a.length + 1) vs = _
      have e : (a ++ (x :: b) ++ c).set a.length v = (a ++ [v]) ++ b ++ c := by simp
      have e2 : a.length + 1 = (a ++ [v]).length := by simp
      rw [e, e2, ih (a ++ [v]) b c (by simpa using h)]
      simp

/-- A row that lies in a block, from o on. -/
def DataAt (enc : α → List Value) (A : AHeap) (d o bl opn : Nat) (l : List α) : Prop :=
  ∃ pre post, A.get d = some (.cells (pre ++ encs enc l ++ post) false opn) ∧ pre.length = o ∧ (pre ++ encs enc l ++ post).length = bl

theorem DataAt.lt {enc : α → List Value} {A : AHeap} {d o bl opn : Nat} {l : List α} (h : DataAt enc A d o bl opn l) : d < A.size := by
  obtain ⟨pre, post, h1, _⟩ := h; exact AHeap.get_lt h1

theorem DataAt.ext {enc : α → List Value} {A A' : AHeap} {d o bl opn : Nat} {l : List α} {S : Nat → Prop} (h : DataAt enc A d o bl opn l) (e : Ext S A A') (hs : ¬ S d) : DataAt enc A' d o bl opn l := by
  obtain ⟨pre, post, h1, h2, h3⟩ := h; exact ⟨pre, post, e.get h1 hs, h2, h3⟩

theorem DataAt.get {enc : α → List Value} {sz : Nat} (hz : ∀ x, (enc x).length = sz) {A : AHeap} {d o bl opn i : Nat} {l1 l2 : List α} {x : α} (h : DataAt enc A d o bl opn (l1 ++ x :: l2)) (hi : i = l1.length) : rdCells A d (o + i * sz) sz = some (enc x) := by
  obtain ⟨pre, post, h1, h2, h3⟩ := h
  subst hi; subst h2
  have e : pre ++ encs enc (l1 ++ x :: l2) ++ post = (pre ++ encs enc l1) ++ (enc x ++ (encs enc l2 ++ post)) := by simp [encs_append, encs_cons]
  have el : (pre ++ encs enc l1).length = pre.length + l1.length * sz := by rw [List.length_append, encs_len hz]
  rw [e] at h1
  simp only [rdCells, h1]
  rw [← el, List.drop_left]
  have := hz x
  rw [if_pos (by simp only [List.length_append]; omega), ← this, List.take_left]

theorem DataAt.get2 {enc : α → List Value} {sz : Nat} (hz : ∀ x, (enc x).length = sz) {A : AHeap} {d o bl opn i : Nat} {l1 l2 : List α} {x : α} (h : DataAt enc A d o bl opn (l1 ++ x :: l2)) (hi : i = l1.length) : ∃ bs, A.get d = some (.cells bs false opn) ∧ o + (i * sz + sz) ≤ bs.length ∧ (bs.drop (o + i * sz)).take sz = enc x := by
  have h1 := h.get hz hi
  obtain ⟨pre, post, h2, _⟩ := h
  simp only [rdCells, h2] at h1
  split at h1
  · rename_i hle
    exact ⟨_, h2, by omega, Option.some.inj h1⟩
  · cases h1

theorem DataAt.put {enc : α → List Value} {sz : Nat} (hz : ∀ x, (enc x).length = sz) (ho : ∀ x, (enc x).all oneCell = true) {A : AHeap} {d o bl opn i : Nat} {l1 l2 : List α} {x : α} (h : DataAt enc A d o bl opn (l1 ++ x :: l2)) (hi : i = l1.length) (y : α) :
    ∃ A', wrCells A d (o + i * sz) (enc y) = some A' ∧ DataAt enc A' d o bl opn (l1 ++ y :: l2) ∧ Ext (fun j => j = d) A A' ∧ A'.size = A.size := by
  obtain ⟨pre, post, h1, h2, h3⟩ := h
  subst hi; subst h2
  have e : pre ++ encs enc (l1 ++ x :: l2) ++ post = (pre ++ encs enc l1) ++ enc x ++ (encs enc l2 ++ post) := by simp [encs_append, encs_cons]
  have e' : pre ++ encs enc (l1 ++ y :: l2) ++ post = (pre ++ encs enc l1) ++ enc y ++ (encs enc l2 ++ post) := by simp [encs_append, encs_cons]
  have el : (pre ++ encs enc l1).length = pre.length + l1.length * sz := by rw [List.length_append, encs_len hz]
  have z1 := hz x
  have z2 := hz y
  rw [e] at h1 h3
  refine ⟨A.set d (.cells ((pre ++ encs enc l1) ++ enc y ++ (encs enc l2 ++ post)) false opn), ?_, ⟨pre, post, ?_, rfl, ?_⟩, Ext.set rfl, rfl⟩
  · simp only [wrCells, h1]
    rw [← el, lay_mid _ _ _ _ (by omega), if_pos]
    rw [Bool.and_eq_true, ho]
    refine ⟨decide_eq_true ?_, rfl⟩
    simp only [List.length_append]; omega
  · rw [e', AHeap.get_set _ _ _ _ (AHeap.get_lt h1), if_pos rfl]
  · rw [e', ← h3]; simp only [List.length_append]; omega

/-- A slice that holds something, as a row; and back. -/
theorem SliceAt.data {enc : α → List Value} {sz : Nat} (hz : ∀ x, (enc x).length = sz) (hs0 : 0 < sz) {A : AHeap} {v : Value} {l : List α} (h : SliceAt A sz v l.length (encs enc l)) (hne : 0 < l.length) :
    ∃ d o c bl opn, v = .slice (some ⟨d, o, none⟩) l.length c ∧ DataAt enc A d o bl opn l ∧ ∀ A' (l' : List α), l'.length = l.length → DataAt enc A' d o bl opn l' → SliceAt A' sz v l'.length (encs enc l') := by
  rcases h with ⟨h1, h2, h3⟩ | ⟨d, o, c, bs, opn, h1, h2, h3, h4, h5⟩
  · omega
  · refine ⟨d, o, c, bs.length, opn, h1, ⟨bs.take o, bs.drop (o + l.length * sz), ?_, ?_, ?_⟩, ?_⟩
    · rw [h2]; congr 2
      rw [h4, List.append_assoc, ← List.drop_drop, List.take_append_drop, List.take_append_drop]
    · rw [List.length_take]; omega
    · simp only [List.length_append, List.length_take, List.length_drop, encs_len hz]; omega
    · rintro A' l' hl ⟨pre, post, k1, k2, k3⟩
      refine .inr ⟨d, o, c, _, opn, by rw [hl]; exact h1, k1, ?_, ?_, ?_⟩
      · simp only [List.length_append, encs_len hz]; omega
      · subst k2
        rw [List.append_assoc, List.drop_left, ← encs_len hz l', List.take_left]
      · rw [hl, k3]; exact h5

theorem DataAt.read {enc : α → List Value} {sz : Nat} (hz : ∀ x, (enc x).length = sz) {A : AHeap} {d o bl opn c : Nat} {l : List α} (h : DataAt enc A d o bl opn l) (hc : c ≠ ENDCAP) : ReadAt A sz (.slice (some ⟨d, o, none⟩) l.length c) l.length (encs enc l) := by
  obtain ⟨pre, post, h1, h2, h3⟩ := h
  subst h2
  refine .inr (.inl ⟨d, _, c, _, false, opn, rfl, h1, ?_, ?_, fun q => absurd q hc⟩)
  · simp only [List.length_append, encs_len hz]; omega
  · rw [List.append_assoc, List.drop_left, ← encs_len hz l, List.take_left]

/-- A slice's rest: x[l:]. -/
theorem SliceAt.from {A : AHeap} {sz n l : Nat} {v : Value} {cs : List Value} {k1 : IntKind} (h : SliceAt A sz v n cs) (hsz : sz ≠ 0) (hl : l ≤ n) :
    ∃ v', sliceVA A sz v (some (.int k1 (l : Int))) none none = some v' ∧ SliceAt A sz v' (n - l) (cs.drop (l * sz)) ∧ ∀ j, Own v' j → Own v j := by
  have hb : ∀ cap, n ≤ cap → bndsA n cap (some (.int k1 (l : Int))) none none = some (l, n, cap) := fun cap hc => by
    delta bndsA; simp [bnd_nat, hc, hl]
  have hm : l * sz ≤ n * sz := Nat.mul_le_mul_right _ hl
  have hm2 : (n - l) * sz = n * sz - l * sz := by rw [Nat.sub_mul]
  rcases h with ⟨h1, h2, h3⟩ | ⟨d, o, c, bs, opn, h1, h2, h3, h4, h5⟩
  · subst h1; subst h2; subst h3
    have : l = 0 := by omega
    subst this
    exact ⟨_, by simp only [sliceVA, hb 0 (Nat.le_refl _)], .inl ⟨rfl, rfl, by simp⟩, fun j hj => hj⟩
  · subst h1
    rcases h5 with ⟨q1, q2, q3⟩ | ⟨q1, q2⟩ | ⟨q1, q2, q3, q4⟩
    · subst q1; subst q2
      by_cases hlast : l = 0 ∨ o + l * opn < bs.length
      · refine ⟨.slice (some ⟨d, o + l * opn, none⟩) (n - l) OPEN, ?_, .inr ⟨d, _, OPEN, bs, opn, rfl, h2, by omega, ?_, .inl ⟨rfl, rfl, by omega⟩⟩, ?_⟩
        · simp only [sliceVA, if_true, h2, hb n (Nat.le_refl _)]
          rw [if_neg (by simp [hsz]), if_pos (by simpa using hlast)]
        · rw [h4, List.drop_take, List.drop_drop, hm2]
        · rintro j ⟨o', n', c', q⟩; cases q; exact ⟨_, _, _, rfl⟩
      · have hln : l = n := by
          have : ¬ l < n := fun q => by
            have := Nat.mul_le_mul_right opn (show l + 1 ≤ n by omega)
            rw [Nat.add_mul, Nat.one_mul] at this
            omega
          omega
        subst hln
        refine ⟨.slice (some ⟨d, o + l * opn, none⟩) 0 ENDCAP, ?_, .inr ⟨d, o + l * opn, ENDCAP, bs, opn, by simp, h2, by simp; omega, ?_, .inr (.inr ⟨rfl, by simp, rfl, by omega⟩)⟩, ?_⟩
        · simp only [sliceVA, if_true, h2, hb l (Nat.le_refl _)]
          rw [if_neg (by simp [hsz]), if_neg (by simpa using hlast), if_pos (by simp; omega)]
        · rw [h4, List.drop_take, Nat.sub_self]; simp
        · rintro j ⟨o', n', c', q⟩; cases q; exact ⟨_, _, _, rfl⟩
    · subst q1
      have c1 : c ≠ OPEN := by omega
      have c2 : c ≠ ENDCAP := fun q => by rw [q] at q2; exact absurd q2 (by decide)
      refine ⟨.slice (some ⟨d, if c = l then o else o + l * sz, none⟩) (c - l) (c - l), ?_, .inr ⟨d, _, c - l, bs, opn, rfl, h2, ?_, ?_, .inr (.inl ⟨rfl, by omega⟩)⟩, ?_⟩
      · simp only [sliceVA, if_neg c1, if_neg c2, if_neg (show ¬ OPEN ≤ c by omega), hb c (Nat.le_refl _), if_neg (show ¬ OPEN ≤ c - l by omega)]
      · split <;> omega
      · split
        · rename_i q; subst q
          rw [h4, List.drop_take, Nat.sub_self]; simp
        · rw [h4, List.drop_take, List.drop_drop, hm2]
      · rintro j ⟨o', n', c', q⟩; cases q; exact ⟨_, _, _, rfl⟩
    · subst q1; subst q2
      have : l = 0 := by omega
      subst this
      have hb0 := hb 0 (Nat.le_refl _)
      refine ⟨.slice (some ⟨d, o, none⟩) 0 ENDCAP, ?_, .inr ⟨d, o, ENDCAP, bs, opn, rfl, h2, h3, by simpa using h4, .inr (.inr ⟨rfl, rfl, q3, q4⟩)⟩, fun j hj => hj⟩
      have hb00 : bndsA 0 0 (some (.int k1 ((0 : Nat) : Int))) none none = some (0, 0, 0) := hb0
      simp only [sliceVA, if_neg (show ¬ ENDCAP = OPEN by decide), if_true, hb00]
end
end Go.AS
end

section
namespace Go.AS
open Go
set_option linter.unusedSimpArgs false
set_option linter.unusedVariables false

/-! ## Maps keyed by numbers -/
theorem findE_shift (n : Int) : ∀ (es : List (Int × Value × Nat)) (i : Nat), findE n es (i + 1) = (findE n es i).map fun p => (p.1 + 1, p.2)
  | [], _ => rfl
  | e :: es, i => by
    simp only [findE]
    split
    · rfl
    · exact findE_shift n es (i + 1)

/-- What a list of entries says of a key. -/
def lookE (n : Int) (es : List (Int × Value × Nat)) : Option Value := (findE n es 0).map (·.2)
theorem lookE_nil (n : Int) : lookE n [] = none := rfl
theorem lookE_cons (n : Int) (e : Int × Value × Nat) (es : List (Int × Value × Nat)) : lookE n (e :: es) = if n = e.1 then some e.2.1 else lookE n es := by
  unfold lookE
  simp only [findE, beq_iff_eq]
  split
  · rfl
  · rw [show (0 + 1 : Nat) = 0 + 1 from rfl, findE_shift]
    cases findE n es 0 <;> rfl
theorem lookE_app (n k : Int) (v : Value) (c : Nat) : ∀ es : List (Int × Value × Nat), lookE n (es ++ [(k, v, c)]) = match lookE n es with | some x => some x | none => if n = k then some v else none
  | [] => by rw [List.nil_append, lookE_cons, lookE_nil]
  | e :: es => by
    rw [List.cons_append, lookE_cons, lookE_cons, lookE_app n k v c es]
    split <;> rfl
theorem findE_get (n : Int) : ∀ (es : List (Int × Value × Nat)) (i : Nat) (v : Value), findE n es 0 = some (i, v) → ∃ c, es[i]? = some (n, v, c)
  | [], _, _, h => by cases h
  | e :: es, i, v, h => by
    simp only [findE, beq_iff_eq] at h
    split at h
    · rename_i q; cases h; exact ⟨e.2.2, by rw [q]; rfl⟩
    · rw [findE_shift] at h
      cases hq : findE n es 0 with
      | none => rw [hq] at h; cases h
      | some p =>
        rw [hq] at h; cases h
        obtain ⟨c, hc⟩ := findE_get n es p.1 p.2 hq
        exact ⟨c, by simpa using hc⟩
theorem lookE_none {n : Int} : ∀ {es : List (Int × Value × Nat)}, (∀ e ∈ es, e.1 ≠ n) → lookE n es = none
  | [], _ => rfl
  | e :: es, h => by
    rw [lookE_cons, if_neg fun q => h e (by simp) q.symm]
    exact lookE_none fun x hx => h x (by simp [hx])
theorem lookE_erase (n k : Int) : ∀ (es : List (Int × Value × Nat)) (i : Nat), (es.map (·.1)).Nodup → (es[i]?).map (·.1) = some n → lookE k (es.eraseIdx i) = if k = n then none else lookE k es
  | [], _, _, h => by simp at h
  | e :: es, 0, hn, h => by
    simp at h
    subst h
    rw [List.map_cons, List.nodup_cons] at hn
    rw [List.eraseIdx_cons_zero, lookE_cons]
    split
    · rename_i q; subst q
      exact lookE_none fun x hx q => hn.1 (List.mem_map.2 ⟨x, hx, q⟩)
    · rfl
  | e :: es, i + 1, hn, h => by
    rw [List.map_cons, List.nodup_cons] at hn
    have h' : (es[i]?).map (·.1) = some n := by simpa using h
    rw [List.eraseIdx_cons_succ, lookE_cons, lookE_cons, lookE_erase n k es i hn.2 h']
    have : n ∈ es.map (·.1) := by
      cases q : es[i]? with
      | none => rw [q] at h'; cases h'
      | some x => rw [q] at h'; cases h'; exact List.mem_map.2 ⟨x, List.mem_of_getElem? q, rfl⟩
    have hne : e.1 ≠ n := fun q => hn.1 (q ▸ this)
    by_cases hk : k = e.1
    · subst hk; rw [if_pos rfl, if_neg hne, if_pos rfl]
    · rw [if_neg hk, if_neg hk]

/-- A map in memory, and what it holds. -/
def MapIs (A : AHeap) (mb : Nat) (f : Int → Option Value) : Prop := ∃ es clock, A.get mb = some (.map .i64 es clock) ∧ (es.map (·.1)).Nodup ∧ ∀ k, lookE k es = f k

theorem MapIs.lt {A : AHeap} {mb : Nat} {f : Int → Option Value} (h : MapIs A mb f) : mb < A.size := by
  obtain ⟨es, c, h1, _⟩ := h; exact AHeap.get_lt h1
theorem MapIs.ext {A A' : AHeap} {mb : Nat} {f : Int → Option Value} {S : Nat → Prop} (h : MapIs A mb f) (e : Ext S A A') (hs : ¬ S mb) : MapIs A' mb f := by
  obtain ⟨es, c, h1, h2⟩ := h; exact ⟨es, c, e.get h1 hs, h2⟩
theorem MapIs.congr {A : AHeap} {mb : Nat} {f g : Int → Option Value} (h : MapIs A mb f) (e : ∀ k, f k = g k) : MapIs A mb g := by rw [← funext e]; exact h
theorem MapIs.nil {A : AHeap} {mb : Nat} {c : Nat} (h : A.get mb = some (.map .i64 [] c)) : MapIs A mb fun _ => none := ⟨[], c, h, List.nodup_nil, fun _ => rfl⟩

theorem MapIs.get {A : AHeap} {mb : Nat} {f : Int → Option Value} (h : MapIs A mb f) (n : Int) : ∃ es c, A.get mb = some (.map .i64 es c) ∧ match f n with | some v => ∃ i, findE n es 0 = some (i, v) | none => findE n es 0 = none := by
  obtain ⟨es, c, h1, h2, h3⟩ := h
  refine ⟨es, c, h1, ?_⟩
  have := h3 n
  unfold lookE at this
  cases hq : findE n es 0 with
  | none => rw [hq] at this; rw [← this]; rfl
  | some p => rw [hq] at this; rw [← this]; exact ⟨p.1, rfl⟩

theorem MapIs.put {A : AHeap} {mb : Nat} {f : Int → Option Value} (h : MapIs A mb f) (n : Int) (v : Value) (hn : f n = none) {e : Env} {m k x : Operand} (hm : ev e m = .map (some mb)) (hk : ev e k = .int .i64 n) (hx : ev e x = v) :
    ∃ A', lop e A (.mapPut .i64 m k x) = some (undef, A') ∧ MapIs A' mb (fun j => if j = n then some v else f j) ∧ Ext (fun j => j = mb) A A' ∧ A'.size = A.size := by
  have lt := h.lt
  obtain ⟨es, c, h1, h2⟩ := h.get n
  rw [hn] at h2
  simp only at h2
  obtain ⟨es', c', h3, h4, h5⟩ := h
  rw [h1] at h3; cases h3
  refine ⟨A.set mb (.map .i64 (es ++ [(n, v, c)]) (c + 1)), ?_, ⟨_, _, by rw [AHeap.get_set _ _ _ _ lt, if_pos rfl], ?_, fun j => ?_⟩, Ext.set rfl, rfl⟩
  · simp only [lop, hm, hk, hx, h1, h2, if_true]
  · rw [List.map_append, List.nodup_append]
    refine ⟨h4, by simp, fun a ha b hb q => ?_⟩
    simp only [List.map_cons, List.map_nil, List.mem_singleton] at hb
    subst hb; subst q
    obtain ⟨y, hy, q⟩ := List.mem_map.1 ha
    have hl : lookE a es = none := by unfold lookE; rw [h2]; rfl
    obtain ⟨i, hi⟩ := List.mem_iff_getElem?.1 hy
    have : ∀ (es : List (Int × Value × Nat)), y ∈ es → lookE y.1 es ≠ none := by
      intro es
      induction es with
      | nil => intro q; cases q
      | cons e es ih =>
        intro q
        rw [lookE_cons]
        split
        · simp
        · rename_i hne
          rcases List.mem_cons.1 q with q | q
          · exact absurd (by rw [q]) hne
          · exact ih q
    exact this es hy (q ▸ hl)
  · rw [lookE_app, h5]
    by_cases q : j = n
    · subst q; simp [hn]
    · simp only [if_neg q]; cases f j <;> rfl

theorem MapIs.del {A : AHeap} {mb : Nat} {f : Int → Option Value} (h : MapIs A mb f) (n : Int) {e : Env} {m k : Operand} (hm : ev e m = .map (some mb)) (hk : ev e k = .int .i64 n) :
    ∃ A', lop e A (.mapDel .i64 m k) = some (undef, A') ∧ MapIs A' mb (fun j => if j = n then none else f j) ∧ Ext (fun j => j = mb) A A' ∧ A'.size = A.size := by
  have lt := h.lt
  obtain ⟨es, c, h1, h2⟩ := h.get n
  obtain ⟨es', c', h3, h4, h5⟩ := h
  rw [h1] at h3; cases h3
  cases hf : f n with
  | none =>
    rw [hf] at h2
    refine ⟨A.set mb (.map .i64 es c), ?_, ⟨_, _, by rw [AHeap.get_set _ _ _ _ lt, if_pos rfl], h4, fun j => ?_⟩, Ext.set rfl, rfl⟩
    · simp only [lop, hm, hk, h1, h2, if_true]
    · rw [h5]
      by_cases q : j = n
      · subst q; simp [hf]
      · simp [q]
  | some v =>
    rw [hf] at h2
    obtain ⟨i, hi⟩ := h2
    obtain ⟨c2, hc⟩ := findE_get n es i v hi
    refine ⟨A.set mb (.map .i64 (es.eraseIdx i) c), ?_, ⟨_, _, by rw [AHeap.get_set _ _ _ _ lt, if_pos rfl], ?_, fun j => ?_⟩, Ext.set rfl, rfl⟩
    · simp only [lop, hm, hk, h1, hi, if_true]
    · exact List.Nodup.sublist ((List.eraseIdx_sublist es i).map _) h4
    · rw [lookE_erase n j es i h4 (by rw [hc]; rfl)]; simp [h5]

theorem MapIs.put2 {A : AHeap} {mb : Nat} {f : Int → Option Value} (h : MapIs A mb f) {n : Int} (v : Value) (hn : f n = none) {es : List (Int × Value × Nat)} {c : Nat} (h1 : A.get mb = some (.map .i64 es c)) :
    MapIs (A.set mb (.map .i64 (es ++ [(n, v, c)]) (c + 1))) mb (fun j => if j = n then some v else f j) := by
  obtain ⟨es', c', g1, g2⟩ := h.get n
  rw [h1] at g1; cases g1
  rw [hn] at g2
  simp only at g2
  obtain ⟨A', k1, k2, _⟩ := h.put (e := Trie.leaf) n v hn (m := .const (.map (some mb))) (k := .const (.int .i64 n)) (x := .const v) rfl rfl rfl
  simp only [lop, ev, h1, g2, if_true, Option.some.injEq, Prod.mk.injEq] at k1
  rw [k1.2]; exact k2
theorem MapIs.del2 {A : AHeap} {mb : Nat} {f : Int → Option Value} (h : MapIs A mb f) (n : Int) {es : List (Int × Value × Nat)} {c : Nat} (h1 : A.get mb = some (.map .i64 es c)) :
    (findE n es 0 = none → MapIs (A.set mb (.map .i64 es c)) mb (fun j => if j = n then none else f j)) ∧ ∀ i v, findE n es 0 = some (i, v) → MapIs (A.set mb (.map .i64 (es.eraseIdx i) c)) mb (fun j => if j = n then none else f j) := by
  obtain ⟨A', k1, k2, _⟩ := h.del (e := Trie.leaf) n (m := .const (.map (some mb))) (k := .const (.int .i64 n)) rfl rfl
  refine ⟨fun q => ?_, fun i v q => ?_⟩
  · simp only [lop, ev, h1, q, if_true, Option.some.injEq, Prod.mk.injEq] at k1
    rw [k1.2]; exact k2
  · simp only [lop, ev, h1, q, if_true, Option.some.injEq, Prod.mk.injEq] at k1
    rw [k1.2]; exact k2

/-- One thing more within a slice's own room. -/
theorem app_in {A : AHeap} {b i n d bytes opn : Nat} {y : Value} {bs : List Value} {ro : Bool} {opn2 : Nat} (h : A.get b = some (.cells bs false opn)) (hn : bs.length = n) (hi : i < n) (hs : n ≤ 4294967296) (hb : bytes ≤ 8192) (hd : A.get d = some (.cells [y] ro opn2)) (ho : oneCell y = true) :
    appA A 1 bytes (.slice (some ⟨b, 0, none⟩) i n) (.slice (some ⟨d, 0, none⟩) 1 1) = some (.slice (some ⟨b, 0, none⟩) (i + 1) n, A.set b (.cells (bs.set i y) false opn)) := by
  have hc : n < OPEN := Nat.lt_of_le_of_lt hs (by decide)
  have hfit : fitsA (i + 1) bytes = true := by simp [fitsA, hb]; omega
  unfold appA
  simp only [lenA, hfit, isStr, firstA, rdCells, hd]
  simp [ENDCAP, hc, show i + 1 ≤ n by omega, wrCells, h, hn, ho, lay]

/-! ## Texts of bytes -/
def byt (b : UInt8) : Value := .int .u8 (b.toNat : Nat)
def bcells (l : List UInt8) : List Value := l.map byt
/-- A text of bytes. -/
def b2s (A : AHeap) (v : Value) : Option Value := match v with
    | .slice none 0 0 => some (.string ⟨⟨[]⟩⟩)
    | .slice a n c => match firstA A 1 n (.slice a n c) with
      | some cs => if cs.all (fun v => match v with | .int .u8 _ => true | _ => false) then some (.string ⟨⟨cs.map fun v => match v with | .int _ n => UInt8.ofNat n.toNat | _ => 0⟩⟩) else none
      | none => none
    | _ => none
theorem qop_b2s {e : Env} {A : AHeap} {x : Operand} : qop e A (.cvB2S x) = b2s A (ev e x) := rfl

theorem b2s_ok {A : AHeap} {v : Value} {l : List UInt8} (h : ReadAt A 1 v l.length (bcells l)) : b2s A v = some (.string ⟨⟨l⟩⟩) := by
  have hf := h.firstA (Nat.le_refl _)
  rw [List.take_of_length_le (by rw [h.length]; omega)] at hf
  obtain ⟨a, c, rfl⟩ := h.val
  have key : (match firstA A 1 l.length (.slice a l.length c) with
      | some cs => if cs.all (fun v => match v with | .int .u8 _ => true | _ => false) then some (Value.string ⟨⟨cs.map fun v => match v with | .int _ n => UInt8.ofNat n.toNat | _ => 0⟩⟩) else none
      | none => none) = some (.string ⟨⟨l⟩⟩) := by
    rw [hf]
    have h1 : (bcells l).all (fun v => match v with | .int .u8 _ => true | _ => false) = true := by simp [bcells, byt]
    have h2 : ((bcells l).map fun v => match v with | .int _ n => UInt8.ofNat n.toNat | _ => 0) = l := by
      simp [bcells, byt, List.map_map, Function.comp_def]
    simp only [h1, if_true, h2]
  unfold b2s
  split
  · rename_i h0
    injection h0 with e1 e2 e3
    have : l = [] := List.length_eq_zero_iff.1 e2
    subst this; rfl
  · rename_i h0; cases h0; exact key
  · rename_i h0; exact absurd rfl (h0 _ _ _)


theorem wV_b2s {T : FTab} {e : Env} {A : AHeap} {x : Operand} {Q : Value → AHeap → Prop} : wV T e A (.cvB2S x) Q ↔ wL ((b2s A (ev e x)).map fun v => (v, A)) Q := by rw [wV_eq]; rfl
end Go.AS
end

section
namespace Go.AS
open Go
set_option linter.unusedSimpArgs false
set_option linter.unusedVariables false

theorem sliceVA_val {A : AHeap} {sz : Nat} {x : Value} {lo hi mx : Option Value} {v : Value} (h : sliceVA A sz x lo hi mx = some v) : ∃ a n c, v = .slice a n c := by
  unfold sliceVA at h
  (repeat' split at h) <;> first | (cases h; exact ⟨_, _, _, rfl⟩) | cases h

/-! ## One thing put between others: append(append(v[:i:i], x), v[i:]...) -/
theorem SliceAt.read_from {A : AHeap} {sz n l : Nat} {v v' : Value} {cs : List Value} (h : SliceAt A sz v' (n - l) (cs.drop (l * sz))) : AS.lenA v' = some (n - l) ∧ AS.firstA A sz (n - l) v' = some (cs.drop (l * sz)) := by
  refine ⟨h.read.lenA, ?_⟩
  rw [h.read.firstA (Nat.le_refl _), List.take_of_length_le]
  rw [h.read.length]; exact Nat.le_refl _

theorem SliceAt.ins {A : AHeap} {sz n i q bytes : Nat} {v : Value} {cs x : List Value} {k1 k2 k3 : IntKind} {ro : Bool} {opq : Nat} (h : SliceAt A sz v n cs) (hsz : sz ≠ 0) (hi : i ≤ n) (hn : n < 1000000) (hq : A.get q = some (.cells x ro opq)) (hx : x.length = sz) (ho : x.all oneCell = true) (hcs : cs.all oneCell = true) (hb : bytes ≤ 8192) :
    ∃ v1 v2 A2 v3 v4 A4, sliceVA A sz v none (some (.int k1 (i : Int))) (some (.int k2 (i : Int))) = some v1 ∧ appA A sz bytes v1 (.slice (some ⟨q, 0, none⟩) 1 1) = some (v2, A2) ∧
      sliceVA A2 sz v (some (.int k3 (i : Int))) none none = some v3 ∧ sliceVA A sz v (some (.int k3 (i : Int))) none none = some v3 ∧
      appA A2 sz bytes v2 v3 = some (v4, A4) ∧ SliceAt A4 sz v4 (n + 1) (cs.take (i * sz) ++ x ++ cs.drop (i * sz)) ∧ Ext (Own v) A A2 ∧ Ext (Own v) A A4 ∧ (∀ j, Own v4 j → A.size ≤ j) := by
  have hcl := h.read.length
  have him : i * sz ≤ n * sz := Nat.mul_le_mul_right _ hi
  have hf1 : AS.firstA A sz 1 (.slice (some ⟨q, 0, none⟩) 1 1) = some x := by
    simp only [AS.firstA, rdCells, hq]
    rw [if_neg (by omega), if_neg (by decide), if_pos (by omega), List.drop_zero, Nat.one_mul, List.take_of_length_le (by omega)]
  have hguard : (!(fitsA (i + 1) bytes) || decide (sz = 0) || (isStr (.slice (some ⟨q, 0, none⟩) 1 1) && sz != 1)) = false := by
    have : i + 1 ≤ 4294967296 := by omega
    simp [fitsA, this, hb, hsz, isStr]
  -- the case where the old block stays
  have main : ∀ v1, sliceVA A sz v none (some (.int k1 (i : Int))) (some (.int k2 (i : Int))) = some v1 → appA A sz bytes v1 (.slice (some ⟨q, 0, none⟩) 1 1) = some (.slice (some ⟨A.size, 0, none⟩) (i + 1) OPEN, A.alloc (.cells (cs.take (i * sz) ++ x) false sz)) →
      (∀ A2 : AHeap, Ext NoB A A2 → sliceVA A2 sz v (some (.int k3 (i : Int))) none none = sliceVA A sz v (some (.int k3 (i : Int))) none none) →
      ∃ v1 v2 A2 v3 v4 A4, sliceVA A sz v none (some (.int k1 (i : Int))) (some (.int k2 (i : Int))) = some v1 ∧ appA A sz bytes v1 (.slice (some ⟨q, 0, none⟩) 1 1) = some (v2, A2) ∧
      sliceVA A2 sz v (some (.int k3 (i : Int))) none none = some v3 ∧ sliceVA A sz v (some (.int k3 (i : Int))) none none = some v3 ∧
      appA A2 sz bytes v2 v3 = some (v4, A4) ∧ SliceAt A4 sz v4 (n + 1) (cs.take (i * sz) ++ x ++ cs.drop (i * sz)) ∧ Ext (Own v) A A2 ∧ Ext (Own v) A A4 ∧ (∀ j, Own v4 j → A.size ≤ j) := by
    intro v1 e1 e2 e3
    have ex : Ext NoB A (A.alloc (.cells (cs.take (i * sz) ++ x) false sz)) := Ext.alloc
    obtain ⟨v3, f1, f2, f3⟩ := h.from (k1 := k3) hsz hi
    have f2' := (f2.ext ex fun _ _ q => q)
    obtain ⟨r1, r2⟩ := SliceAt.read_from (v := v) f2'
    have s2 : SliceAt (A.alloc (.cells (cs.take (i * sz) ++ x) false sz)) sz (.slice (some ⟨A.size, 0, none⟩) (i + 1) OPEN) (i + 1) (cs.take (i * sz) ++ x) := by
      have hl : (cs.take (i * sz) ++ x).length = (i + 1) * sz := by rw [List.length_append, List.length_take, hx, Nat.add_mul, Nat.one_mul]; omega
      refine .inr ⟨A.size, 0, OPEN, cs.take (i * sz) ++ x, sz, rfl, by rw [AHeap.get_alloc, if_pos rfl], by rw [hl]; omega, ?_, .inl ⟨rfl, rfl, by rw [hl]; omega⟩⟩
      rw [List.drop_zero, List.take_of_length_le (l := cs.take (i * sz) ++ x) (by rw [hl]; omega)]
    obtain ⟨v4, A4, a1, a2, a3, a4⟩ := s2.append (x := v3) (m := n - i) (new := cs.drop (i * sz)) (bytes := bytes) hsz r1 r2 (List.all_eq_true.2 fun y hy => List.all_eq_true.1 hcs y (List.mem_of_mem_drop hy)) (by rw [List.length_drop, Nat.sub_mul]; omega) (by omega) hb (fun q => by
      obtain ⟨a, c, rfl⟩ := f2.read.val; cases q)
    refine ⟨v1, _, _, v3, v4, A4, e1, e2, by rw [e3 _ ex]; exact f1, f1, a1, ?_, ex.mono fun _ _ q => q.elim, ?_, ?_⟩
    · have := a2
      rw [show i + 1 + (n - i) = n + 1 by omega] at this
      exact this
    · refine (ex.mono fun _ _ q => q.elim).trans2 a3 fun j hj q => ?_
      obtain ⟨_, _, _, q⟩ := q; cases q; omega
    · intro j hj
      rcases a4 j hj with k | k
      · obtain ⟨_, _, _, k⟩ := k; cases k; exact Nat.le_refl _
      · have := ex.size; omega
  have hbb : ∀ len cap, i ≤ cap → bndsA len cap none (some (.int k1 (i : Int))) (some (.int k2 (i : Int))) = some (0, i, i) := fun len cap hc => by
    delta bndsA; simp [bnd_nat, hc]
  have hin : i < OPEN := Nat.lt_of_le_of_lt hi (Nat.lt_trans hn (by decide))
  rcases h with ⟨h1, h2, h3⟩ | ⟨d, o, c, bs, opn, h1, h2, h3, h4, h5⟩
  · subst h1; subst h2; subst h3
    have : i = 0 := by omega
    subst this
    have hone : x.all oneCell = true := ho
    refine main (.slice none 0 0) (by simp only [sliceVA, hbb 0 0 (Nat.le_refl _)]) ?_ fun A2 _ => rfl
    unfold appA
    simp only [AS.lenA, hguard, Bool.false_eq_true, if_false, hf1, hone, if_true]
    simp [growA]
  · subst h1
    have gr : ∀ c', c' = i → appA A sz bytes (.slice (some ⟨d, o, none⟩) i c') (.slice (some ⟨q, 0, none⟩) 1 1) = some (.slice (some ⟨A.size, 0, none⟩) (i + 1) OPEN, A.alloc (.cells (cs.take (i * sz) ++ x) false sz)) := by
      rintro c' rfl
      have fo : AS.firstA A sz c' (.slice (some ⟨d, o, none⟩) c' c') = some (cs.take (c' * sz)) := by
        simp only [AS.firstA]
        by_cases z : c' * sz = 0
        · rw [if_pos z, z]; simp
        · rw [if_neg z, if_neg fun q => by rw [q] at hin; exact absurd hin (by decide)]
          simp only [rdCells, h2]
          rw [if_pos (by omega), h4, List.take_take, Nat.min_eq_left him]
      unfold appA
      simp only [AS.lenA, hguard, Bool.false_eq_true, if_false, hf1, if_pos hin, if_neg (show ¬ c' + 1 ≤ c' by omega), fo]
      simp [growA]
    have cong : ∀ A2 : AHeap, Ext NoB A A2 → sliceVA A2 sz (.slice (some ⟨d, o, none⟩) n c) (some (.int k3 (i : Int))) none none = sliceVA A sz (.slice (some ⟨d, o, none⟩) n c) (some (.int k3 (i : Int))) none none := fun A2 e => by
      have := e.get h2 fun q => q
      simp only [sliceVA, h2, this]
    rcases h5 with ⟨q1, q2, q3⟩ | ⟨q1, q2⟩ | ⟨q1, q2, q3, q4⟩
    · subst q1; subst q2
      refine main (.slice (some ⟨d, if i = 0 then o else o + 0 * opn, none⟩) (i - 0) (i - 0)) ?_ ?_ cong
      · simp only [sliceVA, if_true, h2, hbb n n hi, if_neg (show ¬ OPEN ≤ i - 0 by omega)]
        rw [if_neg (by simp [hsz])]
      · have : (if i = 0 then o else o + 0 * opn) = o := by split <;> omega
        rw [this, Nat.sub_zero]
        exact gr i rfl
    · subst q1
      have c1 : c ≠ OPEN := by omega
      have c2 : c ≠ ENDCAP := fun q => by rw [q] at q2; exact absurd q2 (by decide)
      refine main (.slice (some ⟨d, if i = 0 then o else o + 0 * sz, none⟩) (i - 0) (i - 0)) ?_ ?_ cong
      · simp only [sliceVA, if_neg c1, if_neg c2, if_neg (show ¬ OPEN ≤ c by omega), hbb c c hi, if_neg (show ¬ OPEN ≤ i - 0 by omega)]
      · have : (if i = 0 then o else o + 0 * sz) = o := by split <;> omega
        rw [this, Nat.sub_zero]
        exact gr i rfl
    · subst q1; subst q2; subst q3; subst q4
      have : i = 0 := by omega
      subst this
      have hcs0 : cs = [] := by rw [h4]; simp
      subst hcs0
      have b0 : bndsA 0 0 none (some (.int k1 ((0 : Nat) : Int))) (some (.int k2 ((0 : Nat) : Int))) = some (0, 0, 0) := hbb 0 0 (Nat.le_refl _)
      have b1 : bndsA 0 0 (some (.int k3 ((0 : Nat) : Int))) none none = some (0, 0, 0) := by
        have hbn : bnd (.int k3 ((0 : Nat) : Int)) 0 = some 0 := bnd_nat k3 0 0 (Nat.le_refl _)
        delta bndsA; simp only [hbn]
      refine ⟨.slice (some ⟨d, bs.length, none⟩) 0 ENDCAP, .slice (some ⟨A.size, 0, none⟩) 1 OPEN, (A.set d .dead).alloc (.cells ([] ++ x) false opn), .slice (some ⟨d, bs.length, none⟩) 0 ENDCAP, .slice (some ⟨A.size, 0, none⟩) 1 OPEN, (A.set d .dead).alloc (.cells ([] ++ x) false opn), ?_, ?_, ?_, ?_, ?_, ?_, ?_, ?_, ?_⟩
      · simp only [sliceVA, if_neg (show ¬ ENDCAP = OPEN by decide), if_true, b0]
      · unfold appA
        simp only [AS.lenA, hguard, Bool.false_eq_true, if_false, hf1, if_neg (show ¬ ENDCAP < OPEN by decide), if_neg (show ¬ ENDCAP = OPEN by decide), h2]
        simp [growA, ho, AHeap.size_set]
      · simp only [sliceVA, if_neg (show ¬ ENDCAP = OPEN by decide), if_true, b1]
      · simp only [sliceVA, if_neg (show ¬ ENDCAP = OPEN by decide), if_true, b1]
      · unfold appA
        have hg2 : (!(fitsA (1 + 0) bytes) || decide (opn = 0) || (isStr (.slice (some ⟨d, bs.length, none⟩) 0 ENDCAP) && opn != 1)) = false := by
          simp [fitsA, hb, hsz, isStr]
        simp only [AS.lenA, hg2, Bool.false_eq_true, if_false, AS.firstA, Nat.zero_mul, if_true]
      · refine .inr ⟨A.size, 0, OPEN, x, opn, by simp, ?_, by rw [hx]; omega, ?_, .inl ⟨rfl, rfl, by rw [hx]; omega⟩⟩
        · rw [AHeap.get_alloc]; simp
        · simp; rw [List.take_of_length_le (by omega)]
      · exact (Ext.set ⟨_, _, _, rfl⟩).trans Ext.alloc
      · exact (Ext.set ⟨_, _, _, rfl⟩).trans Ext.alloc
      · rintro j ⟨_, _, _, q⟩; cases q; exact Nat.le_refl _
end Go.AS
end

section
namespace Go.AS
open Go Go.RowKit
set_option linter.unusedSimpArgs false
set_option linter.unusedVariables false

/-! ## Known functions: what the machine lays for itself -/

section
variable {C : Comp} {ρ : Ren} {A : AHeap} {w : World} {P : Program}

/-- A block of the machine's alone. -/
theorem Tr.grow {w' : World} {o : Obj} (h : HRel C ρ A w.heap) (hh : w'.heap = w.heap.push o) (ho : w'.os = w.os) (ht : w'.tape = w.tape) (hp : w'.output = w.output) : Tr C ρ A w ρ A w' where
  rel := ⟨fun b e x he hx => by
    refine BRel.keep (Ren.le_refl _) ?_ (h.blk b e x he hx)
    by_cases hd : x = .dead
    · exact .inl hd
    · exact .inr (by rw [hh]; exact heap_push_old (brel_lt (h.blk b e x he hx) hd)), h.inj, h.glob⟩
  mono := Ren.le_refl _
  free := fun b h0 h1 => by omega
  fresh := fun b h0 h1 => absurd h0 h1
  size := Nat.le_refl _
  absent := fun _ _ _ => rfl
  still := fun _ _ _ => rfl
  newcb := fun b e h0 h1 => by rw [h0] at h1; cases h1
  frame := fun cb hcb _ => by rw [hh]; exact heap_push_old hcb
  hsize := by rw [hh, Array.size_push]; omega
  os := ho
  tape := ht
  output := hp

/-- Where one cell may be written. -/
theorem wr_cell (h : HRel C ρ A w.heap) {A' : AHeap} {b o : Nat} {en : REnt} {v : Value} (hw : wrCells A b o [v] = some A') (he : ρ b = some en) : ∃ old, w.cell? ⟨en.cb, en.base + o, none⟩ = some old ∧ w.frozen? ⟨en.cb, en.base + o, none⟩ = false ∧ oneCell v = true := by
  unfold wrCells at hw
  split at hw
  · rename_i cs opn hb
    split at hw
    · rename_i hk
      simp only [Bool.and_eq_true, decide_eq_true_eq] at hk
      obtain ⟨hle, hone⟩ := hk
      obtain ⟨cc, el, lo, hi, hh, hsz, hc, hfr, hop⟩ := cells_of h he hb
      have hlt : o < cs.length := by simp at hle; omega
      obtain ⟨v', q1, q2⟩ := hc o cs[o] (List.getElem?_eq_getElem hlt)
      refine ⟨v', ?_, ?_, by simpa using hone⟩
      · unfold World.cell?
        simp only [hh]; exact q1
      · unfold World.frozen?
        simp only [hh]
        have := hfr rfl (en.base + o) (by omega) (by omega)
        simpa using this
    · cases hw
  · cases hw

theorem calls_fn {f : FuncId} {args : List Value} {v : Value} {w' : World} (h : Calls P f args.toArray w fun e w2 => e = .returned v ∧ w2 = w') (cs : List Frame) : FnRuns P cs f args w v w' := by
  obtain ⟨e, w2, fr, ⟨rfl, rfl⟩, h1, h2, h3⟩ := h cs
  exact ⟨fr, h1, h2, h3⟩
end
end Go.AS
end

section
namespace Go.AS
open Go Go.RowKit
set_option linter.unusedSimpArgs false
set_option linter.unusedVariables false

/-! ## Tables with known functions -/
theorem errT_cell0 {P : Program} {ρ : Ren} {A : AHeap} {w : World} {tt te : Nat} (hr : HRel (CompOf P) ρ A w.heap) (h : errT tt te (A.get 0) = true) : w.cell? ⟨0, 0, none⟩ = some (.iface tt (.agg #[.pointer (some ⟨1, te, none⟩)])) := by
  unfold errT at h
  split at h
  · rename_i t e opn hA
    have hte := of_decide_eq_true h
    obtain ⟨rfl, rfl⟩ := hte
    obtain ⟨cc, el, lo, hi, h1, h2, h3, _⟩ := hr.blk 0 _ _ (hr.glob 0 (show (0 : Nat) < 8 by decide)) hA
    obtain ⟨v', q1, q2⟩ := h3 0 _ rfl
    cases q2 with
    | iface _ _ v2 q3 =>
      cases q3 with
      | agg _ cs' q4 =>
        cases q4 with
        | cons _ u _ l' q5 q6 =>
          cases q6
          cases q5 with
          | ptr _ _ en q7 =>
            rw [hr.glob 1 (show (1 : Nat) < 8 by decide)] at q7
            cases q7
            unfold World.cell?
            simp only at h1 q1 ⊢
            simp only [h1]
            simpa using q1
  · cases h


/-- The program's functions, some of them by what is known of them. -/
def tabKnown (P : Program) (known : List (Nat × Nat × List Nat × Bool)) : FTab := fun f => match known.find? (fun e => e.1 == f) with
  | some (_, k, ps, two) => (match P.funcs[f]? with
    | some F => if F.name == "runtime.NumGoroutine" then none else if F.body.isNone then none else some (specFn k ps two)
    | none => none)
  | none => tabOf P f

theorem tabKnown_ok {P : Program} {known : List (Nat × Nat × List Nat × Bool)} (h : ∀ e ∈ known, SpecOk P e.1 e.2.1 e.2.2.1 e.2.2.2) : TabOk P (tabKnown P known) := by
  intro f fn hf
  unfold tabKnown at hf
  split at hf
  · rename_i g k ps two hk
    have hm := List.mem_of_find?_eq_some hk
    have he := List.find?_some hk
    have hgf : g = f := by simpa using he
    subst hgf
    split at hf
    · rename_i F hF
      split at hf
      · cases hf
      · rename_i hn
        split at hf
        · cases hf
        · rename_i hb
          cases hf
          exact ⟨F, hF, by simpa using hn, Bool.eq_false_iff.2 hb, .inr (.inr (.inl ⟨k, ps, two, rfl, h _ hm⟩))⟩
    · cases hf
  · exact tabOf_ok P f fn hf

/-- A closed function that says yes, where errors.errorType is what it is. -/
theorem closed_known {P : Program} {T : FTab} (hT : TabOk P T) (hmix : P.follows .mixedOrders = true) {tt te : Nat} (n f : Nat) (h : isTrue (callN T (n + 1) (.func (.func f) #[] #[]) [] (A0E tt te)) = true) : SpecOk P f 1 [tt, te] false := by
  intro x y v A A' h0 hs ρ w cas hv hr hfree cs
  obtain ⟨rfl, rfl⟩ := h0 rfl
  rw [if_neg (by decide)] at hv
  cases hv
  have hE : errT tt te (A.get 0) = true ∧ v = .bool true ∧ A' = A := by
    unfold specA at hs
    simp only at hs
    split at hs
    · rename_i q
      cases hs; exact ⟨q, rfl, rfl⟩
    · cases hs
  obtain ⟨hE, rfl, rfl⟩ := hE
  have hg := errT_cell0 hr hE
  obtain ⟨A2, hA⟩ := isTrue_spec h
  have ar := Args.errT (P := P) hg
  obtain ⟨_, h2⟩ := callN_fn_sound hT hmix (callN_sound hT hmix n) hA
  obtain ⟨ρ', vc, w', h3, h4, h5⟩ := h2 ren0 w [] .nil ar.rel (fun b hb _ => ar.free b hb) cs
  cases h4
  have hb := h5.below ar.pas
  refine ⟨_, w', h3, .bool true, ⟨⟨fun b e x he hx => ?_, hr.inj, hr.glob⟩, Ren.le_refl _, fun b h1 h2 => by omega, fun b h1 h2 => absurd h1 h2, Nat.le_refl _, fun _ _ _ => rfl, fun _ _ _ => rfl, fun b e h1 h2 => (by rw [h1] at h2; cases h2), fun cb hcb _ => hb.block cb hcb, hb.size, hb.os, hb.tape, hb.output⟩⟩
  by_cases hd : x = .dead
  · subst hd; trivial
  · exact BRel.keep (Ren.le_refl _) (.inr (hb.block _ (brel_lt (hr.blk b e x he hx) hd))) (hr.blk b e x he hx)
end Go.AS
end

section
namespace Go.AS
open Go Go.RowKit
set_option linter.unusedSimpArgs false
set_option linter.unusedVariables false

/-! ## Arguments that are structs -/
theorem VRs.snoc {ρ : Ren} : ∀ {l l' : List Value} {v v' : Value}, VRs ρ (l ++ [v]) (l' ++ [v']) → VRs ρ l l' ∧ VR ρ v v'
  | [], [], _, _, h => by cases h with | cons _ _ _ _ h1 h2 => exact ⟨.nil, h1⟩
  | [], x :: l', _, _, h => by have := h.length; simp at this
  | x :: l, [], _, _, h => by have := h.length; simp at this
  | x :: l, y :: l', v, v', h => by
    cases h with
    | cons _ _ _ _ h1 h2 =>
      obtain ⟨a, b⟩ := VRs.snoc h2
      exact ⟨.cons _ _ _ _ h1 a, b⟩

/-- The last argument, put into a struct behind plain values. -/
theorem Args.wrap {P : Program} {w : World} {ρ : Ren} {A : AHeap} {vs vcs : List Value} {v vc : Value} (h : Args P w ρ A (vs ++ [v]) (vcs ++ [vc])) (l : List Value) (hl : ∀ x ∈ l, Plain x) : Args P w ρ A (vs ++ [.agg ⟨l ++ [v]⟩]) (vcs ++ [.agg ⟨l ++ [vc]⟩]) := by
  obtain ⟨h1, h2⟩ := VRs.snoc h.vrs
  exact ⟨h.rel, h.pas, h.free, h1.append (.cons _ _ _ _ (.agg _ _ ((Plain.vrs hl).append (.cons _ _ _ _ h2 .nil))) .nil)⟩

/-- A struct of plain fields. -/
theorem open_plain {H : Type} {enc : TypeId × Value → H} {P : Program} {w : World} {b0 : Nat} {r : Reach} {sp : Nat → Bool} {held : Bool} {base : Nat} {t : TypeId} {fs : Array Field} {ps : List Prim} {v : Value} {d : DataW H} {q : List MemPlace}
    (ht : P.underlying t = some (.struct fs)) (he : ElemOk P t ps) (hval : Value.okWide P w r b0 t v) (h : DataW.Trod enc P w base sp held t v d q) : ∃ cs, v = .agg ⟨cs⟩ ∧ Oks ps cs := by
  obtain ⟨cs, rfl, _⟩ := WideShapes.okWide_struct ht hval
  obtain ⟨fuel, hf⟩ := h
  exact ⟨cs.toList, rfl, he.2 enc w base sp held fuel _ _ hf⟩

/-- A struct of an int and a slice. -/
theorem open_intslice {H : Type} {enc : TypeId × Value → H} {P : Program} {w : World} {b0 : Nat} {r : Reach} {sp : Nat → Bool} {held : Bool} {base : Nat} {t e : TypeId} {f0 f1 : Field} {k : IntKind} {ps : List Prim} {v : Value} {d : DataW H} {q : List MemPlace}
    (ht : P.underlying t = some (.struct #[f0, f1])) (o0 : f0.offset = 0) (o1 : f1.offset = 1) (c0 : P.cellsOf f0.type = 1) (c1 : P.cellsOf f1.type = 1) (hc : P.cellsOf t = 2) (h0 : P.underlying f0.type = some (.int k)) (h1 : P.underlying f1.type = some (.slice e))
    (hct : P.cellTypes P.depth t = some [f0.type, f1.type]) (he : ElemOk P e ps) (hval : Value.okWide P w r b0 t v) (h : DataW.Trod enc P w base sp held t v d q) :
    ∃ (n : Int) (rows : List (List Value)) (sv : Value), v = .agg ⟨[.int k n, sv]⟩ ∧ (Lit.int k n).wf = true ∧ (∀ r ∈ rows, Oks ps r) ∧ RowC w sv rows.length ps.length rows.flatten := by
  simp only [Value.okWide, ht] at hval
  obtain ⟨cs, rfl, hsz, ts, h2, _, h3⟩ := hval
  rw [hct] at h2
  cases h2
  obtain ⟨cs⟩ := cs
  rw [hc] at hsz
  match cs, hsz with
  | [a, b], _ =>
    obtain ⟨fuel, hf⟩ := h
    obtain ⟨y0, y1, n, _, _, g0, g1⟩ := ChangeShapes.trod_struct2 ht hf
    rw [o0, c0] at g0
    rw [o1, c1] at g1
    obtain ⟨m, e1, _, hm⟩ := DataW.trod_int h0 g0
    have e1' : a = .int k m := by simpa [Value.cells] using e1
    subst e1'
    obtain ⟨u, hu, hw⟩ := h3 1 b rfl
    have : u = f1.type := by simpa using hu.symm
    subst this
    have hvb : Value.okWide P w r b0 f1.type b := by
      simp only [Value.okWide, h1]
      exact hw
    obtain ⟨sa, sn, sc, rfl⟩ := WideShapes.okWide_slice h1 hvb
    have ht1 : DataW.Trod enc P w base sp held f1.type (.slice sa sn sc) y1.1 y1.2 := ⟨n, by simpa [Value.cells] using g1⟩
    obtain ⟨rows, k1, k2⟩ := open_rows h1 he hvb ht1
    exact ⟨m, rows, _, rfl, hm, k1, k2⟩
end Go.AS
end

section
namespace Go.AS
open Go
set_option linter.unusedSimpArgs false
set_option linter.unusedVariables false

/-! ## Functions that panic, and recover -/
section
variable {P : Program} {ρ : Ren} {A : AHeap} {w : World} {a : Act} {b : Frame} {k : List Item} {cs : List Frame} {ops : Array Oper}

theorem st_panic {i : Nat} {rest : List Nat} {o : Oper} {x : Operand} {t : TypeId} {u : Value} (ho : ops[i]? = some o) (hg : o.guard = none) (hop : o.op = .panic x) (hx : a.eval x = .iface t u) :
    step P (lone (fat b a (.inRegion ops (i :: rest) :: k)) cs w) = .next (lone { (fat b a (.inRegion ops (i :: rest) :: k)) with mode := .panicking [{ v := .iface t u, recovered := false }] } cs w) := by
  have he := congrFun (fat_eval b a (.inRegion ops (i :: rest) :: k)) x
  rw [hx] at he
  simp only [fat] at he
  apply step_lone_go
  obtain ⟨dst, op, ty, pos, after, guard⟩ := o
  simp only at hg hop
  subst hg; subst hop
  simp [stepG, stepG.exec, stepG.oper, Frame.oper?, fat, ho, Region.wanted, execOp, he, Instr.panic, goPanic, stepG.apply, Frame.raise, run_bind, Sem.run]

theorem st_defer {i : Nat} {rest : List Nat} {o : Oper} {c : Call} {d : Deferred} (ho : ops[i]? = some o) (hg : o.guard = none) (hdst : o.dst = none) (hop : o.op = .defer c) (hb : b.roundOf = none) (ha : a.defers = []) (hd : (resolve a.eval c o.type).run P w = .ok d w) :
    step P (lone (fat b a (.inRegion ops (i :: rest) :: k)) cs w) = .next (lone (fat { b with defers := d :: b.defers } a (.inRegion ops rest :: k)) cs w) := by
  have he := fat_eval b a (.inRegion ops (i :: rest) :: k)
  simp only [fat] at he
  apply step_lone_go
  obtain ⟨dst, op, ty, pos, after, guard⟩ := o
  simp only at hg hop hdst hd
  subst hg; subst hop; subst hdst
  simp only [ha, hb, List.nil_append] at he
  have hr : (execOp a.eval ⟨none, .defer c, ty, pos, after, none⟩).run P w = .ok (.defer d) w := by
    simp only [execOp, run_bind, hd, run_pure]
  simp [stepG, stepG.exec, stepG.oper, Frame.oper?, fat, ho, Region.wanted, he, stepG.apply, hr, hb, Frame.finish, ha]

theorem st_recover {i : Nat} {rest : List Nat} {o : Oper} {c : Frame} {v : Value} (ho : ops[i]? = some o) (hg : o.guard = none) (hop : o.op = .call { callee := .builtin .recover, args := #[], argTypes := #[] }) (hb : b.roundOf = none) (hk : b.kind = .deferred)
    (hm : c.mode = .panicking [{ v := v, recovered := false }]) :
    step P (lone (fat b a (.inRegion ops (i :: rest) :: k)) (c :: cs) w) = .next (lone (fat b (a.put o.dst v) (.inRegion ops rest :: k)) ({ c with mode := .panicking [{ v := v, recovered := true }] } :: cs) w) := by
  rw [← finish_fat o i rest v ho]
  have he := fat_eval b a (.inRegion ops (i :: rest) :: k)
  simp only [fat] at he
  apply step_lone_go
  obtain ⟨dst, op, ty, pos, after, guard⟩ := o
  simp only at hg hop
  subst hg; subst hop
  simp only [hb, hk] at he
  have hr : (execOp a.eval ⟨dst, .call { callee := .builtin .recover, args := #[], argTypes := #[] }, ty, pos, after, none⟩).run P w = .ok .recover w := by
    simp [execOp, resolve, invoke, run_bind, run_pure]
    rfl
  simp [stepG, stepG.exec, stepG.oper, Frame.oper?, fat, ho, Region.wanted, he, stepG.apply, hr, hb, hk, tryRecover, hm]

theorem st_recover0 {i : Nat} {rest : List Nat} {o : Oper} {c : Frame} (ho : ops[i]? = some o) (hg : o.guard = none) (hop : o.op = .call { callee := .builtin .recover, args := #[], argTypes := #[] }) (hb : b.roundOf = none) (hk : b.kind = .deferred)
    (hm : c.mode = .returning) :
    step P (lone (fat b a (.inRegion ops (i :: rest) :: k)) (c :: cs) w) = .next (lone (fat b (a.put o.dst .nilIface) (.inRegion ops rest :: k)) (c :: cs) w) := by
  rw [← finish_fat o i rest _ ho]
  have he := fat_eval b a (.inRegion ops (i :: rest) :: k)
  simp only [fat] at he
  apply step_lone_go
  obtain ⟨dst, op, ty, pos, after, guard⟩ := o
  simp only at hg hop
  subst hg; subst hop
  simp only [hb, hk] at he
  have hr : (execOp a.eval ⟨dst, .call { callee := .builtin .recover, args := #[], argTypes := #[] }, ty, pos, after, none⟩).run P w = .ok .recover w := by
    simp [execOp, resolve, invoke, run_bind, run_pure]
    rfl
  simp [stepG, stepG.exec, stepG.oper, Frame.oper?, fat, ho, Region.wanted, he, stepG.apply, hr, hb, hk, tryRecover, hm]
end

/-! ### Code that may panic -/
def noExit : ACode → Bool
  | .skip | .ops _ | .opsD _ _ | .ret => true
  | .seq a b => noExit a && noExit b
  | .cond _ a b => noExit a && noExit b
  | _ => false
theorem noExit_exec {call : CallT} {fn : FuncId} {ctx : Option Nat} {n : Nat} (ac : ACode) : ∀ {st : St} {x : AExit} {st' : St}, noExit ac = true → execC call fn ctx n ac st = some (x, st') → ∀ id, x ≠ .exit id := by
  induction ac with
  | skip => intro st x st' _ h id hx; cases h; cases hx
  | ops l => intro st x st' _ h id hx; simp only [execC] at h; cases h1 : runOps call l st <;> rw [h1] at h <;> cases h; cases hx
  | opsD l chk =>
    intro st x st' _ h id hx
    simp only [execC] at h
    split at h
    · split at h
      · rename_i tr _ _
        cases h1 : tr.getLast? <;> rw [h1] at h <;> cases h
        cases hx
      · cases h
    · cases h
  | ret => intro st x st' _ h id hx; cases h; cases hx
  | seq p q ihp ihq =>
    intro st x st' hn h
    simp only [noExit, Bool.and_eq_true] at hn
    simp only [execC] at h
    split at h
    · exact ihq hn.2 h
    · exact ihp hn.1 h
  | cond c p q ihp ihq =>
    intro st x st' hn h
    simp only [noExit, Bool.and_eq_true] at hn
    simp only [execC] at h
    split at h
    · exact ihp hn.1 h
    · exact ihq hn.2 h
    · cases h
  | _ => intro st x st' hn; cases hn

/-- What code that may panic stands for. -/
inductive PC (P : Program) : Code → ACode → Prop
  | reg {c : Code} {ac : ACode} : compileC P c = some ac → noExit ac = true → PC P c ac
  | seq {a b : Code} {x y : ACode} : PC P a x → PC P b y → PC P (.seq a b) (.seq x y)
  | cond {c : Operand} {a b : Code} {x y : ACode} : okOp c = true → PC P a x → PC P b y → PC P (.cond c a b) (.cond c x y)
  | panic {id : Nat} {ops : Array Oper} {pre : List Oper} {o : Oper} {as : List AOper} {k : Nat} : ops.toList = pre ++ [o] → o.guard = none → o.op = .panic (.tmp k) → pre.mapM (compileOper P ops) = some as → PC P (.region id ops false) (.seq (.ops as) (.exit (1000000 + k)))

section
variable {P : Program} {ρ : Ren} {A : AHeap} {w : World} {a : Act} {b : Frame} {k : List Item} {cs : List Frame} {call : CallT} {fn : FuncId}

def LandsP (P : Program) (m : Machine) (b : Frame) (k : List Item) (cs : List Frame) (x : AExit) (st : St) (a : Act) (w : World) : Prop :=
  match x with
  | .normal => Steps P m (lone (fat b a k) cs w)
  | .ret => ∃ todo, Steps P m (lone (fat b a (.code .ret :: todo)) cs w)
  | .exit id => ∀ t v, st.env.rd (id - 1000000) = .iface t v → ∃ todo u, a.tmps.getD (id - 1000000) undef = .iface t u ∧ Steps P m (lone { (fat b a todo) with mode := .panicking [{ v := .iface t u, recovered := false }] } cs w)

theorem LandsP.of_steps {m m1 : Machine} {x : AExit} {st : St} (h : Steps P m m1) (h' : LandsP P m1 b k cs x st a w) : LandsP P m b k cs x st a w := by
  cases x with
  | normal => exact h.trans h'
  | exit id => intro t v hv; obtain ⟨todo, u, h1, h2⟩ := h' t v hv; exact ⟨todo, u, h1, h.trans h2⟩
  | ret => obtain ⟨t, h2⟩ := h'; exact ⟨t, h.trans h2⟩

theorem LandsP.more {m : Machine} {x : AExit} {st : St} {k2 : List Item} (hx : x ≠ .normal) (h : LandsP P m b k cs x st a w) : LandsP P m b k2 cs x st a w := by
  cases x with
  | normal => exact absurd rfl hx
  | exit id => exact h
  | ret => exact h

def SExecP (P : Program) (fn : FuncId) (c : Code) (st : St) (x : AExit) (st' : St) : Prop :=
  ∀ (ρ : Ren) (a : Act) (w : World) (b : Frame), b.fn = fn → StR ρ st a → HRel (CompOf P) ρ st.A w.heap → (∀ n, st.A.size ≤ n → n < st'.A.size → ρ n = none) → b.roundOf = none →
    ∀ k cs, ∃ ρ' a' w', LandsP P (lone (fat b a (.code c :: k)) cs w) b k cs x st' a' w' ∧ StR ρ' st' a' ∧ Tr (CompOf P) ρ st.A w ρ' st'.A w'

theorem execP_sound (hcs : CallSound P call) (hmix : P.follows .mixedOrders = true) {n : Nat} {c : Code} {ac : ACode} (hc : PC P c ac) : ∀ (st : St) (x : AExit) (st' : St), execC call fn none n ac st = some (x, st') → SExecP P fn c st x st' := by
  induction hc with
  | reg hc hn =>
    intro st x st' h ρ a w b hb hS hr hfree hR k cs
    obtain ⟨ρ1, a1, w1, l1, S1, T1⟩ := execC_sound hcs hmix _ _ _ _ _ hc h ρ a w b hb hS hr hfree hR k cs
    refine ⟨ρ1, a1, w1, ?_, S1, T1⟩
    cases x with
    | normal => exact l1
    | ret => exact l1
    | exit id => exact absurd rfl (noExit_exec _ hn h id)
  | seq hp hq ihp ihq =>
    intro st x st' h ρ a w b hb hS hr hfree hR k cs
    rename_i p q ap aq
    simp only [execC] at h
    split at h
    · rename_i st1 h3
      have s1 := execC_size hcs _ h3
      have s2 := execC_size hcs _ h
      obtain ⟨ρ1, a1, w1, l1, S1, T1⟩ := ihp _ _ _ h3 ρ a w b hb hS hr (fun n p q => hfree n p (by omega)) hR (.code q :: k) cs
      obtain ⟨ρ2, a2, w2, l2, S2, T2⟩ := ihq _ _ _ h ρ1 a1 w1 b hb S1 T1.rel (free_next T1 hfree) hR k cs
      exact ⟨ρ2, a2, w2, LandsP.of_steps (Steps.head st_seq l1) l2, S2, T1.trans T2⟩
    · rename_i hne
      obtain ⟨ρ1, a1, w1, l1, S1, T1⟩ := ihp _ _ _ h ρ a w b hb hS hr hfree hR (.code q :: k) cs
      have hx : x ≠ .normal := fun hx => by subst hx; exact hne st' h
      exact ⟨ρ1, a1, w1, LandsP.of_steps (Steps.one st_seq) (LandsP.more hx l1), S1, T1⟩
  | cond hok hp hq ihp ihq =>
    intro st x st' h ρ a w b hb hS hr hfree hR k cs
    rename_i c p q ap aq
    simp only [execC] at h
    have hv := hS.env.ev hr.glob c hok
    split at h
    · rename_i ht
      rw [ht] at hv
      obtain ⟨ρ1, a1, w1, l1, S1, T1⟩ := ihp _ _ _ h ρ a w b hb hS hr hfree hR k cs
      exact ⟨ρ1, a1, w1, LandsP.of_steps (Steps.one (st_cond (t := true) hv.bool_inv)) l1, S1, T1⟩
    · rename_i ht
      rw [ht] at hv
      obtain ⟨ρ1, a1, w1, l1, S1, T1⟩ := ihq _ _ _ h ρ a w b hb hS hr hfree hR k cs
      exact ⟨ρ1, a1, w1, LandsP.of_steps (Steps.one (st_cond (t := false) hv.bool_inv)) l1, S1, T1⟩
    · cases h
  | panic hops hg hop hm =>
    intro st x st' h ρ a w b hb hS hr hfree hR kk cs
    rename_i id ops pre o as k
    simp only [execC] at h
    cases h1 : runOps call as st with
    | none => rw [h1] at h; cases h
    | some st1 =>
      rw [h1] at h
      cases h
      have hget : ∀ j o', pre[j]? = some o' → ops[0 + j]? = some o' := by
        intro j o' hj
        have : ops.toList[j]? = some o' := by rw [hops]; exact List.getElem?_append_left (List.getElem?_eq_some_iff.1 hj).1 ▸ hj
        simpa using this
      have hlast : ops[pre.length]? = some o := by
        have : ops.toList[pre.length]? = some o := by rw [hops]; simp
        simpa using this
      have hsz : ops.size = pre.length + 1 := by rw [← Array.length_toList, hops]; simp
      obtain ⟨ρ1, a1, w1, e1, e2, e3, e4, e5, e6, e7⟩ := runOps_steps hcs pre as 0 st st' ρ a w hm hget h1 hS.env hS.n hr hfree b [pre.length] kk cs
      refine ⟨ρ1, a1, w1, ?_, ⟨e2, e3, by rw [e6, e5]; exact hS.dfs.mono e7.mono⟩, e7⟩
      intro t v hv
      have hk : 1000000 + k - 1000000 = k := by omega
      rw [hk] at hv ⊢
      have hvr := e2 k
      rw [hv] at hvr
      obtain ⟨u, hu⟩ : ∃ u, a1.tmps.getD k undef = .iface t u := by
        generalize a1.tmps.getD k undef = z at hvr
        cases hvr with
        | iface _ _ u h => exact ⟨u, rfl⟩
      refine ⟨.inRegion ops [pre.length] :: kk, u, hu, ?_⟩
      have s1 : Steps P (lone (fat b a (.code (.region id ops false) :: kk)) cs w) (lone (fat b a (.inRegion ops (List.range' 0 pre.length ++ [pre.length]) :: kk)) cs w) := by
        have := Steps.one (st_region (P := P) (b := b) (a := a) (k := kk) (cs := cs) (w := w) (ops := ops) (id := id))
        rw [hsz, List.range_succ, List.range_eq_range'] at this
        exact this
      exact (s1.trans e1).trans (Steps.one (st_panic hlast hg hop hu))

theorem runOp_dfs {o : AOper} {st st' : St} (h : runOp call o st = some st') : st'.dfs = st.dfs ∧ st'.n = st.n := by
  have put : ∀ {v A'}, putE st o.dst v A' = some st' → st'.dfs = st.dfs ∧ st'.n = st.n := by
    intro v A' h
    unfold putE at h
    split at h
    · cases h; exact ⟨rfl, rfl⟩
    · split at h
      · cases h; exact ⟨rfl, rfl⟩
      · cases h
  unfold runOp at h
  split at h
  · split at h
    · exact put h
    · cases h
  · exact put h
theorem runOps_dfs : ∀ (l : List AOper) {st st' : St}, runOps call l st = some st' → st'.dfs = st.dfs ∧ st'.n = st.n := by
  intro l
  induction l with
  | nil => intro st st' h; cases h; exact ⟨rfl, rfl⟩
  | cons o l ih =>
    intro st st' h
    simp only [runOps] at h
    split at h
    · rename_i st1 h1
      have := runOp_dfs h1
      have := ih h
      constructor <;> simp_all
    · cases h
theorem DfR.nil {ρ : Ren} {ds : List Deferred} (h : DfR ρ [] ds) : ds = [] := by
  cases ds with
  | nil => rfl
  | cons _ _ => exact h.elim
theorem exec_ops {l : List AOper} {n : Nat} {ctx : Option Nat} {st st' : St} (h : runOps call l st = some st') : execC call fn ctx n (.ops l) st = some (.normal, st') := by
  simp only [execC, h]; rfl
theorem seq_ops {l : List AOper} {c : ACode} {n : Nat} {ctx : Option Nat} {st st' : St} {x : AExit} (h : execC call fn ctx n (.seq (.ops l) c) st = some (x, st')) : ∃ st1, runOps call l st = some st1 ∧ execC call fn ctx n c st1 = some (x, st') := by
  simp only [execC] at h
  cases h1 : runOps call l st with
  | none => rw [h1] at h; cases h
  | some st1 => rw [h1] at h; exact ⟨st1, rfl, h⟩

set_option maxHeartbeats 1000000 in
/-- A function whose last deferred call recovers. -/
theorem guarded_sound {f fc : FuncId} {F Fc : Func} {R0 R1 C Cc : Code} {id2 idc : Nat} {o1 o2 p1 p2 : Oper} {l0 l1 : List AOper} {inner clos : ACode} {ao1 : AOper} {d r y : Nat} {rs : List (Nat ⊕ (Nat × Nat × Bool))}
    (hmix : P.follows .mixedOrders = true) (hF : P.funcs[f]? = some F) (hbody : F.body = some (.seq R0 (.seq R1 (.seq (.region id2 #[o1, o2] false) C)))) (h0 : compileC P R0 = some (.ops l0)) (h1 : compileC P R1 = some (.ops l1))
    (hao : compileOper P #[o1, o2] o1 = some ao1) (ho2 : o2.op = .defer { callee := .value (.tmp d), args := #[], argTypes := #[] }) (hg2 : o2.guard = none) (hd2 : o2.dst = none) (hC : PC P C inner)
    (hFc : P.funcs[fc]? = some Fc) (hnm : (Fc.name == "runtime.NumGoroutine") = false) (hbc : Fc.body = some (.seq (.region idc #[p1, p2] false) Cc)) (hcc : compileC P Cc = some clos)
    (hp1 : p1.op = .call { callee := .builtin .recover, args := #[], argTypes := #[] }) (hg1 : p1.guard = none) (hd1 : p1.dst = some r) (hp2 : p2.op = .assign (.tmp r)) (hg3 : p2.guard = none) (hd3 : p2.dst = some y) (hrc : Fc.results = #[])
    (hrs : F.results.toList.mapM (fun r => match r with | .tmp t => some (.inl t) | .cell a t => do let g ← aggOf P t; let s ← szOf P t; some (.inr (a, s, g))) = some rs) :
    SoundFn P f ⟨F.ntmps, F.params.size + F.nfree, rs, .seq (.ops l0) (.seq (.ops l1) (.seq (.ops [ao1]) (.guarded fc d Fc.ntmps r y clos inner)))⟩ := by
  intro call n hcs args x st A A2 vs hlen hx hne hu hres ρ w cas hargs hr hfree cs
  simp only at hlen hx hres
  obtain ⟨st1, e1, hx⟩ := seq_ops hx
  obtain ⟨st2, e2, hx⟩ := seq_ops hx
  obtain ⟨st3, e3, hx⟩ := seq_ops hx
  obtain ⟨cap, x1, st4, v, x2, sc, k0, k1, k2, k3, k4, k5, k6, k7, rfl, rfl⟩ := guarded_inv hx
  clear hne hx
  simp only at hu hres
  rw [k7] at hu
  cases hu
  have df1 := runOps_dfs _ e1
  have df2 := runOps_dfs _ e2
  have df3 := runOps_dfs _ e3
  simp only at df1
  have z1 := runOps_size hcs e1
  have z2 := runOps_size hcs e2
  have z3 := runOps_size hcs e3
  have z4 := execC_size hcs _ k1
  have z5 := execC_size hcs _ k4
  simp only at z1 z5
  let b0 : Frame := { fn := f, tmps := #[], todo := [], defers := [], mode := .run, kind := .normal }
  let a0 : Act := { tmps := cas.toArray ++ Array.replicate (F.ntmps - cas.toArray.size) undef, defers := [] }
  have hent : lone (Frame.enter P f cas.toArray .normal) cs w = lone (fat b0 a0 [.code (.seq R0 (.seq R1 (.seq (.region id2 #[o1, o2] false) C)))]) cs w := by
    simp only [Frame.enter, hF, Option.map_some, Option.getD_some, Option.bind_some, hbody, fat, b0, a0, List.append_nil]
  have hE0 : EnvR ρ (envOf 0 .leaf args) a0 := enter_env hargs
  have hn0 : a0.tmps.size = F.ntmps := by
    have := hargs.length
    simp only [a0, Array.size_append, Array.size_replicate, List.size_toArray]; omega
  -- the first two regions
  obtain ⟨ρ1, a1, w1, m1, S1, T1⟩ := execC_sound hcs hmix R0 _ _ _ _ h0 (exec_ops (n := n) (fn := f) (ctx := none) e1) ρ a0 w b0 rfl ⟨hE0, hn0, trivial⟩ hr (fun q p1 p2 => hfree q p1 (by omega)) rfl [.code (.seq R1 (.seq (.region id2 #[o1, o2] false) C))] cs
  obtain ⟨ρ2, a2, w2, m2, S2, T2⟩ := execC_sound hcs hmix R1 _ _ _ _ h1 (exec_ops (n := n) (fn := f) (ctx := none) e2) ρ1 a1 w1 b0 rfl S1 T1.rel (free_next T1 (fun q p1 p2 => hfree q p1 (by omega))) rfl [.code (.seq (.region id2 #[o1, o2] false) C)] cs
  have T12 := T1.trans T2
  -- the closure is made, and put off
  have e3' : runOp call ao1 st2 = some st3 := by
    simp only [runOps] at e3
    split at e3
    · rename_i s hs; cases e3; exact hs
    · cases e3
  obtain ⟨ρ3, a3, w3, m3, E3, n3, n3', d3, d3', T3⟩ := runOp_steps hcs hao e3' S2.env S2.n T2.rel (free_next T12 (fun q p1 p2 => hfree q p1 (by omega))) b0 0 [1] [.code C] cs rfl
  have T13 := T12.trans T3
  have D3 : a3.defers = [] := by
    rw [d3]
    have := S2.dfs
    rw [df2.1, df1.1] at this
    exact this.nil
  obtain ⟨cap', hcap', hcv⟩ : ∃ cap', a3.eval (.tmp d) = .func (.func fc) #[] ⟨cap'⟩ ∧ VRs ρ3 cap cap' := by
    have hvd := E3 d
    unfold capsG at k0
    split at k0
    · rename_i g cp hg
      split at k0
      · rename_i hgf
        cases k0
        subst hgf
        rw [hg] at hvd
        show ∃ cap', a3.tmps.getD d undef = _ ∧ _
        generalize a3.tmps.getD d undef = z at hvd
        cases hvd with
        | func _ _ f' _ c' q1 q2 => cases q1; exact ⟨c', rfl, q2⟩
      · cases k0
    · cases k0
  let D : Deferred := { target := .fn (.func fc) ⟨cap'⟩, args := #[] ++ #[] }
  have hres2 : (resolve a3.eval { callee := .value (.tmp d), args := #[], argTypes := #[] } o2.type).run P w3 = .ok D w3 := by
    simp only [resolve, hcap', Array.map_empty]
    rfl
  let b1 : Frame := { b0 with defers := D :: b0.defers }
  have m4 : Steps P (lone (fat b0 a2 (.code (.seq (.region id2 #[o1, o2] false) C) :: [])) cs w2) (lone (fat b1 a3 (.code C :: [])) cs w3) := by
    refine Steps.head st_seq (Steps.head st_region (m3.trans ?_))
    exact Steps.head (st_defer (o := o2) rfl hg2 hd2 ho2 rfl D3 hres2) (Steps.one st_regionEnd)
  -- what is guarded
  have S3 : StR ρ3 st3 a3 := ⟨E3, n3, by rw [d3', df2.1, df1.1, D3]; trivial⟩
  obtain ⟨ρ4, a4, w4, m5, S4, T4⟩ := execP_sound hcs hmix hC st3 x1 st4 k1 ρ3 a3 w3 b1 rfl S3 T3.rel (free_next T13 (fun q p1 p2 => hfree q p1 (by omega))) rfl [] cs
  have T14 := T13.trans T4
  have D4 : a4.defers = [] := by
    have := S4.dfs
    rw [k7] at this
    exact this.nil
  -- the closure, entered
  have hcv4 := hcv.mono T4.mono
  let bc : Frame := { fn := fc, tmps := #[], todo := [], defers := [], mode := .run, kind := .deferred }
  let ac : Act := { tmps := cap'.toArray ++ Array.replicate (Fc.ntmps - cap'.toArray.size) undef, defers := [] }
  have hinv : (invoke D.target D.args).run P w4 = .ok (.enter fc cap'.toArray) w4 := by
    show (callFunc fc ((#[] ++ #[]) ++ (⟨cap'⟩ : Array Value))).run P w4 = _
    have : ((#[] ++ #[]) ++ (⟨cap'⟩ : Array Value)) = cap'.toArray := by simp
    rw [this]
    unfold callFunc
    rw [run_bind]
    have : (program : Sem Program).run P w4 = .ok P w4 := rfl
    rw [this]
    simp only [hFc, hnm, hbc, Option.isNone_some, Bool.false_eq_true, if_false, run_pure]
  have hentc : ∀ cs, lone (Frame.enter P fc cap'.toArray .deferred) cs w4 = lone (fat bc ac [.code (.seq (.region idc #[p1, p2] false) Cc)]) cs w4 := by
    intro cs
    simp only [Frame.enter, hFc, Option.map_some, Option.getD_some, Option.bind_some, hbc, fat, bc, ac, List.append_nil]
  have hEc : EnvR ρ4 (envOf 0 .leaf cap) ac := enter_env hcv4
  have hnc : ac.tmps.size = Fc.ntmps := by
    have := hcv4.length
    have := k3.1
    simp only [ac, Array.size_append, Array.size_replicate, List.size_toArray]; omega
  -- the closure, run behind what it recovers
  have clo : ∀ (v' : Value) (c c' : Frame), VR ρ4 v v' → (∀ kk, Steps P (lone (fat bc ac (.inRegion #[p1, p2] [0, 1] :: kk)) (c :: cs) w4) (lone (fat bc (ac.put p1.dst v') (.inRegion #[p1, p2] [1] :: kk)) (c' :: cs) w4)) →
      ∃ ρ5 w5, Steps P (lone (Frame.enter P fc cap'.toArray .deferred) (c :: cs) w4) (lone { c' with mode := settle c'.mode } cs w5) ∧ Tr (CompOf P) ρ4 st4.A w4 ρ5 sc.A w5 := by
    intro v' c c' hv' hstep
    have hEr : EnvR ρ4 ((envOf 0 .leaf cap).set r v) (ac.put p1.dst v') := by rw [hd1]; exact hEc.put (by rw [hnc]; exact k3.2.1) hv'
    have hnr : (ac.put p1.dst v').tmps.size = Fc.ntmps := by rw [put_size]; exact hnc
    have hvr : VR ρ4 v ((ac.put p1.dst v').eval (.tmp r)) := by
      have := hEr r
      rw [rd_set, if_pos rfl] at this
      exact this
    have hEy : EnvR ρ4 (envG cap r y v) ((ac.put p1.dst v').put p2.dst ((ac.put p1.dst v').eval (.tmp r))) := by rw [hd3]; exact hEr.put (by rw [hnr]; exact k3.2.2) hvr
    have hny : ((ac.put p1.dst v').put p2.dst ((ac.put p1.dst v').eval (.tmp r))).tmps.size = Fc.ntmps := by rw [put_size]; exact hnr
    have hdy : ((ac.put p1.dst v').put p2.dst ((ac.put p1.dst v').eval (.tmp r))).defers = [] := by rw [put_defers, put_defers]
    obtain ⟨ρ5, a5, w5, m6, S5, T5⟩ := execC_sound hcs hmix Cc _ _ _ _ hcc k4 ρ4 _ w4 bc rfl ⟨hEy, hny, by rw [hdy]; trivial⟩ T4.rel (free_next T14 (fun q p1 p2 => hfree q p1 (by omega))) rfl [] (c' :: cs)
    have D5 : a5.defers = [] := by
      have := S5.dfs
      rw [k6] at this
      exact this.nil
    have s1 : Steps P (lone (Frame.enter P fc cap'.toArray .deferred) (c :: cs) w4) (lone (fat bc ((ac.put p1.dst v').put p2.dst ((ac.put p1.dst v').eval (.tmp r))) [.code Cc]) (c' :: cs) w4) := by
      rw [hentc]
      refine Steps.head st_seq (Steps.head st_region ((hstep [.code Cc]).trans ?_))
      refine Steps.head (st_op (o := p2) (nx := .value ((ac.put p1.dst v').eval (.tmp r))) rfl ?_ ?_ ?_ (.inl rfl)) (Steps.one st_regionEnd)
      · simp [Region.wanted, hg3]
      · rw [hp2]; intro c h; cases h
      · unfold execOp; rw [hp2]; rfl
    have fin : ∀ todo, (todo = [] ∨ ∃ r, todo = .code .ret :: r) → Steps P (lone (fat bc a5 todo) (c' :: cs) w5) (lone { c' with mode := settle c'.mode } cs w5) := by
      intro todo ht
      refine Steps.head (st_leaveFn rfl ht) (Steps.one (step_going_returned (v := .tuple #[]) rfl ⟨rfl, ?_, Fc, hFc, ?_⟩))
      · show a5.defers ++ [] = []
        rw [D5]; rfl
      · simp [results, hrc]
    refine ⟨ρ5, w5, s1.trans ?_, T5⟩
    cases x2 with
    | normal => exact m6.trans (fin [] (.inl rfl))
    | ret => obtain ⟨todo, m6⟩ := m6; exact m6.trans (fin _ (.inr ⟨todo, rfl⟩))
    | exit id => exact absurd rfl (k5 id)
  have start : Steps P (lone (Frame.enter P f cas.toArray .normal) cs w) (lone (fat b1 a3 (.code C :: [])) cs w3) := by
    rw [hent]
    exact (Steps.head st_seq m1).trans ((Steps.head st_seq m2).trans m4)
  -- the end
  have close : ∀ (fr : Frame), fr.fn = f → fr.tmps = a4.tmps → fr.kind = .normal → fr.mode = .returning → fr.defers = [] → ∀ ρ5 w5, Tr (CompOf P) ρ4 st4.A w4 ρ5 sc.A w5 → Steps P (lone (Frame.enter P f cas.toArray .normal) cs w) (lone fr cs w5) →
      ∃ ρ' vc w', FnRuns P cs f cas w vc w' ∧ VR ρ' (tupleA vs) vc ∧ Tr (CompOf P) ρ A w ρ' sc.A w' := by
    intro fr q1 q2 q3 q4 q5 ρ5 w5 T5 hs
    obtain ⟨vc, r1, r2⟩ := results_sound (a := { tmps := a4.tmps, defers := [] }) hrs T5.rel (S4.env.mono T5.mono) hres
    exact ⟨ρ5, vc, w5, ⟨fr, hs, q1, q4, q5, q3, F, by rw [q1]; exact hF, by rw [q2]; exact r1⟩, r2, T14.trans T5⟩
  have ret : ∀ todo, (todo = [] ∨ ∃ r, todo = .code .ret :: r) → v = .nilIface → Steps P (lone (fat b1 a3 (.code C :: [])) cs w3) (lone (fat b1 a4 todo) cs w4) → ∃ ρ' vc w', FnRuns P cs f cas w vc w' ∧ VR ρ' (tupleA vs) vc ∧ Tr (CompOf P) ρ A w ρ' sc.A w' := by
    intro todo ht hv hs
    subst hv
    let c : Frame := { (fat b1 a4 todo) with mode := .returning, defers := [] }
    obtain ⟨ρ5, w5, s5, T5⟩ := clo .nilIface c c .nilIface (fun kk => Steps.one (st_recover0 (o := p1) rfl hg1 hp1 rfl rfl rfl))
    refine close { c with mode := settle c.mode } rfl rfl rfl rfl rfl ρ5 w5 T5 (start.trans (hs.trans (Steps.head (st_leaveFn rfl ht) (Steps.head ?_ s5))))
    refine step_defer (fr := { (fat b1 a4 todo) with mode := .returning }) (d := D) (ds := []) (fv := .func fc) (cap := ⟨cap'⟩) (by simp) ?_ rfl hinv
    show a4.defers ++ (D :: []) = [D]
    rw [D4]; rfl
  cases x1 with
  | normal => cases k2; exact ret [] (.inl rfl) rfl m5
  | ret => cases k2; obtain ⟨todo, m5⟩ := m5; exact ret _ (.inr ⟨todo, rfl⟩) rfl m5
  | exit id =>
    simp only [valG] at k2
    split at k2
    · split at k2
      · rename_i t v0 hv0
        cases k2
        obtain ⟨todo, u, hu, m5⟩ := m5 t v0 hv0
        have hvu : VR ρ4 (.iface t v0) (.iface t u) := by
          have := S4.env (id - 1000000)
          rw [hv0, hu] at this
          exact this
        let c : Frame := { (fat b1 a4 todo) with mode := .panicking [{ v := .iface t u, recovered := false }], defers := [] }
        obtain ⟨ρ5, w5, s5, T5⟩ := clo (.iface t u) c { c with mode := .panicking [{ v := .iface t u, recovered := true }] } hvu (fun kk => Steps.one (st_recover (o := p1) rfl hg1 hp1 rfl rfl rfl))
        refine close _ rfl rfl rfl rfl rfl ρ5 w5 T5 (start.trans (m5.trans (Steps.head ?_ s5)))
        refine step_defer (fr := { (fat b1 a4 todo) with mode := .panicking [{ v := .iface t u, recovered := false }] }) (d := D) (ds := []) (fv := .func fc) (cap := ⟨cap'⟩) (by simp) ?_ rfl hinv
        show a4.defers ++ (D :: []) = [D]
        rw [D4]; rfl
      · cases k2
    · cases k2
end

/-- The program's functions, some by what is known of them, some by others that stand for them. -/
def tabAll (P : Program) (known : List (Nat × Nat × List Nat × Bool)) (stand : List (Nat × AFunc)) : FTab := fun f => match stand.find? (fun e => e.1 == f) with
  | some (_, fn) => (match P.funcs[f]? with
    | some F => if F.name == "runtime.NumGoroutine" then none else if F.body.isNone then none else some fn
    | none => none)
  | none => tabKnown P known f

theorem tabAll_ok {P : Program} {known : List (Nat × Nat × List Nat × Bool)} {stand : List (Nat × AFunc)} (h : ∀ e ∈ known, SpecOk P e.1 e.2.1 e.2.2.1 e.2.2.2) (hs : ∀ e ∈ stand, SoundFn P e.1 e.2) : TabOk P (tabAll P known stand) := by
  intro f fn hf
  unfold tabAll at hf
  split at hf
  · rename_i g fn' hk
    have hm := List.mem_of_find?_eq_some hk
    have he := List.find?_some hk
    have hgf : g = f := by simpa using he
    subst hgf
    split at hf
    · rename_i F hF
      split at hf
      · cases hf
      · rename_i hn
        split at hf
        · cases hf
        · rename_i hb
          cases hf
          exact ⟨F, hF, by simpa using hn, Bool.eq_false_iff.2 hb, .inr (.inr (.inr (hs _ hm)))⟩
    · cases hf
  · exact tabKnown_ok h f fn hf
end Go.AS
end
