import Derived.Test.YtidgbapgedegbaaAsR
namespace Go.AS
open Go
set_option linter.unusedSimpArgs false
set_option linter.unusedVariables false

section
variable {P : Program} {ρ : Ren} {A : AHeap} {w : World} {e : Env} {a : Act} {ops : Array Oper} {call : CallT}

def EnvR (ρ : Ren) (e : Env) (a : Act) : Prop := ∀ t, VR ρ (e.rd t) (a.tmps.getD t undef)

theorem EnvR.mono {ρ' : Ren} (h : EnvR ρ e a) (hle : Ren.le ρ ρ') : EnvR ρ' e a := fun t => (h t).mono hle

theorem EnvR.ev (h : EnvR ρ e a) (x : Operand) (hx : okOp x = true) : VR ρ (ev e x) (a.eval x) := by
  cases x with
  | tmp t => exact h t
  | const v => exact plainV_VR hx
  | global g => cases hx
  | func f => exact .func f _ _ _ _ .nil .nil

theorem EnvR.put (h : EnvR ρ e a) {d : Nat} {v vc : Value} (hd : d < a.tmps.size) (hv : VR ρ v vc) : EnvR ρ (e.set d v) (a.put (some d) vc) := by
  intro t
  have e1 : Env.rd (Trie.set e d v) t = if t = d then v else e.rd t := by
    unfold Env.rd; rw [Trie.get_set]; split <;> rfl
  rw [e1]
  simp only [Act.put, Array.getD_eq_getD_getElem?, Array.getElem?_setIfInBounds]
  by_cases ht : t = d
  · subst ht; rw [if_pos rfl, if_pos rfl, if_pos hd]; exact hv
  · rw [if_neg ht, if_neg (fun q => ht q.symm)]
    have := h t
    rwa [Array.getD_eq_getD_getElem?] at this

theorem EnvR.put_none (h : EnvR ρ e a) (v : Value) : EnvR ρ e (a.put none v) := h

theorem put_size (d : Option Nat) (v : Value) : (a.put d v).tmps.size = a.tmps.size := by cases d <;> simp [Act.put]
theorem put_defers (d : Option Nat) (v : Value) : (a.put d v).defers = a.defers := by cases d <;> rfl

theorem wanted_eq {o : Oper} {ao : AOper} (hc : compileOper P ops o = some ao) (h : EnvR ρ e a) : Region.wanted o (yielded ops a.tmps) = wantedA e ao.guard := by
  unfold compileOper at hc
  split at hc
  · cases hc
  · split at hc
    · rename_i hg
      cases hc
      simp [Region.wanted, hg, wantedA]
    · rename_i j want hg
      split at hc
      · rename_i d hd
        cases hc
        simp only [Region.wanted, hg, wantedA, yielded, hd, Option.bind_some]
        have hv := h d
        rw [Array.getD_eq_getD_getElem?] at hv
        cases ht : a.tmps[d]? with
        | none =>
          rw [ht] at hv
          simp only [Option.getD_none, undef] at hv
          generalize hX : e.rd d = X at hv
          cases hv
          rfl
        | some x =>
          rw [ht] at hv
          simp only [Option.getD_some] at hv
          generalize hX : e.rd d = X at hv
          cases hv <;> first | rfl | simp
      · cases hc

theorem compileOper_op {o : Oper} {ao : AOper} (hc : compileOper P ops o = some ao) : compileOp P o = some ao.op ∧ ao.dst = o.dst := by
  unfold compileOper at hc
  split at hc
  · cases hc
  · rename_i x hx
    split at hc
    · cases hc; exact ⟨hx, rfl⟩
    · split at hc
      · cases hc; exact ⟨hx, rfl⟩
      · cases hc

theorem compileOp_nodefer {o : Oper} {ao : AOp} (hc : compileOp P o = some ao) : ∀ c, o.op ≠ .defer c := by
  intro c h
  obtain ⟨dst, op, ty, pos, after, guard⟩ := o
  simp only at h
  subst h
  unfold compileOp at hc
  split at hc
  · cases hc
  · cases hc

theorem compileOp_ok {o : Oper} {ao : AOp} (hc : compileOp P o = some ao) : ∀ x ∈ o.op.operands.toList, okOp x = true := by
  unfold compileOp at hc
  split at hc
  · cases hc
  · rename_i hops
    intro x hx
    simp only [Bool.not_eq_true, Bool.not_eq_false', List.all_eq_true] at hops
    exact hops x hx

set_option maxHeartbeats 1000000 in
theorem compileOp_call {o : Oper} {f : FuncId} {args : List Operand} (hc : compileOp P o = some (.call f args)) : ∃ c, o.op = .call c ∧ c.callee = .value (.func f) ∧ args = c.args.toList := by
  obtain ⟨dst, op, ty, pos, after, guard⟩ := o
  unfold compileOp at hc
  split at hc
  · cases hc
  split at hc
  all_goals first
    | (simp [Option.bind_eq_some_iff] at hc; done)
    | skip
  all_goals (try ((repeat' split at hc) <;> first | (simp [Option.bind_eq_some_iff] at hc; done) | skip))
  all_goals first
    | (cases hc; exact ⟨_, by assumption, rfl, rfl⟩)
    | (exfalso
       simp only [Option.bind_eq_bind, Option.bind_eq_some_iff] at hc
       obtain ⟨s, _, h2⟩ := hc
       (repeat' split at h2) <;> simp [Option.bind_eq_some_iff] at h2)

set_option maxHeartbeats 1000000 in
theorem compileOp_callv {o : Oper} {f : Operand} {args : List Operand} (hc : compileOp P o = some (.callv f args)) : ∃ c, o.op = .call c ∧ c.callee = .value f ∧ args = c.args.toList := by
  obtain ⟨dst, op, ty, pos, after, guard⟩ := o
  unfold compileOp at hc
  split at hc
  · cases hc
  split at hc
  all_goals first
    | (simp [Option.bind_eq_some_iff] at hc; done)
    | skip
  all_goals (try ((repeat' split at hc) <;> first | (simp [Option.bind_eq_some_iff] at hc; done) | skip))
  all_goals first
    | (cases hc; exact ⟨_, by assumption, rfl, rfl⟩)
    | (exfalso
       simp only [Option.bind_eq_bind, Option.bind_eq_some_iff] at hc
       obtain ⟨s, _, h2⟩ := hc
       (repeat' split at h2) <;> simp [Option.bind_eq_some_iff] at h2)

/-- What one operation of a region does, wherever it stands. -/
def OpSteps (P : Program) (ops : Array Oper) (o : Oper) (a : Act) (w : World) (vc : Value) (w' : World) : Prop :=
  ∀ b i rest k cs, ops[i]? = some o → Region.wanted o (yielded ops a.tmps) = true →
    Steps P (lone (fat b a (.inRegion ops (i :: rest) :: k)) cs w) (lone (fat b (a.put o.dst vc) (.inRegion ops rest :: k)) cs w')

theorem call_steps {o : Oper} {c : Call} {f : Operand} {v : Value} {w' : World} (ho : o.op = .call c) (hf : c.callee = .value f) (h : CRuns P (a.eval f) (c.args.toList.map a.eval) w v w') : OpSteps P ops o a w v w' := by
  intro b i rest k cs hi hw
  obtain ⟨d, h1, h2⟩ := h
  have hd : ∀ c, o.op ≠ .defer c := by rw [ho]; intro c h; cases h
  have hres : (resolve a.eval c o.type).run P w = .ok d w := by
    unfold resolve
    rw [hf]
    simp only
    rw [← map_arr] 
    exact h1
  have hex : ∀ nx w2, (invoke d.target d.args).run P w = .ok nx w2 → (execOp a.eval o).run P w = .ok nx w2 := by
    intro nx w2 h
    obtain ⟨dst, op, ty, pos, after, guard⟩ := o
    simp only at ho
    subst ho
    simp only [execOp, run_bind]
    rw [hres]
    exact h
  rw [← finish_fat o i rest v hi]
  rcases h2 with ⟨f', as, h3, h4⟩ | ⟨l, f', tmps, assign, body, h3, h4⟩
  · exact Steps.head (st_enter hi hw hd (hex _ _ h3)) (h4 _ _)
  · exact Steps.head (st_round hi hw hd (hex _ _ h3)) (h4 _ _)

theorem val_steps (hcs : CallSound P call) {o : Oper} {ao : AOp} {v : Value} {A' : AHeap} (hc : compileOp P o = some ao) (h : opVal call e A ao = some (v, A')) (hE : ∀ x ∈ o.op.operands.toList, VR ρ (ev e x) (a.eval x)) (hr : HRel (CompOf P) ρ A w.heap)
    (hfree : ∀ n, A.size ≤ n → n < A'.size → ρ n = none) : ∃ ρ' vc w', OpSteps P ops o a w vc w' ∧ VR ρ' v vc ∧ Tr (CompOf P) ρ A w ρ' A' w' := by
  have simple : lop e A ao = some (v, A') → ∃ ρ' vc w', OpSteps P ops o a w vc w' ∧ VR ρ' v vc ∧ Tr (CompOf P) ρ A w ρ' A' w' := by
    intro h
    obtain ⟨ρ', nx, vc, w', h1, h2, h3, h4⟩ := lop_sound (C := CompOf P) (cev := a.eval) hc h hE hr hfree
    exact ⟨ρ', vc, w', fun b i rest k cs hi hw => Steps.one (st_op hi hw (compileOp_nodefer hc) h1 h2), h3, h4⟩
  have calls : ∀ (c : Call) (f : Operand), o.op = .call c → c.callee = .value f → call (ev e f) (c.args.toList.map (ev e)) A = some (v, A') → ∃ ρ' vc w', OpSteps P ops o a w vc w' ∧ VR ρ' v vc ∧ Tr (CompOf P) ρ A w ρ' A' w' := by
    intro c f ho hf hcall
    rw [ho] at hE
    have has : VRs ρ (c.args.toList.map (ev e)) (c.args.toList.map a.eval) := VRs.map fun x hx => hE x (by simp only [Op.operands, Call.operands, hf]; simp only [Array.toList_append, List.mem_append]; exact .inr hx)
    obtain ⟨ρ', vc, w', h1, h2, h3⟩ := (hcs _ _ _ _ _ hcall).2 ρ w (a.eval f) _ (hE f (by simp [Op.operands, Call.operands, hf])) has hr hfree
    exact ⟨ρ', vc, w', call_steps ho hf h1, h2, h3⟩
  cases ao with
  | call f args =>
    obtain ⟨c, h1, h2, h3⟩ := compileOp_call hc
    subst h3
    exact calls c (.func f) h1 h2 h
  | callv f args =>
    obtain ⟨c, h1, h2, h3⟩ := compileOp_callv hc
    subst h3
    exact calls c f h1 h2 h
  | _ => exact simple h

theorem opVal_size (hcs : CallSound P call) {ao : AOp} {v : Value} {A' : AHeap} (h : opVal call e A ao = some (v, A')) : A.size ≤ A'.size := by
  cases ao with
  | call f args => exact (hcs _ _ _ _ _ h).1
  | callv f args => exact (hcs _ _ _ _ _ h).1
  | _ => simp only [opVal] at h; exact lop_size h

theorem putE_A {st st' : St} {d : Option Nat} {v : Value} {A' : AHeap} (h : putE st d v A' = some st') : st'.A = A' := by
  unfold putE at h
  split at h
  · cases h; rfl
  · split at h
    · cases h; rfl
    · cases h

theorem runOp_size (hcs : CallSound P call) {ao : AOper} {st st' : St} (h : runOp call ao st = some st') : st.A.size ≤ st'.A.size := by
  unfold runOp at h
  split at h
  · split at h
    · rename_i v A' hv
      rw [putE_A h]; exact opVal_size hcs hv
    · cases h
  · rw [putE_A h]; exact Nat.le_refl _

theorem runOps_size (hcs : CallSound P call) {aos : List AOper} : ∀ {st st' : St}, runOps call aos st = some st' → st.A.size ≤ st'.A.size := by
  induction aos with
  | nil => intro st st' h; cases h; exact Nat.le_refl _
  | cons ao aos ih =>
    intro st st' h
    simp only [runOps] at h
    split at h
    · rename_i st1 h1
      exact Nat.le_trans (runOp_size hcs h1) (ih h)
    · cases h

/-- One operation, its value put into its slot. -/
theorem runOp_steps (hcs : CallSound P call) {o : Oper} {ao : AOper} (hco : compileOper P ops o = some ao) {st st' : St} (h : runOp call ao st = some st') (hE : EnvR ρ st.env a) (hn : a.tmps.size = st.n) (hr : HRel (CompOf P) ρ st.A w.heap)
    (hfree : ∀ n, st.A.size ≤ n → n < st'.A.size → ρ n = none) :
    ∃ ρ' a' w', (∀ b i rest k cs, ops[i]? = some o → Steps P (lone (fat b a (.inRegion ops (i :: rest) :: k)) cs w) (lone (fat b a' (.inRegion ops rest :: k)) cs w')) ∧
      EnvR ρ' st'.env a' ∧ a'.tmps.size = st'.n ∧ st'.n = st.n ∧ a'.defers = a.defers ∧ st'.dfs = st.dfs ∧ Tr (CompOf P) ρ st.A w ρ' st'.A w' := by
  obtain ⟨hc, hdst⟩ := compileOper_op hco
  have hw := wanted_eq hco hE
  unfold runOp at h
  have put : ∀ {ρ' : Ren} {v vc : Value} {A' : AHeap}, putE st ao.dst v A' = some st' → EnvR ρ' st.env a → VR ρ' v vc → EnvR ρ' st'.env (a.put o.dst vc) ∧ (a.put o.dst vc).tmps.size = st'.n ∧ st'.n = st.n ∧ st'.dfs = st.dfs ∧ st'.A = A' := by
    intro ρ' v vc A' hp hE' hv
    rw [hdst] at hp
    unfold putE at hp
    cases ho : o.dst with
    | none => rw [ho] at hp; cases hp; exact ⟨hE', hn, rfl, rfl, rfl⟩
    | some d =>
      rw [ho] at hp
      simp only at hp
      split at hp
      · rename_i hd
        cases hp
        exact ⟨hE'.put (by rw [hn]; exact hd) hv, by rw [put_size]; exact hn, rfl, rfl, rfl⟩
      · cases hp
  split at h
  · rename_i hwt
    cases hv : opVal call st.env st.A ao.op with
    | none => rw [hv] at h; cases h
    | some r =>
      obtain ⟨v, A'⟩ := r
      rw [hv] at h
      simp only at h
      have hA : st'.A = A' := by
        unfold putE at h
        split at h
        · cases h; rfl
        · split at h
          · cases h; rfl
          · cases h
      obtain ⟨ρ', vc, w', h1, h2, h3⟩ := val_steps hcs hc hv (fun x hx => hE.ev x (compileOp_ok hc x hx)) hr (by rw [← hA]; exact hfree)
      obtain ⟨p1, p2, p3, p4, p5⟩ := put h (hE.mono h3.mono) h2
      exact ⟨ρ', a.put o.dst vc, w', fun b i rest k cs hi => h1 b i rest k cs hi (by rw [hw]; exact hwt), p1, p2, p3, put_defers _ _, p4, by rw [hA]; exact h3⟩
  · rename_i hwt
    obtain ⟨p1, p2, p3, p4, p5⟩ := put h hE (.tuple _ _ .nil : VR ρ undef undef)
    exact ⟨ρ, a.put o.dst undef, w, fun b i rest k cs hi => Steps.one (st_opSkip hi (by rw [hw]; simpa using hwt)), p1, p2, p3, put_defers _ _, p4, by rw [p5]; exact Tr.refl hr⟩

/-- A row of operations, in the order of the text. -/
theorem runOps_steps (hcs : CallSound P call) (os : List Oper) : ∀ (aos : List AOper) (i : Nat) (st st' : St) (ρ : Ren) (a : Act) (w : World), os.mapM (compileOper P ops) = some aos → (∀ j o, os[j]? = some o → ops[i + j]? = some o) →
    runOps call aos st = some st' → EnvR ρ st.env a → a.tmps.size = st.n → HRel (CompOf P) ρ st.A w.heap → (∀ n, st.A.size ≤ n → n < st'.A.size → ρ n = none) →
    ∃ ρ' a' w', (∀ b k cs, Steps P (lone (fat b a (.inRegion ops (List.range' i os.length) :: k)) cs w) (lone (fat b a' (.inRegion ops [] :: k)) cs w')) ∧
      EnvR ρ' st'.env a' ∧ a'.tmps.size = st'.n ∧ st'.n = st.n ∧ a'.defers = a.defers ∧ st'.dfs = st.dfs ∧ Tr (CompOf P) ρ st.A w ρ' st'.A w' := by
  induction os with
  | nil =>
    intro aos i st st' ρ a w hm _ h hE hn hr _
    cases hm; cases h
    exact ⟨ρ, a, w, fun b k cs => Steps.refl _ _, hE, hn, rfl, rfl, rfl, Tr.refl hr⟩
  | cons o os ih =>
    intro aos i st st' ρ a w hm hget h hE hn hr hfree
    simp only [List.mapM_cons, Option.bind_eq_bind, Option.pure_def] at hm
    cases h1 : compileOper P ops o with
    | none => rw [h1] at hm; cases hm
    | some ao =>
      rw [h1] at hm; simp only [Option.bind_some] at hm
      cases h2 : os.mapM (compileOper P ops) with
      | none => rw [h2] at hm; cases hm
      | some aos2 =>
        rw [h2] at hm; cases hm
        simp only [runOps] at h
        cases h3 : runOp call ao st with
        | none => rw [h3] at h; cases h
        | some st1 =>
          rw [h3] at h; simp only at h
          have hs1 := runOp_size hcs h3
          have hs2 := runOps_size hcs h
          obtain ⟨ρ1, a1, w1, e1, e2, e3, e4, e5, e6, e7⟩ := runOp_steps hcs h1 h3 hE hn hr (fun n a b => hfree n a (by omega))
          obtain ⟨ρ2, a2, w2, f1, f2, f3, f4, f5, f6, f7⟩ := ih aos2 (i + 1) st1 st' ρ1 a1 w1 h2 (fun j o' hj => by have := hget (j + 1) o' (by simpa using hj); rw [← this]; congr 1; omega) h e2 e3 e7.rel
            (fun n a b => by
              cases hρ : ρ1 n with
              | none => rfl
              | some en =>
                have h0 := hfree n (by omega) b
                have := e7.fresh n h0 (by rw [hρ]; simp)
                omega)
          refine ⟨ρ2, a2, w2, fun b k cs => ?_, f2, f3, f4.trans e4, f5.trans e5, f6.trans e6, e7.trans f7⟩
          have hi : ops[i]? = some o := by simpa using hget 0 o rfl
          rw [List.length_cons, List.range'_succ]
          exact (e1 b i _ k cs hi).trans (f1 b k cs)

end
end Go.AS
