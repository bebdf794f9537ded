import Derived.Test.YtidgbapgedegbaaAsY
namespace Go.AS
open Go
set_option linter.unusedSimpArgs false
set_option linter.unusedVariables false

section
variable {P : Program} {ρ : Ren} {A : AHeap} {w : World} {e : Env} {a : Act} {ops : Array Oper} {call : CallT} {b : Frame} {k : List Item} {cs : List Frame} {fn : FuncId} {ctx : Option Nat}

theorem iter_size {f : St → Option (AExit × St)} (hf : ∀ st x st', f st = some (x, st') → st.A.size ≤ st'.A.size) (n : Nat) : ∀ {st : St} {x : AExit} {st' : St}, iter f n st = some (x, st') → st.A.size ≤ st'.A.size := by
  induction n with
  | zero => intro st x st' h; cases h
  | succ n ih =>
    intro st x st' h
    simp only [iter] at h
    split at h
    · rename_i st1 h1
      exact Nat.le_trans (hf _ _ _ h1) (ih h)
    · rename_i r h1
      cases h
      exact hf _ _ _ h1
    · cases h

theorem runTrace_size (hcs : CallSound P call) {l : List AOper} : ∀ {st : St} {tr : List St} {st' : St}, runTrace call l st = some tr → tr.getLast? = some st' → st.A.size ≤ st'.A.size := by
  induction l with
  | nil => intro st tr st' h hl; cases h; cases hl; exact Nat.le_refl _
  | cons o l ih =>
    intro st tr st' h hl
    simp only [runTrace] at h
    split at h
    · rename_i st1 h1
      split at h
      · rename_i tr1 h2
        cases h
        have hne : tr1 ≠ [] := by
          intro h0; subst h0
          cases l with
          | nil => cases h2
          | cons o2 l => simp only [runTrace] at h2; (repeat' split at h2) <;> cases h2
        rw [List.getLast?_cons_of_ne_nil hne] at hl
        exact Nat.le_trans (runOp_size hcs h1) (ih h2 hl)
      · cases h
    · cases h

theorem execC_size (hcs : CallSound P call) {n : Nat} (ac : ACode) : ∀ {st : St} {x : AExit} {st' : St}, execC call fn ctx n ac st = some (x, st') → st.A.size ≤ st'.A.size := by
  induction ac with
  | skip => intro st x st' h; cases h; exact Nat.le_refl _
  | ops l =>
    intro st x st' h
    simp only [execC] at h
    cases h1 : runOps call l st with
    | none => rw [h1] at h; cases h
    | some st1 => rw [h1] at h; cases h; exact runOps_size hcs h1
  | opsD l chk =>
    intro st x st' h
    simp only [execC] at h
    split at h
    · rename_i tr htr
      split at h
      · cases hl : tr.getLast? with
        | none => rw [hl] at h; cases h
        | some st1 =>
          rw [hl] at h; cases h
          exact runTrace_size hcs htr hl
      · cases h
    · cases h
  | seq p q ihp ihq =>
    intro st x st' h
    simp only [execC] at h
    split at h
    · rename_i st1 h1
      exact Nat.le_trans (ihp h1) (ihq h)
    · exact ihp h
  | cond c p q ihp ihq =>
    intro st x st' h
    simp only [execC] at h
    split at h
    · exact ihp h
    · exact ihq h
    · cases h
  | block id p ih =>
    intro st x st' h
    simp only [execC] at h
    split at h
    · rename_i id' st1 h1
      split at h
      · cases h; exact ih h1
      · cases h; exact ih h1
    · exact ih h
  | loop p ih =>
    intro st x st' h
    exact iter_size (fun st x st' h => ih h) n h
  | exit id => intro st x st' h; cases h; exact Nat.le_refl _
  | ret => intro st x st' h; cases h; exact Nat.le_refl _
  | rangeFunc f params assign body _ _ =>
    intro st x st' h
    have go : ∀ (st0 : St) (d : Nat), (match call (ev st0.env f) [.func (.yield st0.A.size) #[] #[]] (st0.A.alloc (.loop .ready none fn st0.n st0.env params assign body d)) with
      | some (_, A2) => match A2.get st0.A.size with
        | some (.loop s p f' n' e' ps a' b' d') => if s = .busy then none else
          match exitOf p with
          | some x => some (x, { st0 with A := A2.set st0.A.size (.loop .exhausted p f' n' e' ps a' b' d') })
          | none => none
        | _ => none
      | none => none) = some (x, st') → st0.A.size ≤ st'.A.size := by
      intro st0 d h
      split at h
      · rename_i v A2 hc
        have := (hcs _ _ _ _ _ hc).1
        simp only [AHeap.size_alloc] at this
        split at h
        · split at h
          · cases h
          · split at h
            · cases h; simp; omega
            · cases h
        · cases h
      · cases h
    simp only [execC] at h
    split at h
    · have := go { st with A := st.A.alloc (.dfr false), dfs := st.A.size :: st.dfs } st.A.size h; simp at this; omega
    · split at h
      · exact go _ _ h
      · cases h

theorem free_next {ρ1 : Ren} {A A1 A2 : AHeap} {w w1 : World} {C : Comp} (h : Tr C ρ A w ρ1 A1 w1) (hf : ∀ n, A.size ≤ n → n < A2.size → ρ n = none) : ∀ n, A1.size ≤ n → n < A2.size → ρ1 n = none := by
  intro n h1 h2
  cases hρ : ρ1 n with
  | none => rfl
  | some en =>
    have h0 := hf n (Nat.le_trans h.size h1) h2
    have := h.fresh n h0 (by rw [hρ]; simp)
    omega

theorem StR.mono {ρ' : Ren} {st : St} (h : StR ρ st a) (hle : Ren.le ρ ρ') : StR ρ' st a := ⟨h.env.mono hle, h.n, h.dfs.mono hle⟩

/-- Enough rounds of a loop. -/
theorem iter_sound (c : Code) (f : St → Option (AExit × St)) (hsz : ∀ st x st', f st = some (x, st') → st.A.size ≤ st'.A.size)
    (hf : ∀ st x st', f st = some (x, st') → SExec P fn ctx c st x st') (n : Nat) : ∀ (st : St) (x : AExit) (st' : St), iter f n st = some (x, st') →
      ∀ (ρ : Ren) (a : Act) (w : World) (b : Frame), b.fn = fn → StR ρ st a → HRel (CompOf P) ρ st.A w.heap → (∀ n, st.A.size ≤ n → n < st'.A.size → ρ n = none) → RoundR ρ ctx b →
      ∃ ρ' a' w', x ≠ .normal ∧ (∀ k cs, Lands P (lone (fat b a (.code c :: .inLoop c :: k)) cs w) b k cs x a' w') ∧ StR ρ' st' a' ∧ Tr (CompOf P) ρ st.A w ρ' st'.A w' := by
  induction n with
  | zero => intro st x st' h; cases h
  | succ n ih =>
    intro st x st' h ρ a w b hb hS hr hfree hR
    simp only [iter] at h
    split at h
    · rename_i st1 h1
      have s1 := hsz _ _ _ h1
      have s2 := iter_size hsz n h
      obtain ⟨ρ1, a1, w1, l1, S1, T1⟩ := hf _ _ _ h1 ρ a w b hb hS hr (fun n p q => hfree n p (by omega)) hR
      obtain ⟨ρ2, a2, w2, hx, l2, S2, T2⟩ := ih _ _ _ h ρ1 a1 w1 b hb S1 T1.rel (free_next T1 hfree) (hR.mono T1.mono)
      refine ⟨ρ2, a2, w2, hx, fun k cs => ?_, S2, T1.trans T2⟩
      have := l1 (.inLoop c :: k) cs
      exact Lands.of_steps (Steps.trans this (Steps.one st_inLoop)) (l2 k cs)
    · rename_i r hne h1
      cases h
      obtain ⟨ρ1, a1, w1, l1, S1, T1⟩ := hf _ _ _ h1 ρ a w b hb hS hr hfree hR
      have hx : x ≠ .normal := fun h => hne st' (by rw [h])
      exact ⟨ρ1, a1, w1, hx, fun k cs => Lands.pass hx (fun id k2 _ => rfl) (l1 (.inLoop c :: k) cs), S1, T1⟩
    · cases h

theorem run_endLoop {l : Nat} {r : Loop} (h : w.heap[l]? = some (.loop r)) (hs : r.state ≠ .busy) : (Instr.endLoop l).run P w = .ok r.pending { w with heap := w.heap.setIfInBounds l (.loop { r with state := .exhausted }) } := by
  have hb : (r.state == LoopState.busy) = false := by simpa using hs
  simp only [Instr.endLoop, run_bind, run_getLoop h, hb, Bool.false_eq_true, if_false, run_setObj h (fun _ _ _ => by simp), run_pure]

theorem range_size (hcs : CallSound P call) {f : Operand} {params : List Nat} {aa ab : ACode} {st0 : St} {d : Nat} {x : AExit} {st' : St}
    (h : (match call (ev st0.env f) [.func (.yield st0.A.size) #[] #[]] (st0.A.alloc (.loop .ready none fn st0.n st0.env params aa ab d)) with
      | some (_, A2) => match A2.get st0.A.size with
        | some (.loop s p f' n' e' ps a' b' d') => if s = .busy then none else
          match exitOf p with
          | some x => some (x, { st0 with A := A2.set st0.A.size (.loop .exhausted p f' n' e' ps a' b' d') })
          | none => none
        | _ => none
      | none => none) = some (x, st')) : st0.A.size < st'.A.size := by
  split at h
  · rename_i v A2 hc
    have := (hcs _ _ _ _ _ hc).1
    simp only [AHeap.size_alloc] at this
    split at h
    · split at h
      · cases h
      · split at h
        · cases h; simp; omega
        · cases h
    · cases h
  · cases h

/-- A loop over a function, from where its record is to be laid. -/
theorem range_sound (hcs : CallSound P call) {f : Operand} {params : Array Tmp} {assign body : Code} {aa ab : ACode} (hf : okOp f = true) (ha : compileC P assign = some aa) (hb : compileC P body = some ab)
    {st0 : St} {d : Nat} {x : AExit} {st' : St}
    (h : (match call (ev st0.env f) [.func (.yield st0.A.size) #[] #[]] (st0.A.alloc (.loop .ready none fn st0.n st0.env params.toList aa ab d)) with
      | some (_, A2) => match A2.get st0.A.size with
        | some (.loop s p f' n' e' ps a' b' d') => if s = .busy then none else
          match exitOf p with
          | some x => some (x, { st0 with A := A2.set st0.A.size (.loop .exhausted p f' n' e' ps a' b' d') })
          | none => none
        | _ => none
      | none => none) = some (x, st'))
    {ρ : Ren} {a : Act} {w w0 : World} {b : Frame} (hbf : b.fn = fn) {mark : List Deferred} {ed : REnt} (hd : ρ d = some ed)
    (hS : StR ρ st0 { a with defers := mark ++ a.defers }) (hr : HRel (CompOf P) ρ st0.A w0.heap) (hfree : ∀ n, st0.A.size ≤ n → n < st'.A.size → ρ n = none)
    (hent : (Instr.enterLoop b.fn a.tmps params assign body b.roundOf).run P w = .ok (w0.heap.size, mark) { w0 with heap := w0.heap.push (.loop { state := .ready, pending := none, fn := b.fn, tmps := a.tmps, params := params, assign := assign, body := body, defers := ed.cb }) }) :
    ∃ ρ' a' w', (∀ k cs, Lands P (lone (fat b a (.code (.rangeFunc f params assign body) :: k)) cs w) b k cs x a' w') ∧ StR ρ' st' a' ∧ Tr (CompOf P) ρ st0.A w0 ρ' st'.A w' := by
  split at h
  case h_2 => cases h
  rename_i v A2 hcall
  split at h
  case h_2 => cases h
  rename_i s p f' n' e' ps a' b' d' hget
  split at h
  · cases h
  rename_i hbusy
  split at h
  case h_2 => cases h
  rename_i x' hx
  cases h
  have hsz := (hcs _ _ _ _ _ hcall).1
  simp only [AHeap.size_alloc] at hsz
  have hf0 : ρ st0.A.size = none := hfree _ (Nat.le_refl _) (by simp; omega)
  let w1 : World := { w0 with heap := w0.heap.push (.loop { state := .ready, pending := none, fn := b.fn, tmps := a.tmps, params := params, assign := assign, body := body, defers := ed.cb }) }
  let en : REnt := ⟨w0.heap.size, 0, 0, 0⟩
  have hle : Ren.le ρ (Ren.upd ρ st0.A.size en) := Ren.le_upd hf0
  have T1 : Tr (CompOf P) ρ st0.A w0 (Ren.upd ρ st0.A.size en) (st0.A.alloc (.loop .ready none fn st0.n st0.env params.toList aa ab d)) w1 := by
    refine Tr.alloc (e := en) hr hf0 rfl rfl ?_ rfl rfl rfl
    exact ⟨_, heap_push_new, rfl, rfl, hbf, rfl, ha, hb, hS.n, fun t => (hS.env t).mono hle, ed, hle _ _ hd, rfl⟩
  have hvf : VR (Ren.upd ρ st0.A.size en) (ev st0.env f) (a.eval f) := by
    have := (hS.env.ev f hf).mono hle
    cases f <;> exact this
  obtain ⟨ρ2, vc, w2, hrun, hv, T2⟩ := (hcs _ _ _ _ _ hcall).2 (Ren.upd ρ st0.A.size en) w1 (a.eval f) [.func (.yield w0.heap.size) #[] #[]] hvf
    (.cons _ _ _ _ (.yield _ en Ren.upd_same) .nil) T1.rel (free_next T1 (fun n p q => hfree n p (by simpa using q)))
  have hl2 : ρ2 st0.A.size = some en := T2.mono _ _ Ren.upd_same
  obtain ⟨cl, g1, g2, g3, g4, g5, g6, g7, g8, g9, ed2, g10, g11⟩ := T2.rel.blk _ _ _ hl2 hget
  have hend := run_endLoop (P := P) (w := w2) g1 (by rw [g2]; exact hbusy)
  have hlt : w0.heap.size < w2.heap.size := by
    rcases Nat.lt_or_ge w0.heap.size w2.heap.size with q | q
    · exact q
    · have g1' : w2.heap[w0.heap.size]? = some (.loop cl) := g1
      rw [Array.getElem?_eq_none q] at g1'; cases g1'
  have T3 : Tr (CompOf P) ρ2 A2 w2 ρ2 (A2.set st0.A.size (.loop .exhausted p f' n' e' ps a' b' d')) { w2 with heap := w2.heap.setIfInBounds w0.heap.size (.loop { cl with state := .exhausted }) } := by
    refine Tr.upd T2.rel hl2 hget (fun hp => hp) (.inr (fun hp => hp)) (by simp) (fun cb hcb => by
      have : ¬ (w0.heap.size = cb) := fun q => hcb q.symm
      simp [Array.getElem?_setIfInBounds, this]) ?_ rfl rfl rfl
    refine ⟨{ cl with state := .exhausted }, ?_, rfl, g3, g4, g5, g6, g7, g8, g9, ed2, g10, g11⟩
    show (w2.heap.setIfInBounds w0.heap.size _)[w0.heap.size]? = _
    simp [Array.getElem?_setIfInBounds, hlt]
  refine ⟨ρ2, { a with defers := mark ++ a.defers }, _, fun k cs => ?_, ⟨(hS.env.mono hle).mono T2.mono, hS.n, (hS.dfs.mono hle).mono T2.mono⟩, T1.trans (T2.trans T3)⟩
  obtain ⟨dd, r1, r2⟩ := hrun
  have hsteps : Steps P (lone (fat b a (.code (.rangeFunc f params assign body) :: k)) cs w) (lone (fat b { a with defers := mark ++ a.defers } (.endRangeFunc w0.heap.size :: k)) cs w2) := by
    have hfin : (fat b { a with defers := mark ++ a.defers } (.inRangeFunc w0.heap.size :: k)).finish vc = fat b { a with defers := mark ++ a.defers } (.endRangeFunc w0.heap.size :: k) := rfl
    rcases r2 with ⟨g, as, r3, r4⟩ | ⟨l', g, tmps, asg, bd, r3, r4⟩
    · exact Steps.head (st_range hent r1 r3 (.inl ⟨g, as, rfl, rfl⟩)) (hfin ▸ r4 (fat b { a with defers := mark ++ a.defers } (.inRangeFunc w0.heap.size :: k)) cs)
    · exact Steps.head (st_range hent r1 r3 (.inr ⟨l', g, tmps, asg, bd, rfl, rfl⟩)) (hfin ▸ r4 (fat b { a with defers := mark ++ a.defers } (.inRangeFunc w0.heap.size :: k)) cs)
  have hsteps2 := hsteps.trans (Steps.one (st_endRange (k := k) (cs := cs) hend))
  subst g3
  unfold exitOf at hx
  split at hx
  · rename_i heq
    cases hx
    rw [show (cl.pending.map Item.code).toList ++ k = k from by rw [heq]; rfl] at hsteps2
    exact hsteps2
  · rename_i heq
    cases hx
    rw [show (cl.pending.map Item.code).toList ++ k = .code .ret :: k from by rw [heq]; rfl] at hsteps2
    exact ⟨k, hsteps2⟩
  · rename_i id heq
    cases hx
    rw [show (cl.pending.map Item.code).toList ++ k = .code (.exit id) :: k from by rw [heq]; rfl] at hsteps2
    exact ⟨[], fun _ => rfl, hsteps2⟩
  · cases hx

theorem execC_sound (hcs : CallSound P call) (hmix : P.follows .mixedOrders = true) {n : Nat} (c : Code) : ∀ (ac : ACode) (st : St) (x : AExit) (st' : St), compileC P c = some ac → execC call fn ctx n ac st = some (x, st') → SExec P fn ctx c st x st' := by
  induction c with
  | skip =>
    intro ac st x st' hc h ρ a w b hb hS hr hfree hR
    cases hc; cases h
    exact ⟨ρ, a, w, fun k cs => Steps.one st_skip, hS, Tr.refl hr⟩
  | label l =>
    intro ac st x st' hc h ρ a w b hb hS hr hfree hR
    cases hc; cases h
    exact ⟨ρ, a, w, fun k cs => Steps.one st_label, hS, Tr.refl hr⟩
  | region id ops draw =>
    intro ac st x st' hc h ρ a w b hb hS hr hfree hR
    cases draw with
    | true =>
      simp only [compileC] at hc
      cases h1 : compileOps P ops with
      | none => rw [h1] at hc; cases hc; cases h
      | some aos =>
        rw [h1] at hc
        simp only at hc
        cases h2 : certD ops.toList aos with
        | none => rw [h2] at hc; cases hc; cases h
        | some chk =>
          rw [h2] at hc; cases hc
          simp only [execC] at h
          cases h3 : runTrace call aos st with
          | none => rw [h3] at h; cases h
          | some tr =>
            rw [h3] at h
            simp only at h
            split at h
            · rename_i hchk
              obtain ⟨S, X, s0, s1⟩ := DCtx.of hcs h1 h2 h3 hchk
              rw [s1] at h
              simp only [Option.map_some, Option.some.injEq, Prod.mk.injEq] at h
              obtain ⟨hx, hs⟩ := h
              subst hx; subst hs; subst s0
              obtain ⟨ρ1, a1, w1, e1, e2, e3, e4, e5, e6⟩ := regionD_steps X hmix fn (id := id) hS.env hS.n hr hfree
              exact ⟨ρ1, a1, w1, fun k cs => e1 b hb k cs, ⟨e2, e3, by rw [e5, e4]; exact hS.dfs.mono e6.mono⟩, e6⟩
            · cases h
    | false =>
      simp only [compileC] at hc
      cases h1 : compileOps P ops with
      | none => rw [h1] at hc; cases hc; cases h
      | some as =>
        rw [h1] at hc; cases hc
        simp only [execC] at h
        cases h2 : runOps call as st with
        | none => rw [h2] at h; cases h
        | some st1 =>
          rw [h2] at h; cases h
          obtain ⟨ρ1, a1, w1, e1, e2, e3, e4, e5, e6, e7⟩ := runOps_steps hcs ops.toList as 0 st st' ρ a w h1 (fun j o hj => by simpa using hj) h2 hS.env hS.n hr hfree
          refine ⟨ρ1, a1, w1, fun k cs => ?_, ⟨e2, e3, by rw [e6, e5]; exact hS.dfs.mono e7.mono⟩, e7⟩
          have := e1 b k cs
          rw [Array.length_toList, ← List.range_eq_range'] at this
          exact (Steps.head st_region this).trans (Steps.one st_regionEnd)
  | seq p q ihp ihq =>
    intro ac st x st' hc h ρ a w b hb hS hr hfree hR
    simp only [compileC, Option.bind_eq_bind] at hc
    cases h1 : compileC P p with
    | none => rw [h1] at hc; cases hc
    | some ap =>
      rw [h1] at hc; simp only [Option.bind_some] at hc
      cases h2 : compileC P q with
      | none => rw [h2] at hc; cases hc
      | some aq =>
        rw [h2] at hc; cases hc
        simp only [execC] at h
        split at h
        · rename_i st1 h3
          have s1 := execC_size hcs _ h3
          have s2 := execC_size hcs _ h
          obtain ⟨ρ1, a1, w1, l1, S1, T1⟩ := ihp _ _ _ _ h1 h3 ρ a w b hb hS hr (fun n p q => hfree n p (by omega)) hR
          obtain ⟨ρ2, a2, w2, l2, S2, T2⟩ := ihq _ _ _ _ h2 h ρ1 a1 w1 b hb S1 T1.rel (free_next T1 hfree) (hR.mono T1.mono)
          refine ⟨ρ2, a2, w2, fun k cs => ?_, S2, T1.trans T2⟩
          exact Lands.of_steps (Steps.head st_seq (l1 (.code q :: k) cs)) (l2 k cs)
        · rename_i hne
          obtain ⟨ρ1, a1, w1, l1, S1, T1⟩ := ihp _ _ _ _ h1 h ρ a w b hb hS hr hfree hR
          have hx : x ≠ .normal := fun hx => by subst hx; exact hne st' h
          exact ⟨ρ1, a1, w1, fun k cs => Lands.of_steps (Steps.one st_seq) (Lands.pass hx (fun id k2 _ => rfl) (l1 (.code q :: k) cs)), S1, T1⟩
  | cond c p q ihp ihq =>
    intro ac st x st' hc h ρ a w b hb hS hr hfree hR
    simp only [compileC] at hc
    split at hc
    · rename_i hok
      simp only [Option.bind_eq_bind] at hc
      cases h1 : compileC P p with
      | none => rw [h1] at hc; cases hc
      | some ap =>
        rw [h1] at hc; simp only [Option.bind_some] at hc
        cases h2 : compileC P q with
        | none => rw [h2] at hc; cases hc
        | some aq =>
          rw [h2] at hc; cases hc
          simp only [execC] at h
          have hv := hS.env.ev c hok
          split at h
          · rename_i ht
            rw [ht] at hv
            obtain ⟨ρ1, a1, w1, l1, S1, T1⟩ := ihp _ _ _ _ h1 h ρ a w b hb hS hr hfree hR
            exact ⟨ρ1, a1, w1, fun k cs => Lands.of_steps (Steps.one (st_cond (t := true) hv.bool_inv)) (l1 k cs), S1, T1⟩
          · rename_i ht
            rw [ht] at hv
            obtain ⟨ρ1, a1, w1, l1, S1, T1⟩ := ihq _ _ _ _ h2 h ρ a w b hb hS hr hfree hR
            exact ⟨ρ1, a1, w1, fun k cs => Lands.of_steps (Steps.one (st_cond (t := false) hv.bool_inv)) (l1 k cs), S1, T1⟩
          · cases h
    · cases hc
  | block id p ih =>
    intro ac st x st' hc h ρ a w b hb hS hr hfree hR
    simp only [compileC, Option.bind_eq_bind] at hc
    cases h1 : compileC P p with
    | none => rw [h1] at hc; cases hc
    | some ap =>
      rw [h1] at hc; cases hc
      simp only [execC] at h
      split at h
      · rename_i id' st1 h3
        have hfr : st1 = st' := by split at h <;> cases h <;> rfl
        subst hfr
        obtain ⟨ρ1, a1, w1, l1, S1, T1⟩ := ih _ _ _ _ h1 h3 ρ a w b hb hS hr hfree hR
        refine ⟨ρ1, a1, w1, fun k cs => ?_, S1, T1⟩
        obtain ⟨k1, e1, e2⟩ := l1 (.inBlock id :: k) cs
        split at h
        · rename_i hid
          cases h
          have hx : exitTo id' (k1 ++ .inBlock id :: k) = some k := by rw [e1]; simp [exitTo, hid]
          exact (Steps.head st_block e2).trans (Steps.one (st_exit hx))
        · rename_i hid
          cases h
          refine ⟨k1 ++ [.inBlock id], fun k2 => ?_, ?_⟩
          · rw [List.append_assoc, e1]
            have : (id == id') = false := by simp; exact fun q => hid q.symm
            simp [exitTo, this]
          · simpa using Steps.head st_block e2
      · rename_i hne
        obtain ⟨ρ1, a1, w1, l1, S1, T1⟩ := ih _ _ _ _ h1 h ρ a w b hb hS hr hfree hR
        refine ⟨ρ1, a1, w1, fun k cs => ?_, S1, T1⟩
        have := l1 (.inBlock id :: k) cs
        cases x with
        | normal => exact (Steps.head st_block this).trans (Steps.one st_inBlock)
        | exit id' => exact absurd h (hne id' st')
        | ret => exact Lands.of_steps (Steps.one st_block) this
  | scope p ih =>
    intro ac st x st' hc h ρ a w b hb hS hr hfree hR
    simp only [compileC] at hc
    obtain ⟨ρ1, a1, w1, l1, S1, T1⟩ := ih _ _ _ _ hc h ρ a w b hb hS hr hfree hR
    refine ⟨ρ1, a1, w1, fun k cs => ?_, S1, T1⟩
    have := l1 (.inScope p :: k) cs
    cases x with
    | normal => exact (Steps.head st_scope this).trans (Steps.one st_inScope)
    | exit id => exact Lands.of_steps (Steps.one st_scope) (Lands.pass (by simp) (fun id k2 _ => rfl) this)
    | ret => exact Lands.of_steps (Steps.one st_scope) this
  | loop p ih =>
    intro ac st x st' hc h ρ a w b hb hS hr hfree hR
    simp only [compileC, Option.bind_eq_bind] at hc
    cases h1 : compileC P p with
    | none => rw [h1] at hc; cases hc
    | some ap =>
      rw [h1] at hc; cases hc
      simp only [execC] at h
      obtain ⟨ρ1, a1, w1, hx, l1, S1, T1⟩ := iter_sound p _ (fun st x st' h => execC_size hcs _ h) (fun st x st' h => ih _ _ _ _ h1 h) n st x st' h ρ a w b hb hS hr hfree hR
      exact ⟨ρ1, a1, w1, fun k cs => Lands.of_steps (Steps.one st_loop) (l1 k cs), S1, T1⟩
  | exit id =>
    intro ac st x st' hc h ρ a w b hb hS hr hfree hR
    cases hc; cases h
    exact ⟨ρ, a, w, fun k cs => ⟨[], fun _ => rfl, Steps.refl _ _⟩, hS, Tr.refl hr⟩
  | ret =>
    intro ac st x st' hc h ρ a w b hb hS hr hfree hR
    cases hc; cases h
    exact ⟨ρ, a, w, fun k cs => ⟨k, Steps.refl _ _⟩, hS, Tr.refl hr⟩
  | goto l => intro ac st x st' hc h; cases hc; cases h
  | refuse why => intro ac st x st' hc h; cases hc; cases h
  | rangeFunc f params assign body _ _ =>
    intro ac st x st' hc h ρ a w b hb hS hr hfree hR
    simp only [compileC] at hc
    split at hc
    · rename_i hok
      simp only [Option.bind_eq_bind] at hc
      cases h1 : compileC P assign with
      | none => rw [h1] at hc; cases hc
      | some aa =>
        rw [h1] at hc; simp only [Option.bind_some] at hc
        cases h2 : compileC P body with
        | none => rw [h2] at hc; cases hc
        | some ab =>
          rw [h2] at hc; cases hc
          have hall := execC_size hcs _ h
          simp only [execC] at h
          split at h
          · have hsz : st.A.size < st'.A.size := by
              have := range_size (st0 := { st with A := st.A.alloc (.dfr false), dfs := st.A.size :: st.dfs }) hcs h
              simp at this; omega
            have hf0 : ρ st.A.size = none := hfree _ (Nat.le_refl _) hsz
            let ed : REnt := ⟨w.heap.size, 0, 0, 0⟩
            let w0 : World := { w with heap := w.heap.push (.deferred (some [])) }
            have T0 : Tr (CompOf P) ρ st.A w (Ren.upd ρ st.A.size ed) (st.A.alloc (.dfr false)) w0 :=
              Tr.alloc (e := ed) hr hf0 rfl rfl heap_push_new rfl rfl rfl
            have hle : Ren.le ρ (Ren.upd ρ st.A.size ed) := Ren.le_upd hf0
            obtain ⟨ρ', a', w', l, S, T⟩ := range_sound (st0 := { st with A := st.A.alloc (.dfr false), dfs := st.A.size :: st.dfs }) hcs hok h1 h2 h (ρ := Ren.upd ρ st.A.size ed) (a := a) (w := w) (w0 := w0) (b := b) hb (mark := [{ target := .collected w.heap.size, args := #[] }]) (ed := ed) Ren.upd_same
              ⟨hS.env.mono hle, hS.n, ⟨ed, Ren.upd_same, rfl⟩, hS.dfs.mono hle⟩ T0.rel (free_next T0 hfree) (by
                have hro : b.roundOf = none := hR
                simp only [Instr.enterLoop, hro, run_bind, run_newObj, run_pure]; rfl)
            exact ⟨ρ', a', w', l, S, T0.trans T⟩
          · rename_i l0
            split at h
            · rename_i s' p' f' n' e' ps' a' b' d hg0
              obtain ⟨e0, he0, hro⟩ := hR
              obtain ⟨cl, g1, g2, g3, g4, g5, g6, g7, g8, g9, ed, g10, g11⟩ := hr.blk _ _ _ he0 hg0
              exact range_sound (st0 := st) hcs hok h1 h2 h (ρ := ρ) (a := a) (w := w) (w0 := w) (b := b) hb (mark := []) (ed := ed) g10 ⟨hS.env, hS.n, hS.dfs⟩ hr hfree (by
                simp only [Instr.enterLoop, hro, run_bind, run_getLoop g1, run_newObj, run_pure, g11])
            · cases h
    · cases hc

end
end Go.AS
