import Derived.Test.YtidgbapgedegbaaAsZ
namespace Go.AS
open Go
set_option linter.unusedSimpArgs false
set_option linter.unusedVariables false

section
variable {P : Program} {ρ : Ren} {A : AHeap} {w : World} {a : Act} {b : Frame} {k : List Item} {cs : List Frame}

theorem unwindA_size : ∀ (l : List Nat) {A A2 : AHeap}, unwindA l A = some A2 → A2.size = A.size := by
  intro l
  induction l with
  | nil => intro A A2 h; cases h; rfl
  | cons d l ih =>
    intro A A2 h
    simp only [unwindA] at h
    split at h
    · have := ih h
      rw [this]; rfl
    · cases h

/-- A function that says yes and leaves no trace. -/
def sayYes : AFunc := { n := 1, nargs := 0, results := [.inl 0], body := .ops [{ dst := some 0, guard := none, op := .mov (.const (.bool true)) }] }

/-- A function without arguments that is known to say yes, and to let what was there before it stand. -/
def SaysYes (P : Program) (f : FuncId) : Prop := ∀ w, ∃ w', FnRuns P f [] w (.bool true) w' ∧ w'.os = w.os ∧ w'.tape = w.tape ∧ w'.output = w.output ∧ w.heap.size ≤ w'.heap.size ∧ ∀ k, k < w.heap.size → w'.heap[k]? = w.heap[k]?

/-- What the table says is what the program holds, or what is known of it. -/
def TabOk (P : Program) (T : FTab) : Prop := ∀ f fn, T f = some fn → ∃ F, P.funcs[f]? = some F ∧ (F.name == "runtime.NumGoroutine") = false ∧ F.body.isNone = false ∧ (compileF P F = some fn ∨ (fn = sayYes ∧ SaysYes P f))

theorem compileF_body {P : Program} {F : Func} {fn : AFunc} (hc : compileF P F = some fn) : F.body.isNone = false := by
  unfold compileF at hc
  cases hb : F.body with
  | none => rw [hb] at hc; cases hc
  | some b => rfl

/-- A function's own value, called. -/
theorem callN_func {T : FTab} {n : Nat} {f : FuncId} {first captured args : List Value} {A A' : AHeap} {v : Value} (h : callN T (n + 1) (.func (.func f) ⟨first⟩ ⟨captured⟩) args A = some (v, A')) :
    ∃ fn x st vs, T f = some fn ∧ ((first ++ args ++ captured).length = fn.nargs ∧ fn.nargs ≤ fn.n) ∧ execC (callN T n) f none n fn.body { env := envOf 0 .leaf (first ++ args ++ captured), n := fn.n, dfs := [], A := A } = some (x, st) ∧
      (∀ id, x ≠ .exit id) ∧ unwindA st.dfs st.A = some A' ∧ resultsA st.env A' fn.results = some vs ∧ v = tupleA vs := by
  simp only [callN] at h
  split at h
  · rename_i fn hT
    split at h
    · rename_i hlen
      split at h
      · rename_i x st hx
        have key : (match unwindA st.dfs st.A with
            | some A2 => match resultsA st.env A2 fn.results with
              | some vs => some (tupleA vs, A2)
              | none => none
            | none => none) = some (v, A') → (∀ id, x ≠ .exit id) → ∃ fn x st vs, T f = some fn ∧ ((first ++ args ++ captured).length = fn.nargs ∧ fn.nargs ≤ fn.n) ∧ execC (callN T n) f none n fn.body { env := envOf 0 .leaf (first ++ args ++ captured), n := fn.n, dfs := [], A := A } = some (x, st) ∧
              (∀ id, x ≠ .exit id) ∧ unwindA st.dfs st.A = some A' ∧ resultsA st.env A' fn.results = some vs ∧ v = tupleA vs := by
          intro h hne
          split at h
          · rename_i A2 hu
            split at h
            · rename_i vs hr
              cases h
              exact ⟨fn, x, st, vs, hT, hlen, hx, hne, hu, hr, rfl⟩
            · cases h
          · cases h
        cases x with
        | exit id => cases h
        | normal => exact key h (fun _ => by simp)
        | ret => exact key h (fun _ => by simp)
      · cases h
    · cases h
  · cases h

theorem callN_fn_sound {T : FTab} {n : Nat} (hT : TabOk P T) (hmix : P.follows .mixedOrders = true) (hcs : CallSound P (callN T n)) {f : FuncId} {first captured args : List Value} {A A' : AHeap} {v : Value} (h : callN T (n + 1) (.func (.func f) ⟨first⟩ ⟨captured⟩) args A = some (v, A')) :
    A.size ≤ A'.size ∧ ∀ (ρ : Ren) (w : World) (cas : List Value), VRs ρ (first ++ args ++ captured) cas → HRel (CompOf P) ρ A w.heap → (∀ n, A.size ≤ n → n < A'.size → ρ n = none) →
      ∃ ρ' vc w', FnRuns P f cas w vc w' ∧ VR ρ' v vc ∧ Tr (CompOf P) ρ A w ρ' A' w' := by
  obtain ⟨fn, x, st, vs, h1, h2, h3, h4, h5, h6, h7⟩ := callN_func h
  obtain ⟨F, hF, hnm, hbd, hc⟩ := hT f fn h1
  subst h7
  rcases hc with hc | ⟨hy, hyes⟩
  · refine ⟨?_, fun ρ w cas hv hr hfree => fn_sound hcs hmix hF hc (by rw [h2.1]; exact h2.2) h3 h4 h5 h6 hv hr hfree⟩
    rw [unwindA_size _ h5]
    exact execC_size hcs _ h3
  · subst hy
    have hnil : first ++ args ++ captured = [] := List.length_eq_zero_iff.1 h2.1
    rw [hnil] at h3 ⊢
    have hst : some (AExit.normal, ({ env := (envOf 0 .leaf []).set 0 (.bool true), n := 1, dfs := [], A := A } : St)) = some (x, st) := h3
    cases hst
    cases h5
    cases h6
    refine ⟨Nat.le_refl _, fun ρ w cas hv hr hfree => ?_⟩
    cases hv
    obtain ⟨w', k1, k2, k3, k4, k5, k6⟩ := hyes w
    refine ⟨ρ, _, w', k1, .bool true, ?_⟩
    have keep : ∀ b e x, ρ b = some e → A.get b = some x → BRel (CompOf P) ρ e w'.heap x := by
      intro b e x he hx
      by_cases hd : x = .dead
      · subst hd; trivial
      · exact BRel.keep (Ren.le_refl _) (.inr (k6 _ (brel_lt (hr.blk b e x he hx) hd))) (hr.blk b e x he hx)
    exact ⟨⟨keep, hr.inj⟩, Ren.le_refl _, hfree, fun b h1 h2 => absurd h1 h2, Nat.le_refl _, fun _ _ _ => rfl, fun _ _ _ => rfl, fun b e h1 h2 => (by rw [h1] at h2; cases h2), fun cb hcb _ => k6 cb hcb, k5, k2, k3, k4⟩

theorem callFunc_run {T : FTab} {f : FuncId} {fn : AFunc} (hT : TabOk P T) (h : T f = some fn) (args : Array Value) : (callFunc f args).run P w = .ok (.enter f args) w := by
  obtain ⟨F, hF, hnm, hb, hc⟩ := hT f fn h
  unfold callFunc
  rw [run_bind]
  have : (program : Sem Program).run P w = .ok P w := rfl
  rw [this]
  simp only [hF, hnm, hb, Bool.false_eq_true, if_false, run_pure]

theorem FnRuns.cruns {T : FTab} {f : FuncId} {fn : AFunc} (hT : TabOk P T) (hf : T f = some fn) {first captured args : List Value} {vc : Value} {w' : World} (h : FnRuns P f (first ++ args ++ captured) w vc w') :
    CRuns P (.func (.func f) ⟨first⟩ ⟨captured⟩) args w vc w' := by
  refine ⟨{ target := .fn (.func f) ⟨captured⟩, args := ⟨first⟩ ++ ⟨args⟩ }, run_pure _, .inl ⟨f, (⟨first⟩ ++ ⟨args⟩) ++ ⟨captured⟩, ?_, fun c cs => ?_⟩⟩
  · exact callFunc_run hT hf _
  · obtain ⟨fr, h1, h2, h3⟩ := h (c :: cs)
    have : ((⟨first⟩ : Array Value) ++ ⟨args⟩) ++ ⟨captured⟩ = (first ++ args ++ captured).toArray := by simp
    rw [this]
    exact h1.trans (Steps.one (step_leave_returned h3))

theorem round_zip (params : Array Nat) (args : Array Value) (tmps : Array Value) : ((params.zip args).foldl (fun tmps (x : Nat × Value) => tmps.setIfInBounds x.1 x.2) tmps) = (params.toList.zip args.toList).foldl (fun tmps ta => tmps.setIfInBounds ta.1 ta.2) tmps := by
  rw [← Array.foldl_toList, Array.toList_zip]

theorem yield_sound {T : FTab} {n : Nat} (hmix : P.follows .mixedOrders = true) (hcs : CallSound P (callN T n)) {l : Nat} {y1 y2 : Array Value} {args : List Value} {A A' : AHeap} {v : Value} (h : callN T (n + 1) (.func (.yield l) y1 y2) args A = some (v, A')) :
    A.size ≤ A'.size ∧ CallSem P (.func (.yield l) y1 y2) args A v A' := by
  simp only [callN] at h
  split at h
  case h_2 => cases h
  rename_i p f k e params assign body d hg
  split at h
  case isFalse => cases h
  rename_i hcond
  obtain ⟨hlen, hall⟩ := hcond
  split at h
  case h_2 => cases h
  rename_i st1 hx1
  split at h
  case h_2 => cases h
  rename_i p1 f1 k1 e1 params1 assign1 body1 d1 hg1
  split at h
  case h_2 => cases h
  rename_i x st2 hx2
  split at h
  case h_2 => cases h
  rename_i s2 p2 f2 k2 e2 params2 assign2 body2 d2 hg2
  split at h
  case h_2 => cases h
  rename_i j hj
  cases h
  have sz1 := execC_size hcs _ hx1
  have sz2 := execC_size hcs _ hx2
  simp only [AHeap.size_set] at sz2
  simp only at sz1
  refine ⟨by simp only [AHeap.size_set]; omega, ?_⟩
  intro ρ w cfv cargs hv hargs hr hfree
  simp only [AHeap.size_set] at hfree
  cases hv with
  | yield _ en he =>
  obtain ⟨L, g1, g2, g3, g4, g5, g6, g7, g8, g9, ed, g10, g11⟩ := hr.blk _ _ _ he hg
  have hln := hargs.length
  subst g4
  -- the round's frame
  let b0 : Frame := { fn := L.fn, tmps := #[], todo := [], defers := [], mode := .run, kind := .normal, roundOf := some en.cb }
  let tm : Array Value := (L.params.zip (⟨cargs⟩ : Array Value)).foldl (fun tmps (x : Nat × Value) => tmps.setIfInBounds x.1 x.2) L.tmps
  have hround : ∀ cs, lone (Frame.round en.cb L.fn tm L.assign L.body .normal) cs w = lone (fat b0 { tmps := tm, defers := [] } [.code L.assign, .beginRound, .code L.body]) cs w := fun cs => rfl
  have hz := zip_env (ρ := ρ) L.params.toList (e := e) (tmps := L.tmps) k hargs (fun t ht => by
    have := List.all_eq_true.1 hall t (by rw [← g5]; exact ht)
    simpa using this) g8 g9
  have htm : tm = (L.params.toList.zip cargs).foldl (fun tmps ta => tmps.setIfInBounds ta.1 ta.2) L.tmps := round_zip _ _ _
  rw [← htm] at hz
  rw [← g5] at hx1
  obtain ⟨ρ1, a1, w1, l1, S1, T1⟩ := execC_sound hcs hmix L.assign _ _ _ _ g6 hx1 ρ { tmps := tm, defers := [] } w b0 rfl ⟨hz.1, hz.2, trivial⟩ hr (fun m p q => hfree m p (by omega)) ⟨en, he, rfl⟩
  have he1 := T1.mono _ _ he
  obtain ⟨L1, i1, i2, i3, i4, i5, i6, i7, i8, i9, ed1, i10, i11⟩ := T1.rel.blk _ _ _ he1 hg1
  have i1' : w1.heap[en.cb]? = some (.loop L1) := i1
  have hlt1 : en.cb < w1.heap.size := by
    rcases Nat.lt_or_ge en.cb w1.heap.size with q | q
    · exact q
    · rw [Array.getElem?_eq_none q] at i1'; cases i1'
  let w1' : World := { w1 with heap := w1.heap.setIfInBounds en.cb (.loop { L1 with state := .busy }) }
  have hbr : (Instr.beginRound en.cb).run P w1 = .ok () w1' := by
    simp only [Instr.beginRound, run_bind, run_getLoop i1', run_setObj i1' (fun _ _ _ => by simp), i2, run_pure]
    rfl
  have T2 : Tr (CompOf P) ρ1 st1.A w1 ρ1 (st1.A.set l (.loop .busy p1 f1 k1 e1 params1 assign1 body1 d1)) w1' := by
    refine Tr.upd T1.rel he1 hg1 (fun hp => hp) (.inr (fun hp => hp)) (by simp [w1']) (fun cb hcb => by simp [w1', Array.getElem?_setIfInBounds, Ne.symm hcb]) ?_ rfl rfl rfl
    refine ⟨{ L1 with state := .busy }, ?_, rfl, i3, i4, i5, i6, i7, i8, i9, ed1, i10, i11⟩
    show w1'.heap[en.cb]? = _
    simp [w1', Array.getElem?_setIfInBounds, hlt1]
  have T12 := T1.trans T2
  obtain ⟨ρ2, a2, w2, l2, S2, T3⟩ := execC_sound hcs hmix L.body _ _ _ _ g7 hx2 ρ1 a1 w1' b0 rfl ⟨S1.env, S1.n, S1.dfs⟩ T2.rel (free_next T12 (fun m p q => hfree m p (by simpa using q))) ⟨en, he1, rfl⟩
  have he2 := T3.mono _ _ he1
  obtain ⟨L2, j1, j2, j3, j4, j5, j6, j7, j8, j9, ed2, j10, j11⟩ := T3.rel.blk _ _ _ he2 hg2
  have j1' : w2.heap[en.cb]? = some (.loop L2) := j1
  have hlt2 : en.cb < w2.heap.size := by
    rcases Nat.lt_or_ge en.cb w2.heap.size with q | q
    · exact q
    · rw [Array.getElem?_eq_none q] at j1'; cases j1'
  let w3 : World := { w2 with heap := w2.heap.setIfInBounds en.cb (.loop { L2 with state := if j.isNone then .ready else .done, pending := j }) }
  have her : (Instr.endRound en.cb j).run P w2 = .ok (.bool j.isNone) w3 := by
    simp only [Instr.endRound, run_bind, run_getLoop j1', run_setObj j1' (fun _ _ _ => by simp), run_pure]
    rfl
  have T4 : Tr (CompOf P) ρ2 st2.A w2 ρ2 (st2.A.set l (.loop (if j.isNone then .ready else .done) j f2 k2 e2 params2 assign2 body2 d2)) w3 := by
    refine Tr.upd T3.rel he2 hg2 (fun hp => hp) (.inr (fun hp => hp)) (by simp [w3]) (fun cb hcb => by simp [w3, Array.getElem?_setIfInBounds, Ne.symm hcb]) ?_ rfl rfl rfl
    refine ⟨{ L2 with state := if j.isNone then .ready else .done, pending := j }, ?_, rfl, rfl, j4, j5, j6, j7, j8, j9, ed2, j10, j11⟩
    show w3.heap[en.cb]? = _
    simp [w3, Array.getElem?_setIfInBounds, hlt2]
  refine ⟨ρ2, .bool j.isNone, w3, ?_, .bool _, T12.trans (T3.trans T4)⟩
  refine ⟨{ target := .fn (.yield en.cb) #[], args := #[] ++ ⟨cargs⟩ }, run_pure _, .inr ⟨en.cb, L.fn, tm, L.assign, L.body, ?_, fun c cs => ?_⟩⟩
  · have hsz : ¬ (#[] ++ (⟨cargs⟩ : Array Value)).size ≠ L.params.size := by
      have : L.params.size = params.length := by rw [← g5]; simp
      simp; omega
    show (Instr.yield en.cb (#[] ++ ⟨cargs⟩)).run P w = _
    have g1' : w.heap[en.cb]? = some (.loop L) := g1
    simp only [Instr.yield, run_bind, run_getLoop g1']
    rw [if_neg hsz]
    simp only [run_pure, Array.empty_append]
    rfl
  · rw [hround]
    have s1 := l1 [.beginRound, .code L.body] (c :: cs)
    have s2 : Steps P (lone (fat b0 a1 [.beginRound, .code L.body]) (c :: cs) w1) (lone (fat b0 a1 [.code L.body]) (c :: cs) w1') := Steps.one (st_beginRound rfl hbr)
    have s3 := l2 [] (c :: cs)
    have s12 : Steps P _ _ := Steps.trans s1 s2
    cases x with
    | normal =>
      cases hj
      exact (s12.trans s3).trans (Steps.one (st_leaveRound rfl rfl her (.inl ⟨rfl, rfl⟩)))
    | ret =>
      cases hj
      obtain ⟨todo, s3⟩ := s3
      exact (s12.trans s3).trans (Steps.one (st_leaveRound rfl rfl her (.inr (.inl ⟨rfl, todo, rfl⟩))))
    | exit id =>
      cases hj
      obtain ⟨kk, e1, s3⟩ := s3
      exact (s12.trans s3).trans (Steps.one (st_leaveRound rfl rfl her (.inr (.inr ⟨id, _, rfl, rfl, by rw [e1]; rfl⟩))))

theorem callN_sound {T : FTab} (hT : TabOk P T) (hmix : P.follows .mixedOrders = true) : ∀ n, CallSound P (callN T n) := by
  intro n
  induction n with
  | zero => intro fv args A v A' h; cases h
  | succ n ih =>
    intro fv args A v A' h
    cases fv with
    | func fr first captured =>
      obtain ⟨first⟩ := first
      obtain ⟨captured⟩ := captured
      cases fr with
      | func f =>
        obtain ⟨h1, h2⟩ := callN_fn_sound hT hmix ih h
        refine ⟨h1, ?_⟩
        intro ρ w cfv cargs hv hargs hr hfree
        obtain ⟨fn, _, _, _, hTf, _⟩ := callN_func h
        cases hv with
        | func _ _ first' _ captured' hv1 hv2 =>
          obtain ⟨ρ', vc, w', k1, k2, k3⟩ := h2 ρ w (first' ++ cargs ++ captured') ((hv1.append hargs).append hv2) hr hfree
          exact ⟨ρ', vc, w', k1.cruns hT hTf, k2, k3⟩
      | yield l => exact yield_sound hmix ih h
      | _ => simp only [callN] at h; cases h
    | _ => simp only [callN] at h; cases h

end
end Go.AS
