import Derived.Test.YtidgbapgedegbaaAsU
namespace Go.AS
open Go
set_option linter.unusedSimpArgs false
set_option linter.unusedVariables false

section
variable {P : Program} {ρ : Ren} {A : AHeap} {w : World} {a : Act} {b : Frame} {k : List Item} {cs : List Frame}

theorem rd_set (e : Env) (d t : Nat) (v : Value) : Env.rd (Trie.set e d v) t = if t = d then v else e.rd t := by
  unfold Env.rd; rw [Trie.get_set]; split <;> rfl

theorem envOf_rd : ∀ (l : List Value) (i : Nat) (e : Env) (t : Nat), (envOf i e l).rd t = if i ≤ t ∧ t < i + l.length then (l[t - i]?).getD undef else e.rd t := by
  intro l
  induction l with
  | nil => intro i e t; rw [if_neg (by simp only [List.length_nil]; omega)]; rfl
  | cons v l ih =>
    intro i e t
    simp only [envOf]
    rw [ih (i + 1) (e.set i v) t, rd_set]
    by_cases h : t = i
    · subst h
      rw [if_neg (by omega), if_pos rfl, if_pos ⟨Nat.le_refl _, by simp⟩]
      simp
    · rw [if_neg h]
      by_cases h2 : i ≤ t ∧ t < i + (v :: l).length
      · simp only [List.length_cons] at h2
        rw [if_pos (by omega), if_pos (by simp only [List.length_cons]; omega)]
        rw [show t - i = (t - (i + 1)) + 1 by omega]; rfl
      · simp only [List.length_cons] at h2
        rw [if_neg (by omega), if_neg (by simp only [List.length_cons]; omega)]

theorem undef_VR : VR ρ undef undef := .tuple _ _ .nil

theorem enter_env {l l' : List Value} {n : Nat} (h : VRs ρ l l') : EnvR ρ (envOf 0 .leaf l) { tmps := l'.toArray ++ Array.replicate (n - l'.toArray.size) undef, defers := [] } := by
  intro t
  rw [envOf_rd]
  have hl := h.length
  by_cases ht : t < l.length
  · rw [if_pos (by omega)]
    obtain ⟨v', h1, h2⟩ := h.get (List.getElem?_eq_getElem ht)
    have : ((⟨l'⟩ : Array Value) ++ Array.replicate (n - (⟨l'⟩ : Array Value).size) undef)[t]? = some v' := by
      rw [Array.getElem?_append_left (by simp; omega)]
      simpa using h1
    simp only [Array.getD_eq_getD_getElem?]
    rw [this]
    simp only [Nat.sub_zero, List.getElem?_eq_getElem ht, Option.getD_some]
    exact h2
  · rw [if_neg (by omega)]
    have : Env.rd Trie.leaf t = undef := rfl
    rw [this]
    simp only [Array.getD_eq_getD_getElem?]
    rw [Array.getElem?_append_right (by simp; omega)]
    simp only [Array.getElem?_replicate]
    split <;> exact undef_VR

theorem zip_env : ∀ (params : List Nat) {args cargs : List Value} {e : Env} {tmps : Array Value} (n : Nat), VRs ρ args cargs → (∀ t ∈ params, t < n) → tmps.size = n → (∀ t, VR ρ (e.rd t) (tmps.getD t undef)) →
    (∀ t, VR ρ (Env.rd ((params.zip args).foldl (fun (e : Env) ta => Trie.set e ta.1 ta.2) e) t) (((params.zip cargs).foldl (fun tmps ta => tmps.setIfInBounds ta.1 ta.2) tmps).getD t undef)) ∧
      ((params.zip cargs).foldl (fun tmps ta => tmps.setIfInBounds ta.1 ta.2) tmps).size = n := by
  intro params
  induction params with
  | nil => intro args cargs e tmps n _ _ hn h; exact ⟨h, hn⟩
  | cons p params ih =>
    intro args cargs e tmps n hv hp hn h
    cases hv with
    | nil => exact ⟨h, hn⟩
    | cons v v' l l' h1 h2 =>
      simp only [List.zip_cons_cons, List.foldl_cons]
      refine ih n h2 (fun t ht => hp t (List.mem_cons_of_mem _ ht)) (by simp [hn]) fun t => ?_
      have := EnvR.put (a := { tmps := tmps, defers := [] }) (d := p) h (by rw [hn]; exact hp p List.mem_cons_self) h1 t
      exact this

theorem unwind_sound : ∀ (dfs : List Nat) {A A2 : AHeap} {ds : List Deferred} {ρ : Ren} {w : World} (tmps : Array Value), DfR ρ dfs ds → HRel (CompOf P) ρ A w.heap → unwindA dfs A = some A2 →
    ∃ w', (∀ b todo cs, Steps P (lone { (fat b { tmps := tmps, defers := ds } todo) with mode := .returning } cs w) (lone { (fat b { tmps := tmps, defers := [] } todo) with mode := .returning } cs w')) ∧ Tr (CompOf P) ρ A w ρ A2 w' := by
  intro dfs
  induction dfs with
  | nil =>
    intro A A2 ds ρ w tmps hd hr h
    cases h
    cases ds with
    | nil => exact ⟨w, fun _ _ _ => Steps.refl _ _, Tr.refl hr⟩
    | cons _ _ => exact hd.elim
  | cons id dfs ih =>
    intro A A2 ds ρ w tmps hd hr h
    cases ds with
    | nil => exact hd.elim
    | cons d ds =>
      obtain ⟨⟨en, he, rfl⟩, hd2⟩ := hd
      simp only [unwindA] at h
      split at h
      · rename_i hg
        have hb := hr.blk _ _ _ he hg
        have hb' : w.heap[en.cb]? = some (.deferred (some [])) := hb
        have hlt : en.cb < w.heap.size := by
          rcases Nat.lt_or_ge en.cb w.heap.size with q | q
          · exact q
          · rw [Array.getElem?_eq_none q] at hb'; cases hb'
        let w1 : World := { w with heap := w.heap.setIfInBounds en.cb (.deferred none) }
        have T : Tr (CompOf P) ρ A w ρ (A.set id (.dfr true)) w1 := by
          refine Tr.upd hr he hg (fun hp => hp) (.inr (fun hp => hp)) (by simp [w1]) (fun cb hcb => by simp [w1, Array.getElem?_setIfInBounds, Ne.symm hcb]) ?_ rfl rfl rfl
          show w1.heap[en.cb]? = _
          simp [w1, Array.getElem?_setIfInBounds, hlt]
        obtain ⟨w', s1, T2⟩ := ih tmps hd2 T.rel h
        refine ⟨w', fun b todo cs => Steps.head (st_unwindOne (a := { tmps := tmps, defers := _ :: ds }) rfl ?_) (s1 b todo cs), T.trans T2⟩
        simp only [Instr.takeDeferred, run_bind, run_getObj hb' (fun _ _ _ => by simp), run_setObj hb' (fun _ _ _ => by simp), run_pure]
        rfl
      · cases h

theorem resA_sound {e : Env} {a : Act} {r : ResultVar} {x : Nat ⊕ (Nat × Nat × Bool)} {v : Value} (hc : (match r with | .tmp t => some (.inl t) | .cell a t => do let g ← aggOf P t; let s ← szOf P t; some (.inr (a, s, g))) = some x) (hr : HRel (CompOf P) ρ A w.heap) (hE : EnvR ρ e a)
    (h : resA e A x = some v) : ∃ vc, (match r with | .tmp t => pure (a.tmps.getD t undef) | .cell p t => do loadVar t (← asAddr (a.tmps.getD p undef)) : Sem Value).run P w = .ok vc w ∧ VR ρ v vc := by
  cases r with
  | tmp t =>
    cases hc
    cases h
    exact ⟨_, run_pure _, hE t⟩
  | cell p t =>
    simp only [Option.bind_eq_bind] at hc
    cases hg : aggOf P t with
    | none => rw [hg] at hc; cases hc
    | some g =>
      rw [hg] at hc; simp only [Option.bind_some] at hc
      cases hs : szOf P t with
      | none => rw [hs] at hc; cases hc
      | some s =>
        rw [hs] at hc; cases hc
        simp only [resA] at h
        have hv := hE p
        split at h
        · rename_i b o hp
          rw [hp] at hv
          obtain ⟨en, he, hx⟩ := hv.ptr_inv
          cases g with
          | true =>
            simp only [if_true] at h
            split at h
            · rename_i h0
              cases h
              refine ⟨.agg #[], ?_, .agg _ _ .nil⟩
              simp only [hx, asAddr, run_bind, run_pure, loadVar, run_isAgg hg, if_true, run_sizeOf hs, h0]
              rfl
            · cases hrd : rdCells A b o s with
              | none => rw [hrd] at h; cases h
              | some vs =>
                rw [hrd] at h; cases h
                obtain ⟨vs', h1, h2⟩ := run_loadN (P := P) hr he hrd
                refine ⟨.agg ⟨vs'⟩, ?_, .agg _ _ h1⟩
                simp only [hx, asAddr, run_bind, run_pure, loadVar, run_isAgg hg, if_true, run_sizeOf hs, h2]
          | false =>
            simp only [Bool.false_eq_true, if_false] at h
            obtain ⟨v', h1, h2⟩ := rd_cell hr he h
            refine ⟨v', ?_, h2⟩
            simp only [hx, asAddr, run_bind, run_pure, loadVar, run_isAgg hg, Bool.false_eq_true, if_false]
            exact run_load h1
        · cases h

theorem tuple_VR {vs : List Value} {vs' : Array Value} (h : VRs ρ vs vs'.toList) : VR ρ (tupleA vs) (if h : vs'.size = 1 then vs'[0] else .tuple vs') := by
  have hl := h.length
  obtain ⟨l⟩ := vs'
  simp only at h hl
  cases h with
  | nil => exact .tuple _ _ .nil
  | cons v v' l l' h1 h2 =>
    cases h2 with
    | nil => exact h1
    | cons u u' l l' h3 h4 =>
      rw [dif_neg (by simp)]
      exact .tuple _ _ (.cons _ _ _ _ h1 (.cons _ _ _ _ h3 h4))

theorem results_sound {F : Func} {e : Env} {a : Act} {rs : List (Nat ⊕ (Nat × Nat × Bool))} {vs : List Value}
    (hc : F.results.toList.mapM (fun r => match r with | .tmp t => some (.inl t) | .cell a t => do let g ← aggOf P t; let s ← szOf P t; some (.inr (a, s, g))) = some rs) (hr : HRel (CompOf P) ρ A w.heap) (hE : EnvR ρ e a)
    (h : resultsA e A rs = some vs) : ∃ vc, (results F a.tmps).run P w = .ok vc w ∧ VR ρ (tupleA vs) vc := by
  let f : ResultVar → Sem Value := fun r => match r with | .tmp t => pure (a.tmps.getD t undef) | .cell p t => do loadVar t (← asAddr (a.tmps.getD p undef))
  let g : ResultVar → Value := fun r => match (f r).run P w with | .ok v _ => v | _ => undef
  have key : ∀ (l : List ResultVar) (rs : List (Nat ⊕ (Nat × Nat × Bool))) (vs : List Value), l.mapM (fun r => match r with | .tmp t => some (.inl t) | .cell a t => do let g ← aggOf P t; let s ← szOf P t; some (.inr (a, s, g))) = some rs → resultsA e A rs = some vs →
      (∀ r ∈ l, (f r).run P w = .ok (g r) w) ∧ VRs ρ vs (l.map g) := by
    intro l
    induction l with
    | nil => intro rs vs h1 h2; cases h1; cases h2; exact ⟨fun r hr => by simp at hr, .nil⟩
    | cons r l ih =>
      intro rs vs h1 h2
      rw [List.mapM_cons] at h1
      simp only [Option.bind_eq_bind, Option.pure_def] at h1
      rw [Option.bind_eq_some_iff] at h1
      obtain ⟨x, hx, h1⟩ := h1
      rw [Option.bind_eq_some_iff] at h1
      obtain ⟨xs, hxs, h1⟩ := h1
      cases h1
      simp only [resultsA] at h2
      split at h2
      · rename_i v vs2 hv hvs
        cases h2
        obtain ⟨k1, k2⟩ := ih xs vs2 hxs hvs
        obtain ⟨vc, m1, m2⟩ := resA_sound (r := r) hx hr hE hv
        have hg : g r = vc := by show (match (f r).run P w with | .ok v _ => v | _ => undef) = vc; rw [show (f r).run P w = .ok vc w from m1]
        refine ⟨fun r' hr' => ?_, ?_⟩
        · rcases List.mem_cons.1 hr' with rfl | hr'
          · rw [hg]; exact m1
          · exact k1 r' hr'
        · rw [List.map_cons]
          exact .cons _ _ _ _ (by rw [hg]; exact m2) k2
      · cases h2
  obtain ⟨k1, k2⟩ := key _ rs vs hc h
  have hm := run_mapMA (P := P) (w := w) (f := f) (g := g) F.results (fun x hx => k1 x (by simpa using hx))
  refine ⟨_, ?_, tuple_VR (vs' := F.results.map g) (by simpa using k2)⟩
  show (do let vs ← F.results.mapM f; pure (if h : vs.size = 1 then vs[0] else .tuple vs) : Sem Value).run P w = _
  rw [run_bind, hm]
  rfl

/-- A function, entered and come to its end. -/
def FnRuns (P : Program) (f : FuncId) (args : List Value) (w : World) (v : Value) (w' : World) : Prop :=
  ∀ cs, ∃ fr, Steps P (lone (Frame.enter P f args.toArray .normal) cs w) (lone fr cs w') ∧ fr.fn = f ∧ fr.leaving P w' (.returned v)

theorem fn_sound {call : CallT} {f : FuncId} {F : Func} {fn : AFunc} {n : Nat} (hcs : CallSound P call) (hmix : P.follows .mixedOrders = true) (hF : P.funcs[f]? = some F) (hc : compileF P F = some fn) {args cargs : List Value} {x : AExit} {st : St} {A A2 : AHeap} {vs : List Value}
    (hlen : args.length ≤ fn.n) (hx : execC call f none n fn.body { env := envOf 0 .leaf args, n := fn.n, dfs := [], A := A } = some (x, st)) (hne : ∀ id, x ≠ .exit id) (hu : unwindA st.dfs st.A = some A2) (hres : resultsA st.env A2 fn.results = some vs)
    (hargs : VRs ρ args cargs) (hr : HRel (CompOf P) ρ A w.heap) (hfree : ∀ n, A.size ≤ n → n < A2.size → ρ n = none) :
    ∃ ρ' vc w', FnRuns P f cargs w vc w' ∧ VR ρ' (tupleA vs) vc ∧ Tr (CompOf P) ρ A w ρ' A2 w' := by
  unfold compileF at hc
  simp only [Option.bind_eq_bind] at hc
  cases hb : F.body with
  | none => rw [hb] at hc; cases hc
  | some body =>
    rw [hb] at hc; simp only [Option.bind_some] at hc
    cases hcc : compileC P body with
    | none => rw [hcc] at hc; cases hc
    | some ac =>
      rw [hcc] at hc; simp only [Option.bind_some] at hc
      rw [Option.bind_eq_some_iff] at hc
      obtain ⟨rs, hrs, hc⟩ := hc
      cases hc
      simp only at hlen hx hres
      have hsz : A2.size = st.A.size := by
        have : ∀ (l : List Nat) (A A2 : AHeap), unwindA l A = some A2 → A2.size = A.size := by
          intro l
          induction l with
          | nil => intro A A2 h; cases h; rfl
          | cons d l ih =>
            intro A A2 h
            simp only [unwindA] at h
            split at h
            · have := ih _ _ h
              rw [this]; rfl
            · cases h
        exact this _ _ _ hu
      let b0 : Frame := { fn := f, tmps := #[], todo := [], defers := [], mode := .run, kind := .normal }
      let a0 : Act := { tmps := cargs.toArray ++ Array.replicate (F.ntmps - cargs.toArray.size) undef, defers := [] }
      have hent : ∀ cs, lone (Frame.enter P f cargs.toArray .normal) cs w = lone (fat b0 a0 [.code body]) cs w := by
        intro cs
        simp only [Frame.enter, hF, Option.map_some, Option.getD_some, Option.bind_some, hb, fat, b0, a0]
      have hE0 : EnvR ρ (envOf 0 .leaf args) a0 := enter_env hargs
      have hn0 : a0.tmps.size = F.ntmps := by
        have := hargs.length
        simp only [a0, Array.size_append, Array.size_replicate, List.size_toArray]; omega
      obtain ⟨ρ1, a1, w1, l1, S1, T1⟩ := execC_sound hcs hmix body _ _ _ _ hcc hx ρ a0 w b0 rfl ⟨hE0, hn0, trivial⟩ hr (by rw [← hsz]; exact hfree) rfl
      obtain ⟨tm1, df1⟩ := a1
      obtain ⟨w2, s2, T2⟩ := unwind_sound st.dfs tm1 S1.dfs T1.rel hu
      obtain ⟨vc, r1, r2⟩ := results_sound (a := { tmps := tm1, defers := [] }) hrs T2.rel S1.env hres
      refine ⟨ρ1, vc, w2, fun cs => ?_, r2, T1.trans T2⟩
      rw [hent cs]
      have leave : ∀ todo, (todo = [] ∨ ∃ r, todo = .code .ret :: r) → Steps P (lone (fat b0 a0 [.code body]) cs w) (lone (fat b0 { tmps := tm1, defers := df1 } todo) cs w1) →
          ∃ fr, Steps P (lone (fat b0 a0 [.code body]) cs w) (lone fr cs w2) ∧ fr.fn = f ∧ fr.leaving P w2 (.returned vc) := by
        intro todo ht hs
        refine ⟨_, (hs.trans (Steps.one (st_leaveFn rfl ht))).trans (s2 b0 todo cs), rfl, rfl, rfl, rfl, F, hF, r1⟩
      have hl := l1 [] cs
      cases x with
      | normal => exact leave [] (.inl rfl) hl
      | ret => obtain ⟨todo, hl⟩ := hl; exact leave _ (.inr ⟨todo, rfl⟩) hl
      | exit id => exact absurd rfl (hne id)

end
end Go.AS
