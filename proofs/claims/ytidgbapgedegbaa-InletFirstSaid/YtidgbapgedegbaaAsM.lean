import Derived.Test.YtidgbapgedegbaaAsL
namespace Go.AS
open Go
set_option linter.unusedSimpArgs false
set_option linter.unusedVariables false

section
variable {P : Program} {w : World}

/-! ### Maps -/
theorem findNow_sound {ρ : Ren} {kk : IntKind} {n : Int} {es : List (Int × Value × Nat)} {es' : List MapEntry} (h : MR ρ kk es es') : ∀ i,
    (findE n es i = none → Instr.findNow (.int kk) (.int kk n) es' i = some none) ∧
    (∀ j v, findE n es i = some (j, v) → ∃ v', Instr.findNow (.int kk) (.int kk n) es' i = some (some (j, v')) ∧ VR ρ v v' ∧ i ≤ j ∧ (es'[j - i]?).map (·.key) = some (.int kk n)) := by
  induction h with
  | nil => intro i; exact ⟨fun _ => rfl, fun j v h => (by cases h)⟩
  | cons k v v' m es es' hv _ ih =>
    intro i
    obtain ⟨h1, h2⟩ := ih (i + 1)
    simp only [findE, Instr.findNow, Instr.sameNow, if_true]
    by_cases hk : n = k
    · subst hk
      simp only [beq_self_eq_true, if_true]
      refine ⟨fun h => (by cases h), fun j u h => ?_⟩
      cases h
      exact ⟨v', rfl, hv, Nat.le_refl _, by simp⟩
    · have hk' : (n == k) = false := by simpa using hk
      simp only [hk', Bool.false_eq_true, if_false]
      refine ⟨h1, fun j u h => ?_⟩
      obtain ⟨u', a, b, c, d⟩ := h2 j u h
      refine ⟨u', a, b, by omega, ?_⟩
      rw [show j - i = (j - (i + 1)) + 1 by omega]
      simpa using d

theorem run_checkKey1 {kt : TypeId} {kk : IntKind} {n : Int} {b : Bool} (m : Nat) (h : P.underlying kt = some (.int kk)) : (Instr.checkKey b (m + 1) kt (.int kk n)).run P w = .ok () w := by
  simp only [Instr.checkKey, run_bind, run_underlying h, run_pure]

theorem run_checkKey {kt : TypeId} {kk : IntKind} {n : Int} {b : Bool} (h : P.underlying kt = some (.int kk)) : (Instr.checkKey b 10000 kt (.int kk n)).run P w = .ok () w :=
  run_checkKey1 9999 h

theorem run_findKey {kt : TypeId} {kk : IntKind} {k : Value} {es : List MapEntry} {r : Option (Nat × Value)} (h : P.underlying kt = some (.int kk)) (hr : Instr.findNow (.int kk) k es 0 = some r) : (Instr.findKey kt k es).run P w = .ok r w := by
  simp only [Instr.findKey, run_bind, run_underlying h, hr, run_pure]

theorem run_newObj0 {o : Obj} : (newObj o).run P w = .ok w.heap.size { w with heap := w.heap.push o } := by
  simp [newObj, Sem.run]

theorem run_setObjMap {r : Nat} {es : Array MapEntry} {c : Nat} {o : Obj} (h : w.heap[r]? = some (.map es c)) : (setObj r o).run P w = .ok () { w with heap := w.heap.setIfInBounds r o } := by
  simp only [setObj, Sem.run, h]

theorem MR.push {ρ : Ren} {kk : IntKind} {es : List (Int × Value × Nat)} {es' : List MapEntry} {n : Int} {x x' : Value} {c : Nat} (h : MR ρ kk es es') (hx : VR ρ x x') : MR ρ kk (es ++ [(n, x, c)]) (es' ++ [⟨.int kk n, x', c⟩]) := by
  induction h with
  | nil => exact .cons _ _ _ _ _ _ hx .nil
  | cons k v v' m es es' hv _ ih => exact .cons _ _ _ _ _ _ hv ih

theorem MR.modify {ρ : Ren} {kk : IntKind} {es : List (Int × Value × Nat)} {es' : List MapEntry} {n : Int} {x x' : Value} (h : MR ρ kk es es') (hx : VR ρ x x') : ∀ i, MR ρ kk (es.modify i fun y => (n, x, y.2.2)) (es'.modify i fun e => { e with key := .int kk n, val := x' }) := by
  induction h with
  | nil => intro i; cases i <;> exact .nil
  | cons k v v' m es es' hv hm ih =>
    intro i
    cases i with
    | zero => exact .cons _ _ _ _ _ _ hx hm
    | succ i => exact .cons _ _ _ _ _ _ hv (ih i)

theorem MR.erase {ρ : Ren} {kk : IntKind} {es : List (Int × Value × Nat)} {es' : List MapEntry} (h : MR ρ kk es es') : ∀ i, MR ρ kk (es.eraseIdx i) (es'.eraseIdx i) := by
  induction h with
  | nil => intro i; cases i <;> exact .nil
  | cons k v v' m es es' hv hm ih =>
    intro i
    cases i with
    | zero => exact hm
    | succ i => exact .cons _ _ _ _ _ _ hv (ih i)

theorem run_getObjMap {r : Nat} {es : Array MapEntry} {c : Nat} (h : w.heap[r]? = some (.map es c)) : (getObj r).run P w = .ok (.map es c) w := by
  simp only [getObj, Sem.run, h]

end

section
variable {C : Comp} {ρ : Ren} {A : AHeap} {w : World} {P : Program} {e : Env} {cev : Operand → Value}

theorem fieldPlace_run {b o : Nat} {f : Field} {s : Nat} (hs : szOf P f.type = some s) (h0 : s ≠ 0) : (fieldPlace ⟨b, o, none⟩ f).run P w = .ok ⟨b, o + f.offset, none⟩ w := by
  simp only [fieldPlace, run_bind, run_sizeOf hs, if_neg h0, run_pure, add_plain]

set_option maxHeartbeats 2000000 in
theorem qop_sound {o : Oper} {ao : AOp} {v : Value} (hc : compileOp P o = some ao) (hq : qop e A ao = some v) (hev : ∀ x ∈ o.op.operands.toList, VR ρ (ev e x) (cev x)) (hr : HRel C ρ A w.heap) :
    ∃ vc, (execOp cev o).run P w = .ok (.value vc) w ∧ VR ρ v vc := by
  obtain ⟨dst, op, ty, pos, after, guard⟩ := o
  unfold compileOp at hc
  split at hc
  · cases hc
  rename_i hops0
  have hops : ∀ x ∈ op.operands.toList, x ∈ op.operands.toList := fun _ h => h
  clear hops0
  cases op with
  | move x =>
    cases hc; cases hq
    exact ⟨cev x, rfl, hev x (hops x (by simp [Op.operands]))⟩
  | assign x =>
    cases hc; cases hq
    exact ⟨cev x, rfl, hev x (hops x (by simp [Op.operands]))⟩
  | pick c a b =>
    cases hc
    have hvc := hev c (hops c (by simp [Op.operands]))
    have hva := hev a (hops a (by simp [Op.operands]))
    have hvb := hev b (hops b (by simp [Op.operands]))
    simp only [qop] at hq
    split at hq
    · rename_i t ht
      rw [ht] at hvc
      cases hq
      refine ⟨if t then cev a else cev b, ?_, by cases t <;> assumption⟩
      simp only [execOp, run_bind, hvc.bool_inv, asBool, run_pure]
    · cases hq
  | build t parts =>
    simp only [Option.bind_eq_bind] at hc
    cases hp : partsOf P t parts.toList with
    | none => rw [hp] at hc; cases hc
    | some qs =>
      rw [hp] at hc
      simp only [Option.bind_some] at hc
      cases hz : zeroOf P t with
      | none => rw [hz] at hc; cases hc
      | some z =>
        rw [hz] at hc; cases hc
        simp only [qop] at hq
        cases hf : fillP z (qs.map fun p => (p.1, p.2.1, ev e p.2.2)) with
        | none => rw [hf] at hq; cases hq
        | some out =>
          rw [hf] at hq; cases hq
          obtain ⟨v0, h1, h2, h3⟩ := zeroOf_spec (w := w) (ρ := ρ) hz
          obtain ⟨v', h4, h5⟩ := partsOf_spec (w := w) (cev := cev) hp (fun p hpm => hev p.2 (hops p.2 (List.mem_map.2 ⟨p, hpm, rfl⟩))) h3 hf v0 h1 h2
          refine ⟨v', run_v ?_, h5⟩
          have := map_arr parts (fun x => (x.1, cev x.2))
          rw [← h4]; show (Instr.build t (parts.map fun x => (x.1, cev x.2))).run P w = _; rw [← this]
  | load t a =>
    simp only [Option.bind_eq_bind] at hc
    cases hg : aggOf P t with
    | none => rw [hg] at hc; cases hc
    | some g =>
      rw [hg] at hc
      simp only [Option.bind_some] at hc
      cases hs : szOf P t with
      | none => rw [hs] at hc; cases hc
      | some s =>
        rw [hs] at hc
        simp only [Option.bind_some, Option.some.injEq] at hc
        have hva := hev a (hops a (by simp [Op.operands]))
        cases g with
        | false =>
          simp only [Bool.false_eq_true, if_false] at hc
          subst hc
          simp only [qop] at hq
          split at hq
          · rename_i b off ha
            rw [ha] at hva
            obtain ⟨en, he, hx⟩ := hva.ptr_inv
            obtain ⟨v', h1, h2⟩ := rd_cell hr he hq
            refine ⟨v', run_v ?_, h2⟩
            simp only [Instr.loadAt, hx, Instr.sureAddr, run_bind, run_pure, loadVar, run_isAgg hg, Bool.false_eq_true, if_false]
            exact run_load h1
          · cases hq
        | true =>
          simp only [if_true] at hc
          subst hc
          simp only [qop] at hq
          split at hq
          · rename_i b off ha
            rw [ha] at hva
            obtain ⟨en, he, hx⟩ := hva.ptr_inv
            split at hq
            · rename_i h0
              cases hq
              refine ⟨.agg #[], run_v ?_, .agg _ _ .nil⟩
              simp only [Instr.loadAt, hx, Instr.sureAddr, run_bind, run_pure, loadVar, run_isAgg hg, if_true, run_sizeOf hs, h0]
              rfl
            · cases hrd : rdCells A b off s with
              | none => rw [hrd] at hq; cases hq
              | some vs =>
                rw [hrd] at hq; cases hq
                obtain ⟨vs', h1, h2⟩ := run_loadN (P := P) hr he hrd
                refine ⟨.agg ⟨vs'⟩, run_v ?_, .agg _ _ h1⟩
                simp only [Instr.loadAt, hx, Instr.sureAddr, run_bind, run_pure, loadVar, run_isAgg hg, if_true, run_sizeOf hs, h2]
          · cases hq
  | nilCheck x =>
    cases hc
    have hvx := hev x (hops x (by simp [Op.operands]))
    simp only [qop] at hq
    generalize hX : cev x = X at hvx
    split at hq
    · rename_i a ha
      rw [ha] at hvx; cases hq
      cases hvx with
      | ptr b o en he => exact ⟨_, by simp only [execOp, hX]; rfl, .ptr _ _ _ he⟩
    · rename_i f c d ha
      rw [ha] at hvx; cases hq
      cases hvx with
      | func _ _ _ _ _ h1 h2 => exact ⟨_, by simp only [execOp, hX]; rfl, .func _ _ _ _ _ h1 h2⟩
    · rename_i f c d ha
      rw [ha] at hvx; cases hq
      cases hvx with
      | yield _ en he => exact ⟨_, by simp only [execOp, hX]; rfl, .yield _ _ he⟩
    · cases hq
  | binOp op t x y yt =>
    have hvx := hev x (hops x (by simp [Op.operands]))
    have hvy := hev y (hops y (by simp [Op.operands]))
    have key : ∀ v, binA op (ev e x) (ev e y) = some v → ∃ vc, (execOp cev { dst, op := .binOp op t x y yt, type := ty, pos, after, guard }).run P w = .ok (.value vc) w ∧ VR ρ v vc := by
      intro v hb
      obtain ⟨h1, h2⟩ := binA_sound (P := P) (w := w) t hb hvx hvy
      refine ⟨v, run_v ?_, h2⟩
      rw [run_bind]
      have hg : (eqGuard op t x y (cev x) (cev y)).run P w = .ok () w := by
        unfold eqGuard
        unfold binA at hb
        split at hb
        · rename_i k a k' b' ex ey
          rw [ex] at hvx; rw [ey] at hvy
          rw [hvx.int_inv, hvy.int_inv]
          split <;> rfl
        · rename_i a b' ex ey
          rw [ex] at hvx; rw [ey] at hvy
          rw [hvx.string_inv, hvy.string_inv]
          split <;> rfl
        · cases hb
      rw [hg]
      exact h1
    have keyE : ∀ (neg : Bool) (d : TypeDesc) (k : EqK), P.underlying t = some d → eqKind d = some k → op = (if neg then .neq else .eql) → ∀ v, qop e A (.eq neg (isLit x || isLit y) k x y) = some v →
        ∃ vc, (execOp cev { dst, op := .binOp op t x y yt, type := ty, pos, after, guard }).run P w = .ok (.value vc) w ∧ VR ρ v vc := by
      intro neg d k hd hk hop v hqe
      simp only [qop] at hqe
      cases he : eqA (isLit x || isLit y) k (ev e x) (ev e y) with
      | none => rw [he] at hqe; cases hqe
      | some b =>
        rw [he] at hqe; cases hqe
        refine ⟨_, run_v ?_, .bool _⟩
        rw [run_bind, eqA_guard (P := P) (w := w) (by cases neg <;> simp_all) rfl he hvx hvy]
        obtain ⟨h1, h2⟩ := eqA_bin (t := t) he hvx hvy
        have h3 := eqA_run (w := w) hd hk he hvx hvy
        cases neg with
        | false => simp only [Bool.false_eq_true, if_false] at hop; subst hop; simp only [h1, run_bind, h3, run_pure]; rfl
        | true => simp only [if_true] at hop; subst hop; simp only [h2, run_bind, h3, run_pure]; rfl
    have keyF : ∀ (neg : Bool) (l : List (Nat × LeafK)), aggOf P t = some true → P.eqGuardType P.depth t = false → flat P 20 t = some l → op = (if neg then .neq else .eql) → ∀ v, qop e A (.eqF neg l x y) = some v →
        ∃ vc, (execOp cev { dst, op := .binOp op t x y yt, type := ty, pos, after, guard }).run P w = .ok (.value vc) w ∧ VR ρ v vc := by
      intro neg l hagg hg hl hop v hqe
      simp only [qop] at hqe
      split at hqe
      · rename_i xs ys hxs hys
        rw [hxs] at hvx; rw [hys] at hvy
        generalize hX : cev x = X at hvx
        generalize hY : cev y = Y at hvy
        cases hvx with
        | agg xs xs' hxx =>
          cases hvy with
          | agg ys ys' hyy =>
            cases he : eqL l xs ys with
            | none => simp only [he] at hqe; cases hqe
            | some b =>
              simp only [he] at hqe
              cases hqe
              have he' := eqL_mono hxx hyy he
              obtain ⟨D, hD⟩ : ∃ D, Op.maxDepth = D + 20 := ⟨9980, rfl⟩
              have h3 : (Op.equal t (.agg ⟨xs'⟩) (.agg ⟨ys'⟩)).run P w = .ok b w := by
                unfold Op.equal; rw [hD]
                exact flat_equal 20 D t l xs' ys' _ _ b hl he' (.inl ⟨hagg, rfl⟩) (.inl ⟨hagg, rfl⟩)
              have hguard : (eqGuard op t x y (.agg ⟨xs'⟩) (.agg ⟨ys'⟩)).run P w = .ok () w := by
                cases neg with
                | false => simp only [Bool.false_eq_true, if_false] at hop; subst hop; simp [eqGuard, run_bind, program, Sem.run, hg, run_pure]
                | true => simp only [if_true] at hop; subst hop; simp [eqGuard, run_bind, program, Sem.run, hg, run_pure]
              refine ⟨_, run_v ?_, .bool _⟩
              rw [run_bind, hX, hY, hguard]
              cases neg with
              | false => simp only [Bool.false_eq_true, if_false] at hop; subst hop; show (do pure (Value.bool (← Op.equal t (.agg ⟨xs'⟩) (.agg ⟨ys'⟩))) : Sem Value).run P w = _; simp only [run_bind, h3, run_pure]; rfl
              | true => simp only [if_true] at hop; subst hop; show (do pure (Value.bool (!(← Op.equal t (.agg ⟨xs'⟩) (.agg ⟨ys'⟩)))) : Sem Value).run P w = _; simp only [run_bind, h3, run_pure]; rfl
      · cases hqe
    have goF : ∀ (neg : Bool), aggOf P t = some true → op = (if neg then .neq else .eql) → (if P.eqGuardType P.depth t then none else (flat P 20 t).map fun l => AOp.eqF neg l x y) = some ao →
        ∃ vc, (execOp cev { dst, op := .binOp op t x y yt, type := ty, pos, after, guard }).run P w = .ok (.value vc) w ∧ VR ρ v vc := by
      intro neg hagg hop hcc
      split at hcc
      · cases hcc
      · rename_i hg
        cases hl : flat P 20 t with
        | none => rw [hl] at hcc; cases hcc
        | some l =>
          rw [hl] at hcc; cases hcc
          exact keyF neg l hagg (by simpa using hg) hl hop v hq
    simp only at hc
    split at hc
    · cases hc; exact key v hq
    · cases hc; exact key v hq
    · rename_i hu; exact goF false (by unfold aggOf; rw [hu]; rfl) rfl hc
    · rename_i hu; exact goF false (by unfold aggOf; rw [hu]; rfl) rfl hc
    · rename_i hu; exact goF true (by unfold aggOf; rw [hu]; rfl) rfl hc
    · rename_i hu; exact goF true (by unfold aggOf; rw [hu]; rfl) rfl hc
    · rename_i d _ _ _ _ hd
      cases hk : eqKind d with
      | none => rw [hk] at hc; cases hc
      | some k => rw [hk] at hc; cases hc; exact keyE false d k hd hk rfl v hq
    · rename_i d _ _ _ _ hd
      cases hk : eqKind d with
      | none => rw [hk] at hc; cases hc
      | some k => rw [hk] at hc; cases hc; exact keyE true d k hd hk rfl v hq
    · cases hc
  | unOp op t x =>
    cases hc
    have hvx := hev x (hops x (by simp [Op.operands]))
    obtain ⟨h1, h2⟩ := unA_sound (P := P) (w := w) hq hvx
    exact ⟨v, run_v h1, h2⟩
  | convert src dst' x =>
    have hvx := hev x (hops x (by simp [Op.operands]))
    simp only at hc
    split at hc
    · rename_i k' k hs hd
      cases hc
      simp only [qop] at hq
      split at hq
      · rename_i kk n hx
        rw [hx] at hvx; cases hq
        refine ⟨_, run_v ?_, .int _ _⟩
        simp only [convert, run_bind, run_underlying hs, run_underlying hd, hvx.int_inv]
        rfl
      · cases hq
    · rename_i hs hd
      cases hc
      simp only [qop] at hq
      split at hq
      · rename_i s hx
        rw [hx] at hvx; cases hq
        refine ⟨_, run_v ?_, .string _⟩
        simp only [convert, run_bind, run_underlying hs, run_underlying hd, hvx.string_inv]
        rfl
      · cases hq
    · split at hc
      · split at hc
        · cases hc; simp only [qop] at hq; cases hq
        · cases hc
      · cases hc
    · rename_i el hs hd
      split at hc
      · rename_i he8
        cases hc
        simp only [qop] at hq
        have conv : ∀ r, (∀ a n c, ev e x = .slice a n c → (Conv.bytesToString (cev x)).run P w = .ok (.string r) w) → (∃ a n c, ev e x = .slice a n c) →
            (execOp cev { dst, op := .convert src dst' x, type := ty, pos, after, guard }).run P w = .ok (.value (.string r)) w := by
          intro r h1 ⟨a, n, c, hx⟩
          refine run_v ?_
          have h2 := h1 a n c hx
          rw [hx] at hvx
          generalize cev x = X at hvx h2
          simp only [convert, run_bind, run_underlying hs, run_underlying hd]
          cases hvx <;> (simp only [run_bind, run_underlying he8]; exact h2)
        split at hq
        · rename_i hx
          cases hq
          refine ⟨_, conv _ (fun a n c hx2 => ?_) ⟨_, _, _, hx⟩, .string _⟩
          rw [hx] at hvx
          generalize cev x = X at hvx
          cases hvx; rfl
        · rename_i a n c _ hx
          split at hq
          · rename_i cs hf
            split at hq
            · rename_i hall
              cases hq
              refine ⟨_, conv _ (fun a2 n2 c2 hx2 => ?_) ⟨_, _, _, hx⟩, .string _⟩
              rw [hx] at hvx
              exact cvB2S_sound hr hf hall hvx
            · cases hq
          · cases hq
        · cases hq
      · cases hc
    · cases hc
  | makeInterface t x =>
    have hvx := hev x (hops x (by simp [Op.operands]))
    simp only at hc
    split at hc
    · cases hc
    · rename_i d hn hd
      cases hc; cases hq
      refine ⟨_, run_v ?_, .iface _ _ _ hvx⟩
      simp only [Instr.makeInterface, run_bind, run_underlying hd]
      revert hn
      cases d with
      | interface ms => intro hn; exact (hn ms rfl).elim
      | _ => intro hn; rfl
    · cases hc
  | makeFunc fn first captured =>
    cases fn with
    | func f =>
      cases hc; cases hq
      refine ⟨_, rfl, ?_⟩
      have h1 : VRs ρ (first.toList.map (ev e)) (first.toList.map cev) := VRs.map fun x hx => hev x (hops x (by simp [Op.operands]; exact .inl (Array.mem_toList_iff.1 hx)))
      have h2 : VRs ρ (captured.toList.map (ev e)) (captured.toList.map cev) := VRs.map fun x hx => hev x (hops x (by simp [Op.operands]; exact .inr (Array.mem_toList_iff.1 hx)))
      have := VR.func f _ _ _ _ h1 h2
      rw [map_arr first cev, map_arr captured cev] at this
      exact this
    | _ => cases hc
  | slice t x lo hi mx =>
    have hvx := hev x (hops x (by simp [Op.operands]))
    have hlo : ∀ y, lo = some y → VR ρ (ev e y) (cev y) := fun y hy => hev y (hops y (by simp [Op.operands, hy]))
    have hhi : ∀ y, hi = some y → VR ρ (ev e y) (cev y) := fun y hy => hev y (hops y (by simp [Op.operands, hy]))
    have hmx : ∀ y, mx = some y → VR ρ (ev e y) (cev y) := fun y hy => hev y (hops y (by simp [Op.operands, hy]))
    simp only at hc
    split at hc
    · rename_i n elem hu
      cases hs : szOf P elem with
      | none => rw [hs] at hc; cases hc
      | some s =>
        rw [hs] at hc; cases hc
        simp only [qop, sliceAA] at hq
        split at hq
        · rename_i b off hx
          rw [hx] at hvx
          obtain ⟨en, he, hX⟩ := hvx.ptr_inv
          split at hq
          · rename_i l hh m hb
            split at hq
            · cases hq
            · rename_i hno
              cases hq
              obtain ⟨h1, h2, h3, h4⟩ := bnds_sound (P := P) (w := w) false hb (Nat.le_refl _) hlo hhi hmx
              refine ⟨_, run_v (x := .slice (some (if m = l then ⟨en.cb, en.base + off, none⟩ else (Addr.mk en.cb (en.base + off) none).add (l * s))) (hh - l) (m - l)) ?_, ?_⟩
              · simp only [Instr.sliceAt, run_bind, run_underlying hu, hX, Instr.sureAddr, run_pure, h1, run_sizeOf hs]
              · rw [add_plain]
                by_cases hml : m = l
                · simp only [hml, if_true]; simp only [hml] at hno
                  exact .slice b _ _ _ en he (by omega) (by omega)
                · simp only [hml, if_false]
                  rw [Nat.add_assoc]
                  exact .slice b _ _ _ en he (by omega) (by omega)
          · cases hq
        · cases hq
    · rename_i hu
      split at hc
      · cases hc
      · rename_i hmn
        cases hc
        simp only [qop, sliceSA] at hq
        split at hq
        · rename_i s hx
          rw [hx] at hvx
          split at hq
          · rename_i l hh m hb
            cases hq
            have hmx0 : mx = none := by simpa using hmn
            subst hmx0
            obtain ⟨h1, h2, h3, h4⟩ := bnds_sound (P := P) (w := w) (mx := none) false hb (Nat.le_refl _) hlo hhi (fun _ h => by cases h)
            refine ⟨_, run_v (x := .string (s.extract l hh)) ?_, ?_⟩
            · simp only [Instr.sliceAt, run_bind, run_underlying hu, Instr.slice, hvx.string_inv, Option.map_none, Option.isSome_none, Bool.false_eq_true, if_false, run_pure]
              simp only [Option.map_none] at h1
              rw [show s.size = s.data.toList.length from rfl, h1]
            · have : (⟨⟨(s.data.toList.drop l).take (hh - l)⟩⟩ : ByteArray) = s.extract l hh := by
                apply ByteArray.ext
                apply Array.ext'
                simp [List.extract_eq_take_drop]
              rw [this]; exact .string _
          · cases hq
        · cases hq
    · rename_i elem hu
      cases hs : szOf P elem with
      | none => rw [hs] at hc; cases hc
      | some s =>
        rw [hs] at hc; cases hc
        simp only [qop] at hq
        obtain ⟨v', h1, h2⟩ := sliceVA_sound hr hq hvx hu hs hlo hhi hmx
        refine ⟨v', run_v ?_, h2⟩
        simp only [Instr.sliceAt, run_bind, run_underlying hu]
        exact h1
    · cases hc
  | fieldAddr t x f =>
    have hvx := hev x (hops x (by simp [Op.operands]))
    simp only at hc
    split at hc
    · rename_i fields hu
      simp only [Option.bind_eq_bind] at hc
      cases hf : fields[f]? with
      | none => rw [hf] at hc; cases hc
      | some g =>
        rw [hf] at hc
        simp only [Option.bind_some] at hc
        cases hs : szOf P g.type with
        | none => rw [hs] at hc; cases hc
        | some s =>
          rw [hs] at hc
          simp only [Option.bind_some] at hc
          split at hc
          · cases hc
          · rename_i h0
            cases hc
            simp only [qop] at hq
            split at hq
            · rename_i b off hx
              rw [hx] at hvx; cases hq
              obtain ⟨en, he, hX⟩ := hvx.ptr_inv
              refine ⟨_, run_v (x := .pointer (some ⟨en.cb, en.base + off + g.offset, none⟩)) ?_, ?_⟩
              · simp only [Instr.fieldAt, run_bind, run_underlying hu, hf, hX, Instr.sureAddr, run_pure, fieldPlace_run hs h0]
              · rw [Nat.add_assoc]; exact .ptr _ _ _ he
            · cases hq
    · cases hc
  | field t x f =>
    have hvx := hev x (hops x (by simp [Op.operands]))
    simp only at hc
    split at hc
    · rename_i fields hu
      simp only [Option.bind_eq_bind] at hc
      cases hf : fields[f]? with
      | none => rw [hf] at hc; cases hc
      | some g =>
        rw [hf] at hc
        simp only [Option.bind_some] at hc
        cases hs : szOf P g.type with
        | none => rw [hs] at hc; cases hc
        | some s =>
          rw [hs] at hc
          simp only [Option.bind_some] at hc
          cases ha : aggOf P g.type with
          | none => rw [ha] at hc; cases hc
          | some a =>
            rw [ha] at hc
            simp only [Option.bind_some, Option.some.injEq] at hc
            generalize hX : cev x = X at hvx
            have run : ∀ (cs' : List Value) (r : Value), X = .agg ⟨cs'⟩ → (part g.type ⟨cs'⟩ g.offset).run P w = .ok r w → (execOp cev { dst, op := .field t x f, type := ty, pos, after, guard }).run P w = .ok (.value r) w := by
              intro cs' r h1 h2
              refine run_v ?_
              simp only [Instr.field, run_bind, run_underlying hu, hf, hX, h1, asAgg, run_pure, h2]
            cases a with
            | false =>
              simp only [Bool.false_eq_true, if_false] at hc
              subst hc
              simp only [qop] at hq
              split at hq
              · rename_i cs hx
                rw [hx] at hvx
                cases hvx with
                | agg cs cs' hcs =>
                  obtain ⟨r, h1, h2⟩ := (part_sound (P := P) (w := w) (t := g.type) (off := g.offset) hcs).1 v ha hq
                  exact ⟨r, run cs' r rfl h1, h2⟩
              · cases hq
            | true =>
              simp only [if_true] at hc
              subst hc
              simp only [qop] at hq
              split at hq
              · rename_i cs hx
                rw [hx] at hvx
                split at hq
                · rename_i hle
                  cases hq
                  cases hvx with
                  | agg cs cs' hcs =>
                    obtain ⟨r, h1, h2⟩ := (part_sound (P := P) (w := w) (t := g.type) (off := g.offset) hcs).2 s ha hs hle
                    exact ⟨r, run cs' r rfl h1, h2⟩
                · cases hq
              · cases hq
    · cases hc
  | indexAddr t x i =>
    have hvx := hev x (hops x (by simp [Op.operands]))
    have hvi := hev i (hops i (by simp [Op.operands]))
    simp only at hc
    split at hc
    · rename_i n elem hu
      cases hs : szOf P elem with
      | none => rw [hs] at hc; cases hc
      | some s =>
        rw [hs] at hc; cases hc
        simp only [qop] at hq
        split at hq
        · rename_i b off j hx hj
          split at hq
          · rename_i hb
            cases hq
            rw [hx] at hvx
            obtain ⟨en, he, hX⟩ := hvx.ptr_inv
            obtain ⟨k, hk⟩ := idxA_sound (P := P) (w := w) hj hvi
            refine ⟨_, run_v (x := .pointer (some ((Addr.mk en.cb (en.base + off) none).add (j.toNat * s)))) ?_, ?_⟩
            · simp only [Instr.indexAt, run_bind, hk, run_underlying hu, hX, Instr.sureAddr, run_pure, if_pos hb, run_sizeOf hs]
            · rw [add_plain, Nat.add_assoc]; exact .ptr _ _ _ he
          · cases hq
        · cases hq
    · rename_i elem hu
      cases hs : szOf P elem with
      | none => rw [hs] at hc; cases hc
      | some s =>
        rw [hs] at hc; cases hc
        simp only [qop] at hq
        split at hq
        · rename_i b off len cap j hx hj
          split at hq
          · rename_i hb
            cases hq
            rw [hx] at hvx
            obtain ⟨k, hk⟩ := idxA_sound (P := P) (w := w) hj hvi
            generalize hX : cev x = X at hvx
            have run : ∀ (en : REnt) (c : Nat), X = .slice (some ⟨en.cb, en.base + off, none⟩) len c → (execOp cev { dst, op := .indexAddr t x i, type := ty, pos, after, guard }).run P w = .ok (.value (.pointer (some ((Addr.mk en.cb (en.base + off) none).add (j.toNat * s))))) w := by
              intro en c h1
              refine run_v ?_
              simp only [Instr.indexAt, run_bind, hk, run_underlying hu, hX, h1, run_pure, if_pos hb, run_sizeOf hs]
            cases hvx with
            | slice _ _ _ _ en he hc hl => exact ⟨_, run en _ rfl, by rw [add_plain, Nat.add_assoc]; exact .ptr _ _ _ he⟩
            | sliceOpen _ _ _ q en he hq2 hrm => exact ⟨_, run en _ rfl, by rw [add_plain, Nat.add_assoc]; exact .ptr _ _ _ he⟩
            | sliceEnd => omega
          · cases hq
        · cases hq
    · cases hc
  | index t x i =>
    have hvx := hev x (hops x (by simp [Op.operands]))
    have hvi := hev i (hops i (by simp [Op.operands]))
    simp only at hc
    split at hc
    · rename_i n elem hu
      simp only [Option.bind_eq_bind] at hc
      cases hs : szOf P elem with
      | none => rw [hs] at hc; cases hc
      | some s =>
        rw [hs] at hc
        simp only [Option.bind_some] at hc
        cases ha : aggOf P elem with
        | none => rw [ha] at hc; cases hc
        | some a =>
          rw [ha] at hc
          simp only [Option.bind_some, Option.some.injEq] at hc
          generalize hX : cev x = X at hvx
          have run : ∀ (cs' : List Value) (j : Int) (r : Value), X = .agg ⟨cs'⟩ → idxA (ev e i) = some j → (0 ≤ j ∧ j < n) → (part elem ⟨cs'⟩ (j.toNat * s)).run P w = .ok r w → (execOp cev { dst, op := .index t x i, type := ty, pos, after, guard }).run P w = .ok (.value r) w := by
            intro cs' j r h1 hj hb h2
            obtain ⟨k, hk⟩ := idxA_sound (P := P) (w := w) hj hvi
            refine run_v ?_
            simp only [Instr.index, run_bind, hk, run_underlying hu, hX, h1, if_pos hb, run_sizeOf hs, h2]
          cases a with
          | false =>
            simp only [Bool.false_eq_true, if_false] at hc
            subst hc
            simp only [qop] at hq
            split at hq
            · rename_i cs j hx hj
              rw [hx] at hvx
              split at hq
              · rename_i hb
                cases hvx with
                | agg cs cs' hcs =>
                  obtain ⟨r, h1, h2⟩ := (part_sound (P := P) (w := w) (t := elem) (off := j.toNat * s) hcs).1 v ha hq
                  exact ⟨r, run cs' j r rfl hj hb h1, h2⟩
              · cases hq
            · cases hq
          | true =>
            simp only [if_true] at hc
            subst hc
            simp only [qop] at hq
            split at hq
            · rename_i cs j hx hj
              rw [hx] at hvx
              split at hq
              · rename_i hb
                split at hq
                · rename_i hle
                  cases hq
                  cases hvx with
                  | agg cs cs' hcs =>
                    obtain ⟨r, h1, h2⟩ := (part_sound (P := P) (w := w) (t := elem) (off := j.toNat * s) hcs).2 s ha hs hle
                    exact ⟨r, run cs' j r rfl hj hb h1, h2⟩
                · cases hq
              · cases hq
            · cases hq
    · rename_i hu
      cases hc
      simp only [qop] at hq
      split at hq
      · rename_i s j hx hj
        split at hq
        · rename_i hb
          cases hg : s.data.toList[j.toNat]? with
          | none => rw [hg] at hq; cases hq
          | some b =>
            rw [hg] at hq; cases hq
            rw [hx] at hvx
            obtain ⟨k, hk⟩ := idxA_sound (P := P) (w := w) hj hvi
            refine ⟨_, run_v (x := .int .u8 b.toNat) ?_, .int _ _⟩
            have : s[j.toNat]? = some b := by
              have hlt : j.toNat < s.data.toList.length := by
                rcases Nat.lt_or_ge j.toNat s.data.toList.length with q | q
                · exact q
                · rw [List.getElem?_eq_none q] at hg; cases hg
              rw [List.getElem?_eq_getElem hlt] at hg
              have hlt2 : j.toNat < s.size := hlt
              rw [getElem?_pos s j.toNat hlt2]
              exact hg
            simp only [Instr.index, run_bind, hk, run_underlying hu, hvx.string_inv, if_pos hb, this, run_pure]
        · cases hq
      · cases hq
    · cases hc
  | extract x i =>
    cases hc
    have hvx := hev x (hops x (by simp [Op.operands]))
    simp only [qop] at hq
    split at hq
    · rename_i vs hx
      rw [hx] at hvx
      generalize hX : cev x = X at hvx
      cases hvx with
      | tuple cs cs' hcs =>
        obtain ⟨r, h1, h2⟩ := hcs.get hq
        refine ⟨r, run_v ?_, h2⟩
        simp only [Instr.extract, hX, List.getElem?_toArray, h1, run_pure]
    · cases hq
  | call c =>
    obtain ⟨callee, args, argTypes⟩ := c
    cases callee with
    | value f =>
      cases f with
      | func f =>
        simp only at hc
        split at hc
        · split at hc
          · cases hc
          · cases hc; simp only [qop] at hq; cases hq
        · cases hc
      | _ => cases hc; simp only [qop] at hq; cases hq
    | invoke r n => cases hc
    | builtin b =>
      cases b with
      | len =>
        simp only at hc
        split at hc
        · rename_i t x ht hx
          have hx2 : args[0]? = some x := hx
          have hvx := hev x (hops x (by
            simp only [Op.operands, Call.operands]
            have := Array.mem_of_getElem? hx2
            simp [this]))
          have hargs : (args.map cev)[0]? = some (cev x) := by simp [hx2]
          have run : ∀ (r : Value), (Builtin.len_ argTypes ty (args.map cev)).run P w = .ok r w → (execOp cev { dst, op := .call { callee := .builtin .len, args, argTypes }, type := ty, pos, after, guard }).run P w = .ok (.value r) w := by
            intro r h
            simp only [execOp, resolve, run_bind, run_pure, invoke, builtin, h]
          have lens : P.underlying t = some .string → qop e A (.lenS x) = some v → ∃ vc, (execOp cev { dst, op := .call { callee := .builtin .len, args, argTypes }, type := ty, pos, after, guard }).run P w = .ok (.value vc) w ∧ VR ρ v vc := by
            intro hu hq
            simp only [qop] at hq
            split at hq
            · rename_i s hx3
              rw [hx3] at hvx; cases hq
              refine ⟨_, run (.int .i64 s.data.toList.length) ?_, .int _ _⟩
              simp only [Builtin.len_, ht, hargs, run_bind, hvx.string_inv, run_underlying hu]; rfl
            · cases hq
          have lenv : ∀ el, P.underlying t = some (.slice el) → qop e A (.lenV x) = some v → ∃ vc, (execOp cev { dst, op := .call { callee := .builtin .len, args, argTypes }, type := ty, pos, after, guard }).run P w = .ok (.value vc) w ∧ VR ρ v vc := by
            intro el hu hq
            simp only [qop] at hq
            split at hq
            · rename_i a n c hx3
              rw [hx3] at hvx; cases hq
              refine ⟨_, run (.int .i64 n) ?_, .int _ _⟩
              simp only [Builtin.len_, ht, hargs, run_bind, run_underlying hu]
              generalize cev x = X at hvx
              cases hvx <;> rfl
            · cases hq
          have lenc : ∀ n el, (P.underlying t = some (.array n el) ∨ ∃ a, P.underlying t = some (.pointer a) ∧ P.underlying a = some (.array n el)) → qop e A (.lenC n) = some v → ∃ vc, (execOp cev { dst, op := .call { callee := .builtin .len, args, argTypes }, type := ty, pos, after, guard }).run P w = .ok (.value vc) w ∧ VR ρ v vc := by
            intro n el hu hq
            cases hq
            refine ⟨_, run (.int .i64 n) ?_, .int _ _⟩
            rcases hu with hu | ⟨a, hu, hua⟩
            · simp only [Builtin.len_, ht, hargs, run_bind, run_underlying hu, run_pure]; rfl
            · simp only [Builtin.len_, ht, hargs, run_bind, run_underlying hu, run_underlying hua, run_pure]; rfl
          split at hc
          · rename_i hu; cases hc; exact lens hu hq
          · rename_i el hu; cases hc; exact lenv el hu hq
          · rename_i n el hu; cases hc; exact lenc n el (.inl hu) hq
          · rename_i a hu
            split at hc
            · rename_i n el hua; cases hc; exact lenc n el (.inr ⟨a, hu, hua⟩) hq
            · cases hc
          · cases hc
        · cases hc
      | min =>
        cases hc
        have hm : ∀ x ∈ args.toList, x ∈ (Op.call { callee := .builtin .min, args, argTypes }).operands.toList := fun x hx => (by simpa [Op.operands, Call.operands] using hx)
        cases heq2 : args.toList with
        | nil => rw [heq2] at hq; cases hq
        | cons x xs =>
          rw [heq2] at hm hq
          obtain ⟨v', h1, h2⟩ := foldV_sound (P := P) (w := w) (ρ := ρ) minV_sound hq (hev x (hm x (by simp))) (VRs.map (ρ := ρ) (e := e) (cev := cev) fun y hy => hev y (hm y (by simp [hy])))
          refine ⟨v', ?_, h2⟩
          have hl : (args.map cev).toList = cev x :: xs.map cev := by simp [heq2]
          simp only [execOp, resolve, run_bind, run_pure, invoke, builtin, Builtin.min_, hl, h1]
      | max =>
        cases hc
        have hm : ∀ x ∈ args.toList, x ∈ (Op.call { callee := .builtin .max, args, argTypes }).operands.toList := fun x hx => (by simpa [Op.operands, Call.operands] using hx)
        cases heq2 : args.toList with
        | nil => rw [heq2] at hq; cases hq
        | cons x xs =>
          rw [heq2] at hm hq
          obtain ⟨v', h1, h2⟩ := foldV_sound (P := P) (w := w) (ρ := ρ) maxV_sound hq (hev x (hm x (by simp))) (VRs.map (ρ := ρ) (e := e) (cev := cev) fun y hy => hev y (hm y (by simp [hy])))
          refine ⟨v', ?_, h2⟩
          have hl : (args.map cev).toList = cev x :: xs.map cev := by simp [heq2]
          simp only [execOp, resolve, run_bind, run_pure, invoke, builtin, Builtin.max_, hl, h1]
      | append =>
        simp only at hc
        split at hc
        · split at hc
          · split at hc
            · cases hc
            · simp only [Option.bind_eq_bind] at hc
              rename_i elem d _ _ _
              cases h1 : szOf P elem with
              | none => rw [h1] at hc; cases hc
              | some z =>
                rw [h1] at hc; simp only [Option.bind_some] at hc
                cases h2 : bytesOf P elem with
                | none => rw [h2] at hc; cases hc
                | some bb =>
                  rw [h2] at hc; simp only [Option.bind_some] at hc
                  cases h3 : zeroOf P elem with
                  | none => rw [h3] at hc; cases hc
                  | some zz =>
                    rw [h3] at hc; simp only [Option.bind_some] at hc
                    by_cases hzz : zz.length = z
                    · rw [if_pos hzz] at hc; cases hc; cases hq
                    · rw [if_neg hzz] at hc; cases hc
          · cases hc
        · cases hc
      | delete =>
        simp only at hc
        split at hc
        · split at hc
          · split at hc
            · cases hc; cases hq
            · cases hc
          · cases hc
        · cases hc
      | clear =>
        simp only at hc
        split at hc
        · split at hc
          · rename_i elem _
            cases h1 : zeroOf P elem with
            | none => rw [h1] at hc; cases hc
            | some z => rw [h1] at hc; cases hc; cases hq
          · cases hc
        · cases hc
      | copy =>
        simp only at hc
        split at hc
        · split at hc
          · rename_i elem _
            cases h1 : szOf P elem with
            | none => rw [h1] at hc; cases hc
            | some z => rw [h1] at hc; cases hc; cases hq
          · cases hc
        · cases hc
      | _ => cases hc
  | alloc elem =>
    simp only at hc
    cases h1 : zeroOf P elem with
    | none => rw [h1] at hc; cases hc
    | some z => rw [h1] at hc; cases hc; cases hq
  | box elem x =>
    simp only at hc
    cases h1 : szOf P elem with
    | none => rw [h1] at hc; cases hc
    | some z => rw [h1] at hc; cases hc; cases hq
  | buildSlice t len parts =>
    exfalso
    simp only at hc
    split at hc
    · rename_i elem _
      simp only [Option.bind_eq_bind] at hc
      cases h1 : szOf P elem with
      | none => rw [h1] at hc; cases hc
      | some z =>
        rw [h1] at hc; simp only [Option.bind_some] at hc
        by_cases h0 : len * z = 0
        · rw [if_pos h0] at hc
          by_cases hk : len * z ≤ 16777216 ∧ len ≤ 16777216 ∧ (len * z = 0 ∨ ([] : List Value).length = z)
          · rw [if_pos hk] at hc; cases hc; cases hq
          · rw [if_neg hk] at hc; cases hc
        · rw [if_neg h0] at hc
          cases h2 : zeroOf P elem with
          | none => rw [h2] at hc; cases hc
          | some zz =>
            rw [h2] at hc; simp only [Option.bind_some] at hc
            by_cases hk : len * z ≤ 16777216 ∧ len ≤ 16777216 ∧ (len * z = 0 ∨ zz.length = z)
            · rw [if_pos hk] at hc; cases hc; cases hq
            · rw [if_neg hk] at hc; cases hc
    · cases hc
  | store t a x =>
    simp only at hc
    cases h1 : szOf P t with
    | none => rw [h1] at hc; cases hc
    | some z => rw [h1] at hc; cases hc; cases hq
  | makeSlice t l c =>
    simp only at hc
    split at hc
    · rename_i elem _
      simp only [Option.bind_eq_bind] at hc
      cases h1 : szOf P elem with
      | none => rw [h1] at hc; cases hc
      | some z =>
        rw [h1] at hc; simp only [Option.bind_some] at hc
        cases h2 : bytesOf P elem with
        | none => rw [h2] at hc; cases hc
        | some bb =>
          rw [h2] at hc; simp only [Option.bind_some] at hc
          cases h3 : zeroOf P elem with
          | none => rw [h3] at hc; cases hc
          | some zz => rw [h3] at hc; cases hc; cases hq
    · cases hc
  | makeMap t r =>
    simp only at hc
    split at hc
    · split at hc
      · cases hc; cases hq
      · cases hc
    · cases hc
  | mapUpdate t m k x =>
    simp only at hc
    split at hc
    · split at hc
      · cases hc; cases hq
      · cases hc
    · cases hc
  | insert t m k x =>
    simp only at hc
    split at hc
    · split at hc
      · cases hc; cases hq
      · cases hc
    · cases hc
  | lookup t m k ok =>
    simp only at hc
    split at hc
    · rename_i kt et hu
      split at hc
      · rename_i kk huk
        split at hc
        · rename_i z hz
          split at hc
          · rename_i hpl
            cases hc
            have hvm := hev m (hops m (by simp [Op.operands]))
            have hvk := hev k (hops k (by simp [Op.operands]))
            have hzr : (zeroValue et).run P w = .ok z w := by
              rw [Option.bind_eq_some_iff] at hz
              obtain ⟨inf, h1, h2⟩ := hz
              simp only [zeroValue, run_bind, run_typeInfo h1, h2, run_pure]
            have hres : ∀ v v' b, VR ρ v v' → VR ρ (getRes ok v b) (if ok = true then .tuple #[v', .bool b] else v') := by
              intro v v' b h
              unfold getRes
              split
              · exact .tuple _ _ (.cons _ _ _ _ h (.cons _ _ _ _ (.bool b) .nil))
              · exact h
            simp only [qop] at hq
            split at hq
            · rename_i kj n hm hk
              split at hq
              · rename_i hkk
                cases hq
                subst hkk
                rw [hm] at hvm; rw [hk] at hvk
                have hm' : cev m = .map none := by generalize cev m = X at hvm; cases hvm; rfl
                have hk' := hvk.int_inv
                refine ⟨_, run_v (x := if ok = true then .tuple #[z, .bool false] else z) ?_, hres _ _ _ (plainV_VR hpl)⟩
                simp only [Instr.lookup, run_bind, run_underlying hu, run_pure, hm', hk', run_checkKey huk]
                rw [run_findKey (r := none) huk rfl]
                simp only [run_bind, hzr, run_pure]
              · cases hq
            · rename_i b kj n hm hk
              split at hq
              · rename_i hkk
                subst hkk
                rw [hm] at hvm; rw [hk] at hvk
                obtain ⟨en, he, hm'⟩ : ∃ en, ρ b = some en ∧ cev m = .map (some en.cb) := by
                  generalize cev m = X at hvm; cases hvm with
                  | map _ en he => exact ⟨en, he, rfl⟩
                have hk' := hvk.int_inv
                split at hq
                · rename_i k2 es clock hb
                  split at hq
                  · rename_i hk2
                    subst hk2
                    obtain ⟨es', hh, hmr⟩ := hr.blk _ _ _ he hb
                    obtain ⟨f1, f2⟩ := findNow_sound (n := n) hmr 0
                    split at hq
                    · rename_i j v hf
                      cases hq
                      obtain ⟨v', g1, g2, _, _⟩ := f2 _ _ hf
                      refine ⟨_, run_v (x := if ok = true then .tuple #[v', .bool true] else v') ?_, hres _ _ _ g2⟩
                      simp only [Instr.lookup, run_bind, run_underlying hu, run_pure, hm', hk', run_getObjMap hh, run_checkKey huk]
                      rw [run_findKey huk g1]
                      simp only [run_bind, run_pure]
                    · rename_i hf
                      cases hq
                      have g1 := f1 hf
                      refine ⟨_, run_v (x := if ok = true then .tuple #[z, .bool false] else z) ?_, hres _ _ _ (plainV_VR hpl)⟩
                      simp only [Instr.lookup, run_bind, run_underlying hu, run_pure, hm', hk', run_getObjMap hh, run_checkKey huk]
                      rw [run_findKey huk g1]
                      simp only [run_bind, hzr, run_pure]
                  · cases hq
                · cases hq
              · cases hq
            · cases hq
          · cases hc
        · cases hc
      · cases hc
    · cases hc
  | _ => cases hc

end
end Go.AS
