import Derived.Test.YtidgbapgedegbaaAsX
namespace Go.AS
open Go
set_option linter.unusedSimpArgs false
set_option linter.unusedVariables false

theorem least_loud (Q : Nat → Prop) (m : Nat) : ∀ i, m ≤ i → Q i → ∃ l, m ≤ l ∧ l ≤ i ∧ Q l ∧ ∀ j, m ≤ j → j < l → ¬ Q j := by
  intro i
  induction i using Nat.strongRecOn with
  | _ i ih =>
    intro h1 h2
    by_cases h : ∃ j, m ≤ j ∧ j < i ∧ Q j
    · obtain ⟨j, a, b, c⟩ := h
      obtain ⟨l, p, q, r, s⟩ := ih j b a c
      exact ⟨l, p, by omega, r, s⟩
    · exact ⟨i, h1, Nat.le_refl _, h2, fun j a b c => h ⟨j, a, b, c⟩⟩

theorem last_loud (Q : Nat → Prop) (i : Nat) (hi : Q i) : ∀ m, i < m → ∃ l, i ≤ l ∧ l < m ∧ Q l ∧ ∀ j, l < j → j < m → ¬ Q j := by
  intro m
  induction m with
  | zero => intro h; omega
  | succ m ih =>
    intro h
    by_cases hm : Q m
    · exact ⟨m, by omega, by omega, hm, fun j a b => by omega⟩
    · by_cases h2 : i < m
      · obtain ⟨l, p, q, r, s⟩ := ih h2
        refine ⟨l, p, by omega, r, fun j a b => ?_⟩
        by_cases hj : j = m
        · rw [hj]; exact hm
        · exact s j a (by omega)
      · have : i = m := by omega
        subst this; exact absurd hi hm

section
variable {P : Program} {call : CallT} {ops : Array Oper} {aos : List AOper} {S : Nat → St} {Bf : Nat → Nat → Prop} {ρ0 ρ : Ren} {w0 w : World} {df : List Deferred} {L : Array Bool} {a : Act}

theorem DInv.step (X : DCtx P call ops aos S Bf) (hfree : ∀ b, (S 0).A.size ≤ b → b < (S ops.size).A.size → ρ0 b = none) (H : DInv P ops aos S ρ0 w0 df L ρ a w) {j : Nat} (hj : j ∈ Region.ready .any ops L) :
    ∃ ρ' a' w', (∀ b rest k cs, Steps P (lone (fat b a (.inRegion ops (j :: rest) :: k)) cs w) (lone (fat b a' (.inRegion ops rest :: k)) cs w')) ∧ DInv P ops aos S ρ0 w0 df (L.setIfInBounds j true) ρ' a' w' := by
  obtain ⟨hl0, o, ho, hall⟩ := mem_ready.1 hj
  have hjn : j < ops.size := (Array.getElem?_eq_some_iff.1 ho).1
  have hjL : j < L.size := by rw [H.lsz]; exact hjn
  have hlf : L.getD j false = false := by
    simp only [Array.getD_eq_getD_getElem?, Array.getElem?_eq_getElem hjL, Option.getD_some] at hl0 ⊢
    exact hl0
  obtain ⟨ao, hao, hco⟩ := X.comp j o ho
  obtain ⟨hc, hdst⟩ := compileOper_op hco
  have hrun := X.run j ao hao
  obtain ⟨v, A', hval, hA, hn, hdf, hsame, hset⟩ := runOp_inv hrun
  have hall' : ∀ e ∈ o.after.toList, Region.binds .any e = true → L.getD e.on false = true := fun e he hb => hall e (by simpa using he) hb
  have before : ∀ i, Bf i j → L.getD i false = true := X.ord (fun i => L.getD i false = true) H.closed j o ho hall'
  have notafter : ∀ i oi, ops[i]? = some oi → Bf j i → L.getD i false = true → False := by
    intro i oi hoi hb hL
    have := X.ord (fun i => L.getD i false = true) H.closed i oi hoi (fun e he hbi => H.closed i oi hoi hL e he hbi) j hb
    rw [hlf] at this; cases this
  -- slots
  have rdn : ∀ t, t ∈ namesD o ao → VR ρ ((S j).env.rd t) (a.tmps.getD t undef) := by
    intro t ht
    obtain ⟨k, hkn, h1, h2, h3⟩ := H.env t
    rcases Nat.le_total k j with hkj | hkj
    · rw [X.rd t hkj (by omega) fun i ai p q hai hd => ?_]
      · exact h3
      · obtain ⟨oi, hoi, hci⟩ := X.oper hai
        have hdi := (compileOper_op hci).2
        have := before i (X.clash i j oi o ai ao q hoi ho hai hao (.inl ⟨t, by rw [← hdi]; exact hd, ht⟩))
        rw [h2 i ai p hai hd] at this; cases this
    · rw [← X.rd t hkj hkn fun i ai p q hai hd => ?_]
      · exact h3
      · have hL := h1 i ai q hai hd
        by_cases hij : i = j
        · subst hij; rw [hlf] at hL; cases hL
        · obtain ⟨oi, hoi, hci⟩ := X.oper hai
          have hdi := (compileOper_op hci).2
          exact notafter i oi hoi (X.clash j i o oi ao ai (by omega) ho hoi hao hai (.inr (.inl ⟨t, by rw [← hdi]; exact hd, ht⟩))) hL
  have hE : ∀ x ∈ o.op.operands.toList, VR ρ (ev (S j).env x) (a.eval x) := by
    intro x hx
    have hok := compileOp_ok hc x hx
    cases x with
    | tmp t =>
      refine rdn t ?_
      unfold namesD tmpsOf
      refine List.mem_append_left _ (List.mem_append_right _ ?_)
      rw [List.mem_filterMap]
      exact ⟨_, hx, rfl⟩
    | const v => exact plainV_VR hok
    | global g => cases hok
    | func f => exact .func f _ _ _ _ .nil .nil
  have hwant : Region.wanted o (yielded ops a.tmps) = wantedA (S j).env ao.guard := by
    refine wanted_eq' hco fun t want hg => rdn t ?_
    unfold namesD
    rw [hg]
    simp
  have gs := fun i => getD_set (i := i) hjL
  have disj : ∀ i b, i < ops.size → i ≠ j → (S i).A.size ≤ b → b < (S (i + 1)).A.size → (S j).A.size ≤ b → b < (S (j + 1)).A.size → False := by
    intro i b hi hne h1 h2 h3 h4
    rcases Nat.lt_or_ge i j with q | q
    · have := X.size (i := i + 1) (j := j) (by omega) (by omega); omega
    · have := X.size (i := j + 1) (j := i) (by omega) (by omega); omega
  -- closing
  have close : ∀ ρ' vc w' m', VR ρ' v vc → Ren.le ρ ρ' → Lm aos ops.size (L.setIfInBounds j true) m' → Cum (CompOf P) (S 0).A.size (S ops.size).A.size (S 0).A.get ρ0 w0 ρ' (hd S ops.size m') w' →
      (∀ i, i < ops.size → i ≠ j → L.getD i false = false → ∀ b, (S i).A.size ≤ b → b < (S (i + 1)).A.size → ρ' b = none ∧ hd S ops.size m' b = (S (i + 1)).A.get b) →
      DInv P ops aos S ρ0 w0 df (L.setIfInBounds j true) ρ' (a.put o.dst vc) w' := by
    intro ρ' vc w' m' hv hle hm' hcum hown
    refine ⟨by simp [H.lsz], ?_, ⟨m', hm', hcum, ?_⟩, ?_, by rw [put_size]; exact H.asz, by rw [put_defers]; exact H.dfr⟩
    · intro j' o' ho' hL' e he hb
      rw [gs] at hL' ⊢
      by_cases h : j' = j
      · subst h
        rw [ho] at ho'; cases ho'
        split
        · rfl
        · exact hall' e he hb
      · rw [if_neg h] at hL'
        split
        · rfl
        · exact H.closed j' o' ho' hL' e he hb
    · intro i hi hL' b h1 h2
      rw [gs] at hL'
      split at hL'
      · cases hL'
      · rename_i hne; exact hown i hi hne hL' b h1 h2
    · intro t
      by_cases ht : o.dst = some t
      · refine ⟨j + 1, by omega, ?_, ?_, ?_⟩
        · intro i ai hi hai hd
          rw [gs]
          split
          · rfl
          · rename_i hne
            obtain ⟨oi, hoi, hci⟩ := X.oper hai
            have hdi := (compileOper_op hci).2
            exact before i (X.clash i j oi o ai ao (by omega) hoi ho hai hao (.inl ⟨t, by rw [← hdi]; exact hd, by unfold namesD; rw [ht]; simp⟩))
        · intro i ai hi hai hd
          rw [gs, if_neg (by omega)]
          cases hL : L.getD i false with
          | false => rfl
          | true =>
            obtain ⟨oi, hoi, hci⟩ := X.oper hai
            have hdi := (compileOper_op hci).2
            exact absurd hL fun hL => notafter i oi hoi (X.clash j i o oi ao ai (by omega) ho hoi hao hai (.inl ⟨t, ht, by unfold namesD; rw [← hdi, hd]; simp⟩)) hL
        · have := hset t (by rw [hdst]; exact ht)
          rw [this.2, ht]
          simp only [Act.put, Array.getD_eq_getD_getElem?, Array.getElem?_setIfInBounds]
          have hlt : t < a.tmps.size := by rw [H.asz, ← (X.nn (j := j) (by omega)).1]; exact this.1
          simp only [hlt, if_true, Option.getD_some]; exact hv
      · obtain ⟨k, hkn, h1, h2, h3⟩ := H.env t
        refine ⟨k, hkn, ?_, ?_, ?_⟩
        · intro i ai hi hai hd
          rw [gs]
          split
          · rfl
          · exact h1 i ai hi hai hd
        · intro i ai hi hai hd
          rw [gs]
          split
          · rename_i hij
            subst hij
            rw [hao] at hai; cases hai
            exact absurd (by rw [← hdst]; exact hd) ht
          · exact h2 i ai hi hai hd
        · have : (a.put o.dst vc).tmps.getD t undef = a.tmps.getD t undef := by
            cases hod : o.dst with
            | none => rfl
            | some d =>
              have : ¬ (d = t) := fun q => ht (by rw [hod, q])
              simp only [Act.put, Array.getD_eq_getD_getElem?, Array.getElem?_setIfInBounds, if_neg this]
          rw [this]; exact h3.mono hle
  -- the louds that have come to pass
  have lmj : kindA ao.op = 3 → Lm aos ops.size L j ∧ Lm aos ops.size (L.setIfInBounds j true) (j + 1) := by
    intro hk3
    have key : ∀ i ai, aos[i]? = some ai → kindA ai.op = 3 → i ≠ j → (L.getD i false = true ↔ i < j) := by
      intro i ai hai hki hne
      obtain ⟨oi, hoi, hci⟩ := X.oper hai
      rcases Nat.lt_or_ge i j with q | q
      · exact ⟨fun _ => q, fun _ => before i (X.clash i j oi o ai ao q hoi ho hai hao (.inr (.inr ⟨hki, hk3⟩)))⟩
      · exact ⟨fun hL => (notafter i oi hoi (X.clash j i o oi ao ai (by omega) ho hoi hao hai (.inr (.inr ⟨hk3, hki⟩))) hL).elim, fun h => by omega⟩
    refine ⟨⟨by omega, fun i ai hai hki => ?_⟩, ⟨by omega, fun i ai hai hki => ?_⟩⟩
    · by_cases hij : i = j
      · subst hij; rw [hlf]; simp
      · exact key i ai hai hki hij
    · rw [gs]
      by_cases hij : i = j
      · subst hij; simp
      · rw [if_neg hij, key i ai hai hki hij]; omega
  have lmo : kindA ao.op ≠ 3 → ∀ m, Lm aos ops.size L m → Lm aos ops.size (L.setIfInBounds j true) m := by
    intro hk3 m hm
    refine ⟨hm.1, fun i ai hai hki => ?_⟩
    rw [gs, if_neg (fun q => by subst q; rw [hao] at hai; cases hai; exact hk3 hki)]
    exact hm.2 i ai hai hki
  obtain ⟨m0, hm0, hcum0, hown0⟩ := H.cum
  have cumAt : ∀ m, Lm aos ops.size L m → Cum (CompOf P) (S 0).A.size (S ops.size).A.size (S 0).A.get ρ0 w0 ρ (hd S ops.size m) w ∧
      ∀ i, i < ops.size → L.getD i false = false → ∀ b, (S i).A.size ≤ b → b < (S (i + 1)).A.size → ρ b = none ∧ hd S ops.size m b = (S (i + 1)).A.get b := by
    intro m hm
    rw [← X.same hm0 hm]; exact ⟨hcum0, hown0⟩
  have s0j := X.size (i := 0) (j := j) (by omega) (by omega)
  have sj1 := X.size (i := j) (j := j + 1) (by omega) (by omega)
  have sjn := X.size (i := j + 1) (j := ops.size) (by omega) (by omega)
  have hrelAt : ∀ m, Lm aos ops.size L m → HRel (CompOf P) ρ (S m).A w.heap := by
    intro m hm
    obtain ⟨hC, _⟩ := cumAt m hm
    have hg : ∀ b x, (S m).A.get b = some x → hd S ops.size m b = some x := fun b x hx => by
      rw [hd_step hm.1, if_pos (AHeap.get_lt hx)]; exact hx
    exact ⟨fun b e x he hx => hC.blk b e x he (hg b x hx), fun b b' e e' x x' hne he he' hx hx' hp hd => hC.inj b b' e e' x x' hne he he' (hg _ _ hx) (hg _ _ hx') hp hd⟩
  rcases hval with ⟨hw, hv⟩ | ⟨hw, hvu, hA'⟩
  · by_cases hk3 : kindA ao.op = 3
    · obtain ⟨l1, l2⟩ := lmj hk3
      obtain ⟨hC, hO⟩ := cumAt j l1
      obtain ⟨ρ', vc, w', h1, h2, T⟩ := val_steps (a := a) X.hcs hc hv hE (hrelAt j l1) (fun b p q => (hO j hjn hlf b p (by rw [hA]; exact q)).1)
      rw [← hA] at T
      refine ⟨ρ', a.put o.dst vc, w', fun b rest k cs => h1 b j rest k cs ho (by rw [hwant]; exact hw), close ρ' vc w' (j + 1) h2 T.mono l2 ?_ ?_⟩
      · refine hC.step hfree T s0j sjn fun b => ?_
        by_cases hb : b < (S j).A.size
        · exact .inl ⟨hb, by rw [hd_step (by omega), if_pos hb], by rw [hd_step (by omega), if_pos (by omega)]⟩
        · by_cases hb2 : b < (S (j + 1)).A.size
          · exact .inr (.inl ⟨by omega, hb2, (hO j hjn hlf b (by omega) hb2).1, by rw [hd_step (by omega), if_pos hb2]⟩)
          · refine .inr (.inr ⟨fun q => absurd q hb, .inr (by omega), ?_⟩)
            rw [hd_step (m := j) (by omega), if_neg hb]
      · intro i hi hne hL b p q
        obtain ⟨o1, o2⟩ := hO i hi hL b p q
        have hn' : ρ' b = none := by
          apply Classical.byContradiction
          intro hx
          have := T.fresh b o1 hx
          exact disj i b hi hne p q this.1 this.2
        refine ⟨hn', ?_⟩
        rcases Nat.lt_or_ge i j with r | r
        · have hs := X.size (i := i + 1) (j := j) (by omega) (by omega)
          rw [hd_step (by omega), if_pos (by omega), T.absent b (by omega) o1, ← o2, hd_step (m := j) (by omega), if_pos (by omega)]
        · exact X.laid (by omega) hi p q
    · by_cases hk2 : kindA ao.op = 2
      · obtain ⟨x, hx, hL⟩ := kind_two hk2 hv
        have hv2 := hL ⟨(S j).A.size, .leaf⟩ rfl
        have hempty : ∀ b, AHeap.get ⟨(S j).A.size, .leaf⟩ b = none := fun b => by unfold AHeap.get; split <;> rfl
        obtain ⟨hC, hO⟩ := cumAt m0 hm0
        have hs1 : (S (j + 1)).A.size = (S j).A.size + 1 := by rw [hA, hx]; rfl
        obtain ⟨hn0, hg0⟩ := hO j hjn hlf (S j).A.size (Nat.le_refl _) (by omega)
        obtain ⟨ρ', vc, w', h1, h2, T⟩ := val_steps (a := a) X.hcs hc hv2 hE ⟨fun b e x he hx => (by rw [hempty] at hx; cases hx), fun b b' e e' x x' hne he he' hx => (by rw [hempty] at hx; cases hx)⟩ (fun b p q => by
          have : b = (S j).A.size := by simp only [AHeap.size_alloc] at p q; omega
          rw [this]; exact hn0)
        refine ⟨ρ', a.put o.dst vc, w', fun b rest k cs => h1 b j rest k cs ho (by rw [hwant]; exact hw), close ρ' vc w' m0 h2 T.mono (lmo hk3 m0 hm0) ?_ ?_⟩
        · refine hC.step hfree T s0j (by simp only [AHeap.size_alloc]; omega) fun b => ?_
          by_cases hb : b = (S j).A.size
          · refine .inr (.inl ⟨?_, ?_, ?_, ?_⟩)
            · simp only; omega
            · simp only [AHeap.size_alloc]; omega
            · rw [hb]; exact hn0
            · rw [hb, hg0, hA, hx, AHeap.get_alloc, AHeap.get_alloc, if_pos rfl, if_pos rfl]
          · exact .inr (.inr ⟨fun _ => hempty b, by simp only [AHeap.size_alloc]; omega, rfl⟩)
        · intro i hi hne hL b p q
          obtain ⟨o1, o2⟩ := hO i hi hL b p q
          refine ⟨?_, o2⟩
          apply Classical.byContradiction
          intro hx
          have := T.fresh b o1 hx
          simp only [AHeap.size_alloc] at this
          exact disj i b hi hne p q this.1 (by omega)
      · obtain ⟨hx, hq, hB⟩ := kind_quiet hk2 hk3 hv
        have hm : ∃ m, Lm aos ops.size L m ∧ qop (S j).env (S m).A ao.op = some v := by
          by_cases hk0 : kindA ao.op = 0
          · exact ⟨m0, hm0, by rw [kind_zero (A := (S j).A) hk0 (S m0).A]; exact hq⟩
          · have hk1 : kindA ao.op = 1 := by
              revert hk0 hk2 hk3
              cases ao.op <;> simp [kindA]
            have fin : ∀ l al m, aos[l]? = some al → kindA al.op = 3 → ¬ (if l < j then Bf l j else Bf j l) → m = l ∨ m = l + 1 → Lm aos ops.size L m → ∃ m, Lm aos ops.size L m ∧ qop (S j).env (S m).A ao.op = some v := by
              intro l al m hal hkl hnb hml hLm
              obtain ⟨d, hd1, hd2⟩ := X.chk j l ao al hao hal hk1 hkl hnb m hml hw
              exact ⟨m, hLm, by rw [hd2, (hset d hd1).2]⟩
            let Q : Nat → Prop := fun i => ∃ ai, aos[i]? = some ai ∧ kindA ai.op = 3
            by_cases hu : ∃ i, i < j ∧ m0 ≤ i ∧ Q i
            · obtain ⟨i, hij, hmi, hQ⟩ := hu
              obtain ⟨l, p, q, ⟨al, hal, hkl⟩, s⟩ := least_loud Q m0 i hmi hQ
              have hLl : L.getD l false = false := by
                cases hx : L.getD l false with
                | false => rfl
                | true => have := (hm0.2 l al hal hkl).1 hx; omega
              refine fin l al l hal hkl ?_ (.inl rfl) ⟨by omega, fun i' ai' hai' hki' => ?_⟩
              · rw [if_pos (by omega)]
                intro hb
                have := before l hb
                rw [hLl] at this; cases this
              · rw [hm0.2 i' ai' hai' hki']
                constructor
                · intro; omega
                · intro h
                  apply Classical.byContradiction
                  intro h2
                  exact s i' (by omega) h ⟨ai', hai', hki'⟩
            · by_cases hd : ∃ i, j < i ∧ i < m0 ∧ Q i
              · obtain ⟨i, hji, him, hQ⟩ := hd
                obtain ⟨l, p, q, ⟨al, hal, hkl⟩, s⟩ := last_loud Q i hQ m0 him
                have hLl : L.getD l false = true := (hm0.2 l al hal hkl).2 q
                have hm0n := hm0.1
                refine fin l al (l + 1) hal hkl ?_ (.inr rfl) ⟨by omega, fun i' ai' hai' hki' => ?_⟩
                · rw [if_neg (by omega)]
                  intro hb
                  obtain ⟨ol, hol, _⟩ := X.oper hal
                  exact notafter l ol hol hb hLl
                · rw [hm0.2 i' ai' hai' hki']
                  constructor
                  · intro h
                    apply Classical.byContradiction
                    intro h2
                    exact s i' (by omega) h ⟨ai', hai', hki'⟩
                  · intro; omega
              · refine ⟨j, ⟨by omega, fun i' ai' hai' hki' => ?_⟩, hq⟩
                rw [hm0.2 i' ai' hai' hki']
                have hne : i' ≠ j := fun q => by subst q; rw [hao] at hai'; cases hai'; exact hk3 hki'
                constructor
                · intro h
                  apply Classical.byContradiction
                  intro h2
                  exact hd ⟨i', by omega, h, ai', hai', hki'⟩
                · intro h
                  apply Classical.byContradiction
                  intro h2
                  exact hu ⟨i', h, by omega, ai', hai', hki'⟩
        obtain ⟨m, hLm, hqm⟩ := hm
        obtain ⟨hC, hO⟩ := cumAt m hLm
        have hsz := X.size (i := 0) (j := m) (by omega) hLm.1
        have hsz2 := X.size (i := m) (j := ops.size) hLm.1 (Nat.le_refl _)
        obtain ⟨ρ', vc, w', h1, h2, T⟩ := val_steps (a := a) X.hcs hc (hB _ hqm) hE (hrelAt m hLm) (fun b p q => by omega)
        refine ⟨ρ', a.put o.dst vc, w', fun b rest k cs => h1 b j rest k cs ho (by rw [hwant]; exact hw), close ρ' vc w' m h2 T.mono (lmo hk3 m hLm) ?_ ?_⟩
        · refine hC.step hfree T hsz hsz2 fun b => ?_
          by_cases hb : b < (S m).A.size
          · exact .inl ⟨hb, by rw [hd_step hLm.1, if_pos hb], by rw [hd_step hLm.1, if_pos hb]⟩
          · exact .inr (.inr ⟨fun q => absurd q hb, .inr (by omega), rfl⟩)
        · intro i hi hne hL b p q
          obtain ⟨o1, o2⟩ := hO i hi hL b p q
          refine ⟨?_, o2⟩
          apply Classical.byContradiction
          intro hx
          have := T.fresh b o1 hx
          omega
  · -- not wanted
    have hst : ∀ b, b < (S j).A.size → (S (j + 1)).A.get b = (S j).A.get b := fun b _ => by rw [hA, hA']
    have fin : ∀ m', Lm aos ops.size (L.setIfInBounds j true) m' → (∃ m, Lm aos ops.size L m ∧ hd S ops.size m = hd S ops.size m') → ∃ ρ' a' w', (∀ b rest k cs, Steps P (lone (fat b a (.inRegion ops (j :: rest) :: k)) cs w) (lone (fat b a' (.inRegion ops rest :: k)) cs w')) ∧ DInv P ops aos S ρ0 w0 df (L.setIfInBounds j true) ρ' a' w' := by
      intro m' hm' ⟨m, hm, heq⟩
      obtain ⟨hC, hO⟩ := cumAt m hm
      rw [heq] at hC hO
      refine ⟨ρ, a.put o.dst undef, w, fun b rest k cs => Steps.one (st_opSkip ho (by rw [hwant]; exact hw)), close ρ undef w m' ?_ (Ren.le_refl _) hm' hC fun i hi hne hL => hO i hi hL⟩
      rw [hvu]; exact .tuple _ _ .nil
    by_cases hk3 : kindA ao.op = 3
    · obtain ⟨l1, l2⟩ := lmj hk3
      exact fin (j + 1) l2 ⟨j, l1, funext fun b => X.shift hjn hst b⟩
    · exact fin m0 (lmo hk3 m0 hm0) ⟨m0, hm0, rfl⟩

theorem DInv.walk (X : DCtx P call ops aos S Bf) (hfree : ∀ b, (S 0).A.size ≤ b → b < (S ops.size).A.size → ρ0 b = none) : ∀ (fuel t : Nat) (L : Array Bool) (ρ : Ren) (a : Act) (w : World), L.toList.count false ≤ fuel → DInv P ops aos S ρ0 w0 df L ρ a w →
    ∃ ρ' a' w' L', (∀ b k cs, Steps P (lone (fat b a (.inRegion ops (Region.linearise.go .any ops fuel t L []) :: k)) cs w) (lone (fat b a' (.inRegion ops [] :: k)) cs w')) ∧ DInv P ops aos S ρ0 w0 df L' ρ' a' w' ∧ ∀ i, i < ops.size → L'.getD i false = true := by
  intro fuel
  induction fuel with
  | zero =>
    intro t L ρ a w hcnt H
    refine ⟨ρ, a, w, L, fun b k cs => Steps.refl _ _, H, fun i hi => ?_⟩
    have hlt : i < L.size := by rw [H.lsz]; exact hi
    rw [Array.getD_eq_getD_getElem?, Array.getElem?_eq_getElem hlt, Option.getD_some]
    cases hx : L[i] with
    | true => rfl
    | false =>
      have : false ∈ L.toList := by rw [← hx]; simp
      have := List.count_pos_iff.2 this
      omega
  | succ fuel ih =>
    intro t L ρ a w hcnt H
    simp only [Region.linearise.go]
    change ∃ ρ' a' w' L', (∀ b k cs, Steps P (lone (fat b a (.inRegion ops (match (Region.ready .any ops L)[t % (Region.ready .any ops L).length]? with
      | some i => Region.linearise.go .any ops fuel (t / (Region.ready .any ops L).length) (L.setIfInBounds i true) [i]
      | none => [].reverse) :: k)) cs w) _) ∧ _
    cases hi : (Region.ready .any ops L)[t % (Region.ready .any ops L).length]? with
    | none =>
      have hnil : Region.ready .any ops L = [] := by
        cases hr : Region.ready .any ops L with
        | nil => rfl
        | cons x xs =>
          rw [hr] at hi
          have hlt : t % (x :: xs).length < (x :: xs).length := Nat.mod_lt _ (by simp)
          simp at hi
          simp at hlt
          omega
      refine ⟨ρ, a, w, L, fun b k cs => Steps.refl _ _, H, fun i hi => ?_⟩
      induction i using Nat.strongRecOn with
      | _ i ihi =>
        cases hx : L.getD i false with
        | true => rfl
        | false =>
          have ho : ops[i]? = some ops[i] := Array.getElem?_eq_getElem hi
          have : i ∈ Region.ready .any ops L := by
            rw [mem_ready]
            refine ⟨?_, _, ho, fun e he hb => ?_⟩
            · have hlt : i < L.size := by rw [H.lsz]; exact hi
              simp only [Array.getD_eq_getD_getElem?, Array.getElem?_eq_getElem hlt, Option.getD_some] at hx ⊢
              exact hx
            · have := X.back i _ e ho (by simpa using he) hb
              exact ihi e.on this (by omega)
          rw [hnil] at this; cases this
    | some i =>
      have hmem := List.mem_of_getElem? hi
      obtain ⟨ρ1, a1, w1, s1, H1⟩ := H.step X hfree hmem
      have hl0 := (mem_ready.1 hmem).1
      have hlt : i < L.size := by
        rcases Nat.lt_or_ge i L.size with q | q
        · exact q
        · simp [Array.getD_eq_getD_getElem?, Array.getElem?_eq_none q] at hl0
      have hLi : L[i] = false := by
        simpa [Array.getD_eq_getD_getElem?, Array.getElem?_eq_getElem hlt] using hl0
      have hc2 : (L.setIfInBounds i true).toList.count false ≤ fuel := by
        rw [Array.toList_setIfInBounds, List.count_set (by simpa using hlt)]
        have hp : 0 < L.toList.count false := List.count_pos_iff.2 (by rw [← hLi]; simp)
        simp only [Array.getElem_toList, hLi]
        rw [if_pos (by rfl), if_neg (by decide)]; omega
      obtain ⟨ρ2, a2, w2, L2, s2, H2, hall⟩ := ih (t / (Region.ready .any ops L).length) _ ρ1 a1 w1 hc2 H1
      refine ⟨ρ2, a2, w2, L2, fun b k cs => ?_, H2, hall⟩
      simp only
      rw [linearise_go_acc, List.reverse_singleton, List.singleton_append]
      exact (s1 b _ k cs).trans (s2 b k cs)

/-- A region that draws its order comes to where its text comes to. -/
theorem regionD_steps (X : DCtx P call ops aos S Bf) (hmix : P.follows .mixedOrders = true) (fn : FuncId) {id : Nat} {ρ : Ren} {a : Act} {w : World} (hE : EnvR ρ (S 0).env a) (hn : a.tmps.size = (S 0).n) (hr : HRel (CompOf P) ρ (S 0).A w.heap)
    (hfree : ∀ n, (S 0).A.size ≤ n → n < (S ops.size).A.size → ρ n = none) :
    ∃ ρ' a' w', (∀ b : Frame, b.fn = fn → ∀ k cs, Steps P (lone (fat b a (.code (.region id ops true) :: k)) cs w) (lone (fat b a' k) cs w')) ∧
      EnvR ρ' (S ops.size).env a' ∧ a'.tmps.size = (S ops.size).n ∧ a'.defers = a.defers ∧ (S ops.size).dfs = (S 0).dfs ∧ Tr (CompOf P) ρ (S 0).A w ρ' (S ops.size).A w' := by
  have hrep : ∀ i, (Array.replicate ops.size false).getD i false = false := by
    intro i
    simp only [Array.getD_eq_getD_getElem?, Array.getElem?_replicate]
    split <;> rfl
  have hmono : ∀ i, i ≤ ops.size → (S i).A.size ≤ (S ops.size).A.size := fun i hi => X.size hi (Nat.le_refl _)
  have hg0 : ∀ b x, ρ b ≠ none → hd S ops.size 0 b = some x → (S 0).A.get b = some x := by
    intro b x hb hx
    have hlt := hd_some_lt hmono hx
    by_cases h0 : b < (S 0).A.size
    · rw [hd_step (by omega), if_pos h0] at hx; exact hx
    · exact absurd (hfree b (by omega) hlt) hb
  have H0 : DInv P ops aos S ρ w a.defers (Array.replicate ops.size false) ρ a { w with drawn := w.drawn + 1 } := by
    refine ⟨by simp, fun j o ho hL => (by rw [hrep] at hL; cases hL), ⟨0, ⟨by omega, fun i ai _ _ => by rw [hrep]; simp⟩, ?_, fun i hi _ b h1 h2 => ⟨?_, X.laid (by omega) hi h1 h2⟩⟩,
      fun t => ⟨0, by omega, fun i ai hi => by omega, fun i ai _ _ _ => hrep i, hE t⟩, hn, rfl⟩
    · refine ⟨fun b e x he hx => hr.blk b e x he (hg0 b x (by rw [he]; simp) hx), fun b b' e e' x x' hne he he' hx hx' hp hd => hr.inj b b' e e' x x' hne he he' (hg0 b x (by rw [he]; simp) hx) (hg0 b' x' (by rw [he']; simp) hx') hp hd, Ren.le_refl _,
        fun b h1 h2 => absurd h1 h2, fun b hb _ => by rw [hd_step (by omega), if_pos hb], fun b hb _ => by rw [hd_step (by omega), if_pos hb], fun b e h1 h2 => (by rw [h1] at h2; cases h2), fun _ _ _ => rfl, Nat.le_refl _, rfl, rfl, rfl⟩
    · have := X.size (i := 0) (j := i) (by omega) (by omega)
      have := X.size (i := i + 1) (j := ops.size) (by omega) (by omega)
      exact hfree b (by omega) (by omega)
  obtain ⟨ρ', a', w', L', s1, H1, hall⟩ := DInv.walk X hfree ops.size (w.tape w.drawn (.order fn id)) _ ρ a _ (by simp) H0
  have hLm : Lm aos ops.size L' ops.size := ⟨Nat.le_refl _, fun i ai hai _ => by have := X.lt hai; rw [hall i this]; simp [this]⟩
  obtain ⟨m, hm, hC, _⟩ := H1.cum
  rw [X.same hm hLm] at hC
  have hlast : hd S ops.size ops.size = (S ops.size).A.get := funext fun b => hd_last
  rw [hlast] at hC
  refine ⟨ρ', a', w', fun b hb k cs => ?_, fun t => ?_, by rw [(X.nn (Nat.le_refl _)).1]; exact H1.asz, H1.dfr, (X.nn (Nat.le_refl _)).2, ?_⟩
  · have h1 := s1 b k cs
    have h2 := (Steps.head (st_regionDraw (P := P) (b := b) (a := a) (k := k) (cs := cs) (w := w) (ops := ops) (id := id)) (by
      rw [hb]
      simp only [Region.schedule, hmix, Bool.true_or, if_true, Region.linearise]
      exact h1))
    exact h2.trans (Steps.one st_regionEnd)
  · obtain ⟨k, hk, h1, h2, h3⟩ := H1.env t
    rw [X.rd t hk (Nat.le_refl _) fun i ai p q hai hd => by
      have := h2 i ai p hai hd
      rw [hall i q] at this; cases this]
    exact h3
  · exact ⟨⟨hC.blk, hC.inj⟩, hC.mono, hfree, hC.fresh, X.size (by omega) (Nat.le_refl _), hC.absent, hC.still, hC.newcb, hC.frame, hC.hsize, hC.os, hC.tape, hC.output⟩

theorem mapM_get {α β : Type} (f : α → Option β) : ∀ (l : List α) (r : List β), l.mapM f = some r → r.length = l.length ∧ ∀ (j : Nat) o, l[j]? = some o → ∃ b, r[j]? = some b ∧ f o = some b := by
  intro l
  induction l with
  | nil => intro r h; cases h; exact ⟨rfl, fun j o h => by simp at h⟩
  | cons x l ih =>
    intro r h
    simp only [List.mapM_cons, Option.bind_eq_bind, Option.pure_def] at h
    cases h1 : f x with
    | none => rw [h1] at h; cases h
    | some y =>
      rw [h1] at h; simp only [Option.bind_some] at h
      cases h2 : l.mapM f with
      | none => rw [h2] at h; cases h
      | some r2 =>
        rw [h2] at h; cases h
        obtain ⟨k1, k2⟩ := ih r2 h2
        refine ⟨by simp [k1], fun j o ho => ?_⟩
        cases j with
        | zero => simp at ho; subst ho; exact ⟨y, rfl, h1⟩
        | succ j => exact k2 j o (by simpa using ho)

theorem DCtx.of {chk : List (Nat × Nat)} {st : St} {tr : List St} (hcs : CallSound P call) (h1 : compileOps P ops = some aos) (hcert : certD ops.toList aos = some chk) (htr : runTrace call aos st = some tr) (hchk : chk.all (chkOk aos tr) = true) :
    ∃ S, DCtx P call ops aos S (fun i j => ordD (masksD ops.toList []) i j = true) ∧ S 0 = st ∧ tr.getLast? = some (S ops.size) := by
  obtain ⟨hlen, hget⟩ := mapM_get _ _ _ h1
  obtain ⟨S, k1, k2, k3, k4⟩ := runTrace_spec _ _ _ htr
  have hlen' : aos.length = ops.size := by simpa using hlen
  unfold certD at hcert
  simp only at hcert
  split at hcert
  · rename_i hc
    simp only [Bool.and_eq_true, List.all_eq_true] at hc
    obtain ⟨hback, hpair⟩ := hc
    cases hcert
    refine ⟨S, ⟨hcs, hlen', fun j o ho => hget j o (by simpa using ho), k3, ?_, ?_, ?_, ?_⟩, k2, by rw [k4, hlen']⟩
    · intro i j oi oj ai aj hij hoi hoj hai haj hcl
      have hj : j < ops.toList.length := by simpa using (Array.getElem?_eq_some_iff.1 hoj).1
      have hp := hpair j (by simpa using hj) i (by simpa using hij)
      unfold pairD at hp
      have e1 : ops.toList[i]? = some oi := by simpa using hoi
      have e2 : ops.toList[j]? = some oj := by simpa using hoj
      rw [e1, e2, hai, haj] at hp
      simp only [Bool.or_eq_true, Bool.not_eq_true'] at hp
      rcases hp with hp | hp
      · exfalso
        simp only [Bool.or_eq_false_iff] at hp
        obtain ⟨⟨p1, p2⟩, p3⟩ := hp
        rcases hcl with ⟨d, q1, q2⟩ | ⟨d, q1, q2⟩ | ⟨q1, q2⟩
        · rw [q1] at p1; simp at p1; exact p1 q2
        · rw [q1] at p2; simp at p2; exact p2 q2
        · rw [q1, q2] at p3; simp at p3
      · exact hp
    · intro j o e ho he hb
      unfold backD at hback
      rw [List.all_eq_true] at hback
      have e1 : ops.toList[j]? = some o := by simpa using ho
      have hm : (o, j) ∈ ops.toList.zipIdx := by
        rw [List.mem_zipIdx_iff_getElem?]; exact e1
      have := hback _ hm
      rw [List.all_eq_true] at this
      have := this e he
      simpa [hb] using this
    · intro D hcl j o ho hr i hi
      exact ordD_sound D (fun j o ho => hcl j o (by simpa using ho)) j o (by simpa using ho) hr i hi
    · intro j l aj al haj hal hkj hkl hnb m hm hw
      have hj : j < aos.length := (List.getElem?_eq_some_iff.1 haj).1
      have hl : l < aos.length := (List.getElem?_eq_some_iff.1 hal).1
      have hmem : (j, m) ∈ chksD (masksD ops.toList []) aos := by
        unfold chksD
        rw [List.mem_flatMap]
        refine ⟨j, by simpa using hj, ?_⟩
        rw [haj]
        simp only [hkj, beq_self_eq_true, if_true]
        rw [List.mem_flatMap]
        refine ⟨l, by simpa using hl, ?_⟩
        rw [hal]
        have : (if l < j then ordD (masksD ops.toList []) l j else ordD (masksD ops.toList []) j l) = false := by
          by_cases hlj : l < j
          · rw [if_pos hlj] at hnb ⊢; simpa using hnb
          · rw [if_neg hlj] at hnb ⊢; simpa using hnb
        simp only [hkl, beq_self_eq_true, this, Bool.not_false, Bool.and_self, if_true]
        rcases hm with h | h <;> simp [h]
      have := (List.all_eq_true.1 hchk) _ hmem
      unfold chkOk at this
      simp only at this
      rw [haj, k1 j (by omega), k1 (j + 1) (by omega), k1 m (by omega)] at this
      simp only [hw, if_true] at this
      split at this
      · rename_i d v hd hv
        exact ⟨d, hd, by rw [hv, vbeq_eq _ _ _ this]⟩
      · cases this
  · cases hcert

end
end Go.AS
