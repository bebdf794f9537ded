import Derived.Test.YtidgbapgedegbaaAsV
namespace Go.AS
open Go
set_option linter.unusedSimpArgs false
set_option linter.unusedVariables false

/-! ## Regions that draw their order: the orders -/

section
variable {call : CallT} {e : Env} {A A' : AHeap} {op : AOp} {v : Value}

theorem kind_quiet (hk : kindA op ≠ 2) (hk3 : kindA op ≠ 3) (h : opVal call e A op = some (v, A')) : A' = A ∧ qop e A op = some v ∧ ∀ B, qop e B op = some v → opVal call e B op = some (v, B) := by
  cases op
  all_goals first
    | (exact absurd rfl hk)
    | (exact absurd rfl hk3)
    | (simp only [opVal, lop, Option.map_eq_some_iff, Prod.mk.injEq] at h
       obtain ⟨u, h1, h2, h3⟩ := h
       subst h2; subst h3
       refine ⟨rfl, h1, fun B hB => ?_⟩
       simp only [opVal, lop, hB, Option.map_some])

theorem kind_zero (hk : kindA op = 0) (B : AHeap) : qop e B op = qop e A op := by
  cases op
  all_goals first
    | rfl
    | (cases hk; done)
    | (rename_i xs; cases xs <;> rfl)

theorem kind_two (hk : kindA op = 2) (h : opVal call e A op = some (v, A')) : ∃ x, A' = A.alloc x ∧ ∀ L : AHeap, L.size = A.size → opVal call e L op = some (v, L.alloc x) := by
  cases op
  all_goals first
    | (cases hk; done)
    | skip
  all_goals simp only [opVal, lop] at h ⊢
  all_goals first
    | (cases h
       exact ⟨_, rfl, fun L hL => by rw [hL]⟩)
    | (split at h
       · rename_i hc
         cases h
         exact ⟨_, rfl, fun L hL => by rw [if_pos hc, hL]⟩
       · cases h)
    | (simp only [Option.map_eq_some_iff, Prod.mk.injEq] at h ⊢
       obtain ⟨u, h1, h2, h3⟩ := h
       subst h2; subst h3
       exact ⟨_, rfl, fun L hL => ⟨u, h1, by rw [hL], rfl⟩⟩)
    | (split at h
       · split at h
         · rename_i hcond
           cases h
           exact ⟨_, rfl, fun L hL => by rw [if_pos hcond, hL]⟩
         · cases h
       · cases h)
    | (split at h
       · cases h
         exact ⟨_, rfl, fun L hL => by rw [hL]⟩
       · cases h)

end

mutual
theorem vbeq_eq : ∀ (n : Nat) (a b : Value), vbeq n a b = true → a = b := by
  intro n a b h
  unfold vbeq at h
  split at h
  all_goals first
    | (cases h; done)
    | skip
  all_goals (try simp only [Bool.and_eq_true, decide_eq_true_eq, beq_iff_eq] at h)
  · rw [h]
  · rw [h.1, h.2]
  · rename_i x y
    obtain ⟨⟨x⟩⟩ := x; obtain ⟨⟨y⟩⟩ := y
    simp only at h; rw [h]
  · rfl
  · rw [h]
  · rw [h.1.1, h.1.2, h.2]
  · rw [h]
  · rfl
  · rfl
  · rw [h.1, vbeq_eq _ _ _ h.2]
  · rw [h.1.1, vbeqs_eq _ _ _ h.1.2, vbeqs_eq _ _ _ h.2]
  · rw [vbeqs_eq _ _ _ h]
  · rw [vbeqs_eq _ _ _ h]
theorem vbeqs_eq : ∀ (n : Nat) (a b : List Value), vbeq.vbeqs n a b = true → a = b := by
  intro n a
  induction a with
  | nil => intro b h; cases b with
    | nil => rfl
    | cons y b => simp [vbeq.vbeqs] at h
  | cons x a ih => intro b h; cases b with
    | nil => simp [vbeq.vbeqs] at h
    | cons y b =>
      simp only [vbeq.vbeqs, Bool.and_eq_true] at h
      rw [vbeq_eq n _ _ h.1, ih b h.2]
end

theorem runOp_inv {call : CallT} {o : AOper} {s s' : St} (h : runOp call o s = some s') : ∃ v A', ((wantedA s.env o.guard = true ∧ opVal call s.env s.A o.op = some (v, A')) ∨ (wantedA s.env o.guard = false ∧ v = undef ∧ A' = s.A)) ∧
    s'.A = A' ∧ s'.n = s.n ∧ s'.dfs = s.dfs ∧ (∀ t, o.dst ≠ some t → s'.env.rd t = s.env.rd t) ∧ (∀ d, o.dst = some d → d < s.n ∧ s'.env.rd d = v) := by
  have put : ∀ {v : Value} {A' : AHeap}, putE s o.dst v A' = some s' → s'.A = A' ∧ s'.n = s.n ∧ s'.dfs = s.dfs ∧ (∀ t, o.dst ≠ some t → s'.env.rd t = s.env.rd t) ∧ (∀ d, o.dst = some d → d < s.n ∧ s'.env.rd d = v) := by
    intro v A' hp
    unfold putE at hp
    split at hp
    · rename_i hd
      cases hp
      exact ⟨rfl, rfl, rfl, fun t _ => rfl, fun d hd' => by rw [hd] at hd'; cases hd'⟩
    · rename_i d hd
      split at hp
      · rename_i hlt
        cases hp
        refine ⟨rfl, rfl, rfl, fun t ht => ?_, fun d' hd' => ?_⟩
        · show Env.rd (Trie.set s.env d v) t = _
          unfold Env.rd
          rw [Trie.get_set, if_neg (fun q => ht (by rw [hd, q]))]
        · rw [hd] at hd'; cases hd'
          refine ⟨hlt, ?_⟩
          show Env.rd (Trie.set s.env d v) d = _
          unfold Env.rd
          rw [Trie.get_set, if_pos rfl]; rfl
      · cases hp
  unfold runOp at h
  split at h
  · rename_i hw
    split at h
    · rename_i v A' hv
      exact ⟨v, A', .inl ⟨hw, hv⟩, put h⟩
    · cases h
  · rename_i hw
    exact ⟨undef, s.A, .inr ⟨by simpa using hw, rfl, rfl⟩, put h⟩

theorem runTrace_spec {call : CallT} : ∀ (as : List AOper) (st : St) (tr : List St), runTrace call as st = some tr →
    ∃ S : Nat → St, (∀ i, i ≤ as.length → tr[i]? = some (S i)) ∧ S 0 = st ∧ (∀ i o, as[i]? = some o → runOp call o (S i) = some (S (i + 1))) ∧ tr.getLast? = some (S as.length) := by
  intro as
  induction as with
  | nil =>
    intro st tr h
    cases h
    exact ⟨fun _ => st, fun i hi => by have : i = 0 := by simpa using hi
                                       subst this; rfl, rfl, fun i o h => by simp at h, rfl⟩
  | cons o as ih =>
    intro st tr h
    simp only [runTrace] at h
    split at h
    · rename_i st1 h1
      split at h
      · rename_i l h2
        cases h
        obtain ⟨S, k1, k2, k3, k4⟩ := ih st1 l h2
        refine ⟨fun i => match i with | 0 => st | i + 1 => S i, fun i hi => ?_, rfl, fun i o' ho => ?_, ?_⟩
        · cases i with
          | zero => rfl
          | succ i => simpa using k1 i (by simpa using hi)
        · cases i with
          | zero => simp at ho; subst ho; rw [← k2] at h1; simpa using h1
          | succ i => exact k3 i o' (by simpa using ho)
        · rw [List.getLast?_cons, k4]; rfl
      · cases h
    · cases h

/-! ### Which operation comes before which -/
theorem masksD_spec : ∀ (os : List Oper) (acc : List Nat), (masksD os acc).take acc.length = acc ∧ (masksD os acc).length = acc.length + os.length ∧
    ∀ j o, os[j]? = some o → (masksD os acc).getD (acc.length + j) 0 = maskD ((masksD os acc).take (acc.length + j)) o := by
  intro os
  induction os with
  | nil => intro acc; simp [masksD]
  | cons o os ih =>
    intro acc
    obtain ⟨h1, h2, h3⟩ := ih (acc ++ [maskD acc o])
    simp only [masksD]
    simp only [List.length_append, List.length_cons, List.length_nil] at h1 h2 h3
    have hpre : (masksD os (acc ++ [maskD acc o])).take acc.length = acc := by
      have := congrArg (List.take acc.length) h1
      rw [List.take_take] at this
      rw [show min acc.length (acc.length + (0 + 1)) = acc.length by omega] at this
      rw [this]; simp
    refine ⟨hpre, by rw [h2]; simp; omega, fun j o' ho => ?_⟩
    cases j with
    | zero =>
      simp at ho; subst ho
      rw [Nat.add_zero, hpre]
      have := congrArg (fun l => l[acc.length]?) h1
      simp only [List.getElem?_take_of_lt (show acc.length < acc.length + (0 + 1) by omega)] at this
      rw [List.getD_eq_getElem?_getD, this]; simp
    | succ j =>
      have := h3 j o' (by simpa using ho)
      rw [show acc.length + (0 + 1) + j = acc.length + (j + 1) by omega] at this
      exact this

theorem maskD_bit (acc : List Nat) (o : Oper) (i : Nat) (h : (maskD acc o).testBit i = true) : ∃ e ∈ o.after.toList, Region.binds .any e = true ∧ (e.on = i ∨ (acc.getD e.on 0).testBit i = true) := by
  unfold maskD at h
  have key : ∀ (l : List Edge) (s : Nat), (l.foldl (fun s e => if Region.binds .any e then s ||| 2 ^ e.on ||| acc.getD e.on 0 else s) s).testBit i = true →
      s.testBit i = true ∨ ∃ e ∈ l, Region.binds .any e = true ∧ (e.on = i ∨ (acc.getD e.on 0).testBit i = true) := by
    intro l
    induction l with
    | nil => intro s h; exact .inl h
    | cons e l ih =>
      intro s h
      rw [List.foldl_cons] at h
      rcases ih _ h with h1 | ⟨e', h1, h2⟩
      · split at h1
        · rename_i hb
          rw [Nat.testBit_or, Nat.testBit_or, Bool.or_eq_true, Bool.or_eq_true, Nat.testBit_two_pow] at h1
          rcases h1 with (h1 | h1) | h1
          · exact .inl h1
          · exact .inr ⟨e, List.mem_cons_self, hb, .inl (by simpa using h1)⟩
          · exact .inr ⟨e, List.mem_cons_self, hb, .inr h1⟩
        · exact .inl h1
      · exact .inr ⟨e', List.mem_cons_of_mem _ h1, h2⟩
  rcases key _ 0 h with h | h
  · simp at h
  · exact h

theorem ordD_sound {os : List Oper} (D : Nat → Prop) (hcl : ∀ j o, os[j]? = some o → D j → ∀ e ∈ o.after.toList, Region.binds .any e = true → D e.on) :
    ∀ (j : Nat) (o : Oper), os[j]? = some o → (∀ e ∈ o.after.toList, Region.binds .any e = true → D e.on) → ∀ i, ordD (masksD os []) i j = true → D i := by
  obtain ⟨_, hlen, hm⟩ := masksD_spec os []
  simp only [List.length_nil, Nat.zero_add] at hlen hm
  intro j
  induction j using Nat.strongRecOn with
  | _ j ih =>
    intro o ho hr i hi
    unfold ordD at hi
    rw [hm j o ho] at hi
    obtain ⟨e, he, hb, h1⟩ := maskD_bit _ _ _ hi
    rcases h1 with h1 | h1
    · rw [← h1]; exact hr e he hb
    · have hjl : j < os.length := by
        rcases Nat.lt_or_ge j os.length with q | q
        · exact q
        · rw [List.getElem?_eq_none q] at ho; cases ho
      by_cases hlt : e.on < j
      · have h2 : ordD (masksD os []) i e.on = true := by
          unfold ordD
          rw [List.getD_eq_getElem?_getD, List.getElem?_take_of_lt hlt, ← List.getD_eq_getElem?_getD] at h1
          exact h1
        have ho2 : os[e.on]? = some os[e.on] := List.getElem?_eq_getElem (by omega)
        exact ih e.on hlt _ ho2 (hcl _ _ ho2 (hr e he hb)) i h2
      · rw [List.getD_eq_getElem?_getD, List.getElem?_eq_none (by simp; omega)] at h1
        simp at h1

end Go.AS
