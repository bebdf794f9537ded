import Derived.Test.YtidgbapgedegbaaAsW
namespace Go.AS
open Go
set_option linter.unusedSimpArgs false
set_option linter.unusedVariables false

section
variable {P : Program} {call : CallT} {ops : Array Oper} {aos : List AOper} {S : Nat → St}

/-- The memory when the operations ahead of the m-th have come to pass, with what later ones will lay. -/
def hd (S : Nat → St) (n m b : Nat) : Option ABlk :=
  ((List.range' m (n + 1 - m)).find? fun i => decide (b < (S i).A.size)).bind fun i => (S i).A.get b

theorem hd_step {n m b : Nat} (hm : m ≤ n) : hd S n m b = if b < (S m).A.size then (S m).A.get b else hd S n (m + 1) b := by
  unfold hd
  rw [show n + 1 - m = (n - m) + 1 by omega, List.range'_succ, List.find?_cons]
  by_cases h : b < (S m).A.size
  · simp [h]
  · simp [h, show n + 1 - (m + 1) = n - m by omega]

theorem get_ge {A : AHeap} {b : Nat} (h : A.size ≤ b) : A.get b = none := by
  unfold AHeap.get; rw [if_neg (by omega)]

theorem hd_last {n b : Nat} : hd S n n b = (S n).A.get b := by
  rw [hd_step (Nat.le_refl _)]
  split
  · rfl
  · unfold hd; rw [show n + 1 - (n + 1) = 0 by omega]; simp
    exact (get_ge (by omega)).symm

theorem hd_some_lt {n m b : Nat} {x : ABlk} (hmono : ∀ i, i ≤ n → (S i).A.size ≤ (S n).A.size) (h : hd S n m b = some x) : b < (S n).A.size := by
  unfold hd at h
  rw [Option.bind_eq_some_iff] at h
  obtain ⟨i, h1, h2⟩ := h
  have h3 := List.mem_of_find?_eq_some h1
  have h4 := hmono i (by rw [List.mem_range'_1] at h3; omega)
  have := AHeap.get_lt h2
  omega

/-- What is known of the region. -/
structure DCtx (P : Program) (call : CallT) (ops : Array Oper) (aos : List AOper) (S : Nat → St) (Bf : Nat → Nat → Prop) : Prop where
  hcs : CallSound P call
  len : aos.length = ops.size
  comp : ∀ (j : Nat) o, ops[j]? = some o → ∃ ao, aos[j]? = some ao ∧ compileOper P ops o = some ao
  run : ∀ (j : Nat) ao, aos[j]? = some ao → runOp call ao (S j) = some (S (j + 1))
  clash : ∀ (i j : Nat) oi oj ai aj, i < j → ops[i]? = some oi → ops[j]? = some oj → aos[i]? = some ai → aos[j]? = some aj →
    ((∃ d, oi.dst = some d ∧ d ∈ namesD oj aj) ∨ (∃ d, oj.dst = some d ∧ d ∈ namesD oi ai) ∨ (kindA ai.op = 3 ∧ kindA aj.op = 3)) → Bf i j
  back : ∀ (j : Nat) o e, ops[j]? = some o → e ∈ o.after.toList → Region.binds .any e = true → e.on < j
  ord : ∀ (D : Nat → Prop), (∀ (j : Nat) o, ops[j]? = some o → D j → ∀ e ∈ o.after.toList, Region.binds .any e = true → D e.on) →
    ∀ (j : Nat) o, ops[j]? = some o → (∀ e ∈ o.after.toList, Region.binds .any e = true → D e.on) → ∀ i, Bf i j → D i
  chk : ∀ (j l : Nat) aj al, aos[j]? = some aj → aos[l]? = some al → kindA aj.op = 1 → kindA al.op = 3 → ¬ (if l < j then Bf l j else Bf j l) → ∀ m, m = l ∨ m = l + 1 → wantedA (S j).env aj.guard = true →
    ∃ d, aj.dst = some d ∧ qop (S j).env (S m).A aj.op = some ((S (j + 1)).env.rd d)

variable {Bf : Nat → Nat → Prop}

theorem DCtx.oper (X : DCtx P call ops aos S Bf) {j : Nat} {ao : AOper} (h : aos[j]? = some ao) : ∃ o, ops[j]? = some o ∧ compileOper P ops o = some ao := by
  have hlt : j < aos.length := by
    rcases Nat.lt_or_ge j aos.length with q | q
    · exact q
    · rw [List.getElem?_eq_none q] at h; cases h
  have hlt2 : j < ops.size := by rw [← X.len]; exact hlt
  have ho : ops[j]? = some ops[j] := Array.getElem?_eq_getElem hlt2
  obtain ⟨ao', h1, h2⟩ := X.comp j _ ho
  rw [h] at h1; cases h1
  exact ⟨_, ho, h2⟩

theorem DCtx.at (X : DCtx P call ops aos S Bf) {j : Nat} (h : j < ops.size) : ∃ ao, aos[j]? = some ao := ⟨_, List.getElem?_eq_getElem (by rw [X.len]; exact h)⟩

theorem DCtx.lt (X : DCtx P call ops aos S Bf) {j : Nat} {ao : AOper} (h : aos[j]? = some ao) : j < ops.size := by
  rw [← X.len]
  rcases Nat.lt_or_ge j aos.length with q | q
  · exact q
  · rw [List.getElem?_eq_none q] at h; cases h

theorem DCtx.size (X : DCtx P call ops aos S Bf) : ∀ {i j : Nat}, i ≤ j → j ≤ ops.size → (S i).A.size ≤ (S j).A.size := by
  intro i j hij hj
  induction j with
  | zero => have : i = 0 := by omega
            subst this; exact Nat.le_refl _
  | succ j ih =>
    rcases Nat.lt_or_ge i (j + 1) with q | q
    · obtain ⟨ao, hao⟩ := X.at (j := j) (by omega)
      exact Nat.le_trans (ih (by omega) (by omega)) (runOp_size X.hcs (X.run j ao hao))
    · have : i = j + 1 := by omega
      subst this; exact Nat.le_refl _

/-- What does not call nor write lets the memory stand. -/
theorem quiet_still {ao : AOper} {s s' : St} (h : runOp call ao s = some s') (hk : kindA ao.op ≠ 3) : ∀ b, b < s.A.size → s'.A.get b = s.A.get b := by
  intro b hb
  obtain ⟨v, A', hv, hA, _⟩ := runOp_inv h
  rw [hA]
  rcases hv with ⟨_, hv⟩ | ⟨_, _, hA'⟩
  · by_cases h2 : kindA ao.op = 2
    · obtain ⟨x, hx, _⟩ := kind_two h2 hv
      rw [hx, AHeap.get_alloc, if_neg (by omega)]
    · obtain ⟨hx, _⟩ := kind_quiet h2 hk hv
      rw [hx]
  · rw [hA']

theorem DCtx.shift (X : DCtx P call ops aos S Bf) {m : Nat} (hm : m < ops.size) (hs : ∀ b, b < (S m).A.size → (S (m + 1)).A.get b = (S m).A.get b) (b : Nat) : hd S ops.size m b = hd S ops.size (m + 1) b := by
  rw [hd_step (by omega)]
  split
  · rename_i hb
    have := X.size (i := m) (j := m + 1) (by omega) (by omega)
    rw [hd_step (by omega), if_pos (by omega), hs b hb]
  · rfl

theorem DCtx.compat (X : DCtx P call ops aos S Bf) {m : Nat} (b : Nat) : ∀ m', m ≤ m' → m' ≤ ops.size → (∀ (i : Nat) ai, m ≤ i → i < m' → aos[i]? = some ai → kindA ai.op ≠ 3) → hd S ops.size m b = hd S ops.size m' b := by
  intro m' h1
  induction h1 with
  | refl => intro _ _; rfl
  | @step k hk ih =>
    have hk : m ≤ k := hk
    intro h2 h3
    rw [ih (by omega) (fun i ai p q => h3 i ai p (by omega))]
    obtain ⟨ao, hao⟩ := X.at (j := k) (by omega)
    exact X.shift (by omega) (quiet_still (X.run k ao hao) (h3 k ao hk (by omega) hao)) b

theorem DCtx.later (X : DCtx P call ops aos S Bf) {m : Nat} {b : Nat} : ∀ i, m ≤ i → i ≤ ops.size → (S i).A.size ≤ b → hd S ops.size m b = hd S ops.size i b := by
  intro i h1
  induction h1 with
  | refl => intro _ _; rfl
  | @step k hk ih =>
    have hk : m ≤ k := hk
    intro h2 (h3 : (S (k + 1)).A.size ≤ b)
    have := X.size (i := k) (j := k + 1) (by omega) h2
    rw [ih (by omega) (by omega), hd_step (by omega), if_neg (by omega)]

/-- What an operation laid, before it is written to. -/
theorem DCtx.laid (X : DCtx P call ops aos S Bf) {m i b : Nat} (hm : m ≤ i) (hi : i < ops.size) (h1 : (S i).A.size ≤ b) (h2 : b < (S (i + 1)).A.size) : hd S ops.size m b = (S (i + 1)).A.get b := by
  rw [X.later i hm (by omega) h1, hd_step (by omega), if_neg (by omega), hd_step (by omega), if_pos h2]

def Lm (aos : List AOper) (n : Nat) (L : Array Bool) (m : Nat) : Prop := m ≤ n ∧ ∀ (i : Nat) ai, aos[i]? = some ai → kindA ai.op = 3 → (L.getD i false = true ↔ i < m)

theorem DCtx.same (X : DCtx P call ops aos S Bf) {L : Array Bool} {m m' : Nat} (h : Lm aos ops.size L m) (h' : Lm aos ops.size L m') : hd S ops.size m = hd S ops.size m' := by
  funext b
  rcases Nat.le_total m m' with q | q
  · refine X.compat b m' q h'.1 fun i ai p r ha hk => ?_
    have h1 := h.2 i ai ha hk; have h2 := h'.2 i ai ha hk
    rw [h1] at h2; omega
  · refine (X.compat b m q h.1 fun i ai p r ha hk => ?_).symm
    have h1 := h.2 i ai ha hk; have h2 := h'.2 i ai ha hk
    rw [h1] at h2; omega

structure DInv (P : Program) (ops : Array Oper) (aos : List AOper) (S : Nat → St) (ρ0 : Ren) (w0 : World) (df : List Deferred) (L : Array Bool) (ρ : Ren) (a : Act) (w : World) : Prop where
  lsz : L.size = ops.size
  closed : ∀ (j : Nat) o, ops[j]? = some o → L.getD j false = true → ∀ e ∈ o.after.toList, Region.binds .any e = true → L.getD e.on false = true
  cum : ∃ m, Lm aos ops.size L m ∧ Cum (CompOf P) (S 0).A.size (S ops.size).A.size (S 0).A.get ρ0 w0 ρ (hd S ops.size m) w ∧
    ∀ i, i < ops.size → L.getD i false = false → ∀ b, (S i).A.size ≤ b → b < (S (i + 1)).A.size → ρ b = none ∧ hd S ops.size m b = (S (i + 1)).A.get b
  env : ∀ t, ∃ k, k ≤ ops.size ∧ (∀ (i : Nat) ai, i < k → aos[i]? = some ai → ai.dst = some t → L.getD i false = true) ∧ (∀ (i : Nat) ai, k ≤ i → aos[i]? = some ai → ai.dst = some t → L.getD i false = false) ∧ VR ρ ((S k).env.rd t) (a.tmps.getD t undef)
  asz : a.tmps.size = (S 0).n
  dfr : a.defers = df

theorem DCtx.rd (X : DCtx P call ops aos S Bf) (t : Nat) : ∀ {k j : Nat}, k ≤ j → j ≤ ops.size → (∀ (i : Nat) ai, k ≤ i → i < j → aos[i]? = some ai → ai.dst ≠ some t) → (S j).env.rd t = (S k).env.rd t := by
  intro k j h1
  induction h1 with
  | refl => intro _ _; rfl
  | @step j hk ih =>
    have hk : k ≤ j := hk
    intro h2 h3
    obtain ⟨ao, hao⟩ := X.at (j := j) (by omega)
    obtain ⟨v, A', _, _, _, _, h4, _⟩ := runOp_inv (X.run j ao hao)
    rw [h4 t (h3 j ao hk (by omega) hao), ih (by omega) (fun i ai p q => h3 i ai p (by omega))]

theorem DCtx.nn (X : DCtx P call ops aos S Bf) : ∀ {j : Nat}, j ≤ ops.size → (S j).n = (S 0).n ∧ (S j).dfs = (S 0).dfs := by
  intro j
  induction j with
  | zero => intro _; exact ⟨rfl, rfl⟩
  | succ j ih =>
    intro h
    obtain ⟨ao, hao⟩ := X.at (j := j) (by omega)
    obtain ⟨v, A', _, _, h1, h2, _⟩ := runOp_inv (X.run j ao hao)
    rw [h1, h2]; exact ih (by omega)

theorem getD_set {L : Array Bool} {j i : Nat} (hj : j < L.size) : (L.setIfInBounds j true).getD i false = if i = j then true else L.getD i false := by
  simp only [Array.getD_eq_getD_getElem?, Array.getElem?_setIfInBounds]
  by_cases h : i = j
  · subst h; simp [hj]
  · rw [if_neg h, if_neg (fun q => h q.symm)]

theorem wanted_eq' {ρ : Ren} {e : Env} {a : Act} {o : Oper} {ao : AOper} (hc : compileOper P ops o = some ao) (h : ∀ t want, ao.guard = some (t, want) → VR ρ (e.rd t) (a.tmps.getD t undef)) : Region.wanted o (yielded ops a.tmps) = wantedA e ao.guard := by
  unfold compileOper at hc
  split at hc
  · cases hc
  · split at hc
    · rename_i hg
      cases hc
      simp [Region.wanted, hg, wantedA]
    · rename_i j want hg
      split at hc
      · rename_i d hd
        cases hc
        simp only [Region.wanted, hg, wantedA, yielded, hd, Option.bind_some]
        have hv := h d want rfl
        rw [Array.getD_eq_getD_getElem?] at hv
        cases ht : a.tmps[d]? with
        | none =>
          rw [ht] at hv
          simp only [Option.getD_none, undef] at hv
          generalize hX : e.rd d = X at hv
          cases hv
          rfl
        | some x =>
          rw [ht] at hv
          simp only [Option.getD_some] at hv
          generalize hX : e.rd d = X at hv
          cases hv <;> first | rfl | simp
      · cases hc

end
end Go.AS
