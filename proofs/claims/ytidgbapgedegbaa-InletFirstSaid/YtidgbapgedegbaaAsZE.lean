import Derived.Test.YtidgbapgedegbaaAsZD
namespace Go.AS
open Go
set_option linter.unusedSimpArgs false
set_option linter.unusedVariables false

/-! ## Regions that draw their order, with checks -/
section
variable {T : FTab} {fn : FuncId} {ctx : Option Nat}

def wD (T : FTab) (all : List AOper) (chk : List (Nat × Nat)) (l : List AOper) (tr : List St) (st : St) (Q : St → Prop) : Prop :=
  ∃ n tr2, runTrace (callN T n) l st = some tr2 ∧ chk.all (chkOk all (tr ++ tr2)) = true ∧ ∃ s, tr2.getLast? = some s ∧ Q s

theorem wD_nil {all : List AOper} {chk : List (Nat × Nat)} {tr : List St} {st : St} {Q : St → Prop} : wD T all chk [] tr st Q ↔ chk.all (chkOk all (tr ++ [st])) = true ∧ Q st := by
  constructor
  · rintro ⟨n, tr2, h1, h2, s, h3, h4⟩
    cases h1; cases h3
    exact ⟨h2, h4⟩
  · rintro ⟨h1, h2⟩
    exact ⟨0, [st], rfl, h1, st, rfl, h2⟩

theorem runTrace_ne {call : CallT} {l : List AOper} {st : St} {tr : List St} (h : runTrace call l st = some tr) : ∃ s, tr.getLast? = some s ∧ ∀ x, (x :: tr).getLast? = some s := by
  cases l with
  | nil => cases h; exact ⟨st, rfl, fun _ => rfl⟩
  | cons o l =>
    simp only [runTrace] at h
    split at h
    · split at h
      · rename_i l2 _
        cases h
        cases hl : l2.getLast? with
        | none =>
          have : l2 = [] := by simpa using hl
          subst this
          exact ⟨st, rfl, fun _ => rfl⟩
        | some s => exact ⟨s, by rw [List.getLast?_cons, hl]; rfl, fun _ => by rw [List.getLast?_cons, List.getLast?_cons, hl]; rfl⟩
      · cases h
    · cases h

theorem wD_cons {all : List AOper} {chk : List (Nat × Nat)} {o : AOper} {r : List AOper} {tr : List St} {st : St} {Q : St → Prop} (h : if wantedA st.env o.guard = true then wV T st.env st.A o.op (fun v A => wPut st o.dst v A fun st' => wD T all chk r (tr ++ [st]) st' Q) else wPut st o.dst undef st.A fun st' => wD T all chk r (tr ++ [st]) st' Q) :
    wD T all chk (o :: r) tr st Q := by
  have fin : ∀ (n : Nat) (st1 : St), runOp (callN T n) o st = some st1 → wD T all chk r (tr ++ [st]) st1 Q → wD T all chk (o :: r) tr st Q := by
    rintro n st1 h1 ⟨m, tr2, h2, h3, s, h4, h5⟩
    refine ⟨max n m, st :: tr2, ?_, by simpa using h3, s, ?_, h5⟩
    · simp only [runTrace, runOp_le (callN_le T (Nat.le_max_left n m)) h1, runTrace_le (callN_le T (Nat.le_max_right n m)) r h2]
    · obtain ⟨s', k1, k2⟩ := runTrace_ne h2
      rw [k1] at h4; cases h4
      exact k2 st
  by_cases hw : wantedA st.env o.guard = true
  · rw [if_pos hw] at h
    obtain ⟨n, v, A, h1, h2⟩ := h
    obtain ⟨st1, h3, h4⟩ := putE_wPut.2 h2
    refine fin n st1 ?_ h4
    unfold runOp
    rw [if_pos hw, h1]; exact h3
  · rw [if_neg hw] at h
    obtain ⟨st1, h3, h4⟩ := putE_wPut.2 h
    refine fin 0 st1 ?_ h4
    unfold runOp
    rw [if_neg hw]; exact h3

theorem wD_cons' {all : List AOper} {chk : List (Nat × Nat)} {o : AOper} {r : List AOper} {tr : List St} {st : St} {Q : St → Prop} : wD T all chk (o :: r) tr st Q ↔
    if wantedA st.env o.guard = true then wV T st.env st.A o.op (fun v A => wPut st o.dst v A fun st' => wD T all chk r (tr ++ [st]) st' Q) else wPut st o.dst undef st.A fun st' => wD T all chk r (tr ++ [st]) st' Q := by
  refine ⟨?_, wD_cons⟩
  rintro ⟨n, tr2, h1, h2, s, h3, h4⟩
  simp only [runTrace] at h1
  cases h5 : runOp (callN T n) o st with
  | none => rw [h5] at h1; cases h1
  | some st1 =>
    rw [h5] at h1
    simp only at h1
    cases h6 : runTrace (callN T n) r st1 with
    | none => rw [h6] at h1; cases h1
    | some tr3 =>
      rw [h6] at h1; cases h1
      obtain ⟨s', k1, k2⟩ := runTrace_ne h6
      rw [k2 st] at h3; cases h3
      have hw : wD T all chk r (tr ++ [st]) st1 Q := ⟨n, tr3, h6, by simpa using h2, _, k1, h4⟩
      unfold runOp at h5
      by_cases hg : wantedA st.env o.guard = true
      · rw [if_pos hg] at h5 ⊢
        cases h7 : opVal (callN T n) st.env st.A o.op with
        | none => rw [h7] at h5; cases h5
        | some q =>
          obtain ⟨v, A⟩ := q
          rw [h7] at h5
          exact ⟨n, v, A, h7, putE_wPut.1 ⟨st1, h5, hw⟩⟩
      · rw [if_neg hg] at h5 ⊢
        exact putE_wPut.1 ⟨st1, h5, hw⟩

theorem wC_opsD_chk {l : List AOper} {chk : List (Nat × Nat)} {st : St} {Q : AExit → St → Prop} (h : wD T l chk l [] st (Q .normal)) : wC T fn ctx (.opsD l chk) st Q := by
  obtain ⟨n, tr2, h1, h2, s, h3, h4⟩ := h
  refine ⟨n, .normal, s, ?_, h4⟩
  have h2' : chk.all (chkOk l tr2) = true := h2
  simp only [execC, h1, h2', if_true, h3, Option.map_some]

end
/-! ## More of slices -/
theorem Ext.trans2 {S S' : Nat → Prop} {A A1 A2 : AHeap} (h : Ext S A A1) (k : Ext S' A1 A2) (hs : ∀ b, b < A.size → S' b → S b) : Ext S A A2 :=
  ⟨Nat.le_trans h.size k.size, fun b hb hn => by rw [k.keep b (Nat.lt_of_lt_of_le hb h.size) (fun q => hn (hs b hb q)), h.keep b hb hn]⟩
/-- The cells of an element, as they lie in their block. -/
theorem ReadAt.elem2 {A : AHeap} {sz n i : Nat} {v : Value} {cs : List Value} (h : ReadAt A sz v n cs) (hi : i < n) : ∃ d o c bs ro opn, v = .slice (some ⟨d, o, none⟩) n c ∧ A.get d = some (.cells bs ro opn) ∧ o + i * sz + sz ≤ bs.length ∧ (bs.drop (o + i * sz)).take sz = (cs.drop (i * sz)).take sz := by
  have hle : i * sz + sz ≤ n * sz := by
    have := Nat.mul_le_mul_right sz (show i + 1 ≤ n by omega)
    rwa [Nat.add_mul, Nat.one_mul] at this
  rcases h with ⟨h1, h2, h3⟩ | ⟨d, o, c, bs, ro, opn, h1, h2, h3, h4, h5⟩ | ⟨_, _, _, _, h2, _⟩
  case inr.inr => omega
  · omega
  · refine ⟨d, o, c, bs, ro, opn, h1, h2, by omega, ?_⟩
    rw [h4, List.drop_take, List.take_take, List.drop_drop]
    congr 1; omega

theorem bnd_nat (k : IntKind) (x y : Nat) (h : x ≤ y) : bnd (.int k (x : Int)) y = some x := by
  simp [bnd, h]

/-- A slice's rest, with its capacity at its end: x[l:len(x):len(x)]. -/
theorem SliceAt.cut3 {A : AHeap} {sz n l : Nat} {v : Value} {cs : List Value} {k1 k2 k3 : IntKind} (h : SliceAt A sz v n cs) (hsz : sz ≠ 0) (hl : l ≤ n) (hn : n < 1000000) :
    ∃ v', sliceVA A sz v (some (.int k1 (l : Int))) (some (.int k2 (n : Int))) (some (.int k3 (n : Int))) = some v' ∧ SliceAt A sz v' (n - l) (cs.drop (l * sz)) ∧ ∀ j, Own v' j → Own v j := by
  have hb : ∀ cap, n ≤ cap → bndsA n cap (some (.int k1 (l : Int))) (some (.int k2 (n : Int))) (some (.int k3 (n : Int))) = some (l, n, n) := fun cap hc => by
    delta bndsA; simp [bnd_nat, hc, hl]
  have e1 : n - l < OPEN := Nat.lt_of_lt_of_le (show n - l < 1000000 by omega) (by decide)
  have e2 : ¬ OPEN ≤ n - l := by omega
  have hm : l * sz ≤ n * sz := Nat.mul_le_mul_right _ hl
  have hm2 : (n - l) * sz = n * sz - l * sz := by rw [Nat.sub_mul]
  rcases h with ⟨h1, h2, h3⟩ | ⟨d, o, c, bs, opn, h1, h2, h3, h4, h5⟩
  · subst h1; subst h2; subst h3
    have : l = 0 := by omega
    subst this
    exact ⟨_, by simp only [sliceVA, hb 0 (Nat.le_refl _)], .inl ⟨rfl, rfl, by simp⟩, fun j hj => hj⟩
  · subst h1
    have fin : SliceAt A sz (.slice (some ⟨d, if n = l then o else o + l * sz, none⟩) (n - l) (n - l)) (n - l) (cs.drop (l * sz)) := by
      refine .inr ⟨d, _, n - l, bs, opn, rfl, h2, ?_, ?_, .inr (.inl ⟨rfl, e1⟩)⟩
      · split <;> omega
      · split
        · rename_i q; subst q
          rw [h4, List.drop_take, Nat.sub_self]; simp
        · rw [h4, List.drop_take, List.drop_drop, hm2]
    have own : ∀ j, Own (.slice (some ⟨d, if n = l then o else o + l * sz, none⟩) (n - l) (n - l)) j → Own (.slice (some ⟨d, o, none⟩) n c) j := by
      rintro j ⟨o', n', c', q⟩; cases q; exact ⟨_, _, _, rfl⟩
    rcases h5 with ⟨q1, q2, q3⟩ | ⟨q1, q2⟩ | ⟨q1, q2, q3, q4⟩
    · subst q1; subst q2
      refine ⟨_, ?_, fin, own⟩
      simp only [sliceVA, if_true, h2, hb n (Nat.le_refl _), if_neg e2]
      rw [if_neg (by simp [hsz])]
    · subst q1
      refine ⟨_, ?_, fin, own⟩
      have c1 : c ≠ OPEN := by omega
      have c2 : c ≠ ENDCAP := fun q => by rw [q] at q2; exact absurd q2 (by decide)
      simp only [sliceVA, if_neg c1, if_neg c2, if_neg (show ¬ OPEN ≤ c by omega), hb c (Nat.le_refl _), if_neg e2]
    · subst q1; subst q2
      have : l = 0 := by omega
      subst this
      have hb0 := hb 0 (Nat.le_refl _)
      refine ⟨.slice (some ⟨d, o, none⟩) 0 ENDCAP, ?_, .inr ⟨d, o, ENDCAP, bs, opn, rfl, h2, h3, by simpa using h4, .inr (.inr ⟨rfl, rfl, q3, q4⟩)⟩, fun j hj => hj⟩
      simp only [sliceVA, if_neg (show ¬ ENDCAP = OPEN by decide), if_true, hb0]

end Go.AS
