/- A drawn region in two parts: the checks lie in the first. -/
import Derived.Test.YtigknpfjhegkgaaGreatM3
set_option linter.unusedSimpArgs false
set_option linter.unusedVariables false
namespace Go.AS
open Go
theorem runTrace_head {call : CallT} {l : List AOper} {st : St} {tr : List St} (h : runTrace call l st = some tr) : ∃ t, tr = st :: t := by
  cases l with
  | nil => cases h; exact ⟨[], rfl⟩
  | cons o l =>
    simp only [runTrace] at h
    split at h
    · split at h
      · cases h; exact ⟨_, rfl⟩
      · cases h
    · cases h
theorem runTrace_app {call : CallT} : ∀ (l1 l2 : List AOper) {st st1 : St} {tr1 tr2 : List St}, runTrace call l1 st = some tr1 → tr1.getLast? = some st1 → runTrace call l2 st1 = some tr2 →
    ∃ more, runTrace call (l1 ++ l2) st = some (tr1 ++ more) ∧ (tr1 ++ more).getLast? = tr2.getLast?
  | [], l2, st, st1, tr1, tr2, h1, hl, h2 => by
    cases h1; cases hl
    obtain ⟨t, rfl⟩ := runTrace_head h2
    exact ⟨t, h2, rfl⟩
  | o :: l1, l2, st, st1, tr1, tr2, h1, hl, h2 => by
    simp only [runTrace] at h1
    split at h1
    · rename_i s' hs
      split at h1
      · rename_i t ht
        cases h1
        obtain ⟨t', ht'⟩ := runTrace_head ht
        have hl' : t.getLast? = some st1 := by rw [ht'] at hl ⊢; exact hl
        obtain ⟨more, k1, k2⟩ := runTrace_app l1 l2 ht hl' h2
        refine ⟨more, ?_, ?_⟩
        · simp only [List.cons_append, runTrace, hs, k1]
        · rw [← k2, ht']; rfl
      · cases h1
    · cases h1
theorem chkOk_app {l : List AOper} {tr : List St} {c : Nat × Nat} (more : List St) (h : chkOk l tr c = true) : chkOk l (tr ++ more) c = true := by
  have up : ∀ {i : Nat} {s : St}, tr[i]? = some s → (tr ++ more)[i]? = some s := fun {i s} q => by
    rw [List.getElem?_append_left (List.getElem?_eq_some_iff.1 q).1]; exact q
  unfold chkOk at h ⊢
  cases h1 : l[c.1]? with
  | none => rw [h1] at h; cases h
  | some o => cases h2 : tr[c.1]? with
    | none => rw [h1, h2] at h; cases h
    | some s => cases h3 : tr[c.1 + 1]? with
      | none => rw [h1, h2, h3] at h; cases h
      | some s1 => cases h4 : tr[c.2]? with
        | none => rw [h1, h2, h3, h4] at h; cases h
        | some s2 =>
          rw [h1, h2, h3, h4] at h
          rw [up h2, up h3, up h4]
          exact h
theorem wC_opsD_cut {T : FTab} {fn : FuncId} {ctx : Option Nat} (k : Nat) {l : List AOper} {chk : List (Nat × Nat)} {st : St} {Q : AExit → St → Prop} (h : wD T l chk (l.take k) [] st (fun s => wO T (l.drop k) s (Q .normal))) : wC T fn ctx (.opsD l chk) st Q := by
  obtain ⟨n, tr1, h1, h2, s, h3, m, s2, h5, hq⟩ := h
  have a1 := runTrace_le (callN_le T (Nat.le_max_left n m)) _ h1
  obtain ⟨tr2, a2, a3⟩ := runTrace_last _ (runOps_le (callN_le T (Nat.le_max_right n m)) _ h5)
  obtain ⟨more, k1, k2⟩ := runTrace_app _ _ a1 h3 a2
  rw [List.take_append_drop] at k1
  refine wC_opsD_chk ⟨max n m, tr1 ++ more, k1, ?_, s2, by rw [k2, a3], hq⟩
  rw [List.all_eq_true] at h2 ⊢
  exact fun c hc => chkOk_app more (h2 c hc)
end Go.AS
