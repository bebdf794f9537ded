/- The rows. -/
import Derived.Test.YtcfahggmejpdbaaDoorSc
import Derived.KernelRfl
namespace Go.Proofs.YtcfahggmejpdbaaDoor
open Go Go.AS
set_option maxRecDepth 100000
set_option linter.unusedSimpArgs false
set_option linter.unusedVariables false
attribute [local irreducible] Trie.set Trie.get Env.rd
attribute [local simp] Nat.add_assoc wD_cons'' wD_nil' wC_seq wC_ops wC_opsD_nil wC_cond wC_skip wC_ret wC_exit wC_block wO_cons' wO_nil wantedA wV_eq lop qop ev wL_some wL_none wPut envOf rd_set rd_leaf eqA thenC blockC wB_true wB_false endF unwindA resultsA resA tupleA rdCell rdCells wrCells cl fillP lay rep binA unA get_set' AHeap.get_alloc oneCell beqd bned idxA

attribute [local simp] MS.len MS.one MS.take MS.at0 MS.at1 MS.at2 MS.at7 MS.putEn MS.putMd MS.putSo MS.putU0 Tn.len Tn.one Tn.take Tn.at0 Tn.at1 Tn.at2
def effV (c : Nat) : Value := if c = 5 then .func (.func 39) #[] #[] else if c = 7 then .func (.func 42) #[] #[] else if c = 8 then .func (.func 44) #[] #[] else if c = 9 then .func (.func 46) #[] #[] else .nilFunc
def rowCells (f : Nat → Value) : List Value := [f 0, .int .i64 1, .nilFunc, f 1, .int .i64 2, .nilFunc, f 2, .int .i64 4, .nilFunc, f 3, .int .i64 2, .nilFunc, f 4, .int .i64 4, .nilFunc, f 5, .int .i64 3, .func (.func 39) #[] #[], f 6, .int .i64 4, .nilFunc,
  f 7, .int .i64 3, .func (.func 42) #[] #[], f 8, .int .i64 3, .func (.func 44) #[] #[], f 9, .int .i64 3, .func (.func 46) #[] #[], f 10, .int .i64 4, .nilFunc, f 11, .int .i64 4, .nilFunc, f 12, .int .i64 4, .nilFunc, f 13, .int .i64 4, .nilFunc,
  f 14, .int .i64 5, .nilFunc, f 15, .int .i64 6, .nilFunc, f 16, .int .i64 6, .nilFunc, f 17, .int .i64 6, .nilFunc]
def fnList (n : Nat) : List Value := [.func (.func 54) #[] #[.pointer (some ⟨n + 2, 0, none⟩)], .func (.func 54) #[] #[.pointer (some ⟨n + 3, 0, none⟩)], .func (.func 54) #[] #[.pointer (some ⟨n + 4, 0, none⟩)],
  .func (.func 55) #[] #[.pointer (some ⟨n + 6, 0, none⟩)], .func (.func 55) #[] #[.pointer (some ⟨n + 8, 0, none⟩)], .func (.func 55) #[] #[.pointer (some ⟨n + 10, 0, none⟩)], .func (.func 55) #[] #[.pointer (some ⟨n + 12, 0, none⟩)],
  .func (.func 40) #[] #[], .func (.func 43) #[] #[], .func (.func 45) #[] #[], .func (.func 36) #[] #[], .func (.func 36) #[] #[], .func (.func 36) #[] #[], .func (.func 36) #[] #[], .func (.func 55) #[] #[.pointer (some ⟨n + 14, 0, none⟩)], .func (.func 47) #[] #[], .func (.func 48) #[] #[], .func (.func 49) #[] #[]]
theorem rows_ok (A : AHeap) (Q : Value → AHeap → Prop) (hq : ∀ A' (f : Nat → Value), Ext NoB A A' → (∀ c : Nat, c < 18 → IsFn (f c) A' fun s p => mayM s c p) → (∀ c : Nat, c < 18 → oneCell (f c) = true) → Q (.agg ⟨rowCells f⟩) A') : wF T (.func (.func 29) #[] #[]) [] A Q := by
  refine wF_func (first := []) (captured := []) t29 ⟨rfl, by decide⟩ ?_
  dsimp only [c29]
  simp
  refine wC_opsD_chk ?_
  simp
  refine idle_ok _ _ _ ?_
  simp
  refine idle_ok _ _ _ ?_
  simp
  refine idle_ok _ _ _ ?_
  simp
  refine in_ok _ _ _ _ ?_
  simp
  refine in_ok _ _ _ _ ?_
  simp
  refine in_ok _ _ _ _ ?_
  simp
  refine in_ok _ _ _ _ ?_
  simp
  refine in_ok _ _ _ _ ?_
  simp
  refine wE_intro ?_ ?_
  · simp only [List.all_cons, List.all_nil, chkOk, List.nil_append, List.cons_append, List.getElem?_cons_succ, List.getElem?_cons_zero]
    simp [Bx, vbeq, vbeq.vbeqs]
  simp
  generalize hH : AHeap.set _ A.size _ = H
  have ex : Ext NoB A H := by
    rw [← hH]
    refine ⟨by simp, fun b hb _ => ?_⟩
    simp [show b ≠ A.size by omega, show ∀ k, b ≠ A.size + k by omega]
  have gi : ∀ k x, (k = 2 ∧ x = 0) ∨ (k = 3 ∧ x = 1) ∨ (k = 4 ∧ x = 1) → H.get (A.size + k) = some (.cells [.int .i64 x] false 0) := by
    rw [← hH]
    rintro k x (⟨rfl, rfl⟩ | ⟨rfl, rfl⟩ | ⟨rfl, rfl⟩) <;> simp
  have gb : ∀ k (l : List Int), (k = 5 ∧ l = [1]) ∨ (k = 7 ∧ l = [1]) ∨ (k = 9 ∧ l = [2]) ∨ (k = 11 ∧ l = [2]) ∨ (k = 13 ∧ l = [3, 4]) → H.get (A.size + k) = some (.cells (icells l) false 0) ∧ H.get (A.size + (k + 1)) = some (.cells [.slice (some ⟨A.size + k, 0, none⟩) l.length l.length] false 0) := by
    rw [← hH]
    rintro k l (⟨rfl, rfl⟩ | ⟨rfl, rfl⟩ | ⟨rfl, rfl⟩ | ⟨rfl, rfl⟩ | ⟨rfl, rfl⟩) <;> simp [icells]
  clear hH
  refine hq H (fun c => (fnList A.size).getD c .nilFunc) ex ?_ (fun c hc => by
    match c, hc with
    | 0, _ | 1, _ | 2, _ | 3, _ | 4, _ | 5, _ | 6, _ | 7, _ | 8, _ | 9, _ | 10, _ | 11, _ | 12, _ | 13, _ | 14, _ | 15, _ | 16, _ | 17, _ => rfl
    | n + 18, h => omega)
  intro c hc
  have idl : ∀ k x, (k = 2 ∧ x = 0) ∨ (k = 3 ∧ x = 1) ∨ (k = 4 ∧ x = 1) → IsFn (.func (.func 54) #[] #[.pointer (some ⟨A.size + k, 0, none⟩)]) H (fun s p => s.en == x && (s.md == 0 && p == 0)) := fun k x h => idle_fn (gi k x h)
  have ins : ∀ k (l : List Int), (k = 5 ∧ l = [1]) ∨ (k = 7 ∧ l = [1]) ∨ (k = 9 ∧ l = [2]) ∨ (k = 11 ∧ l = [2]) ∨ (k = 13 ∧ l = [3, 4]) → l.length < 100 → IsFn (.func (.func 55) #[] #[.pointer (some ⟨A.size + (k + 1), 0, none⟩)]) H (fun s p => decide (s.md ∈ l) && p == 0) := fun k l h hl => in1_fn (gb k l h).2 ⟨0, (gb k l h).1⟩ hl
  match c, hc with
  | 0, _ => exact idl 2 0 (.inl ⟨rfl, rfl⟩)
  | 1, _ => exact idl 3 1 (.inr (.inl ⟨rfl, rfl⟩))
  | 2, _ => exact idl 4 1 (.inr (.inr ⟨rfl, rfl⟩))
  | 3, _ => exact (ins 5 [1] (by simp) (by decide)).congr fun s p _ _ => by simp [mayM]
  | 4, _ => exact (ins 7 [1] (by simp) (by decide)).congr fun s p _ _ => by simp [mayM]
  | 5, _ => exact (ins 9 [2] (by simp) (by decide)).congr fun s p _ _ => by simp [mayM]
  | 6, _ => exact (ins 11 [2] (by simp) (by decide)).congr fun s p _ _ => by simp [mayM]
  | 7, _ => exact pre_fn H
  | 8, _ => exact up_fn H
  | 9, _ => exact down_fn H
  | 10, _ => exact sole_fn H
  | 11, _ => exact sole_fn H
  | 12, _ => exact sole_fn H
  | 13, _ => exact sole_fn H
  | 14, _ => exact (ins 13 [3, 4] (by simp) (by decide)).congr fun s p _ _ => by simp [mayM]
  | 15, _ => exact open_fn H
  | 16, _ => exact fast_fn H
  | 17, _ => exact reset_fn H
  | n + 18, h => omega
end Go.Proofs.YtcfahggmejpdbaaDoor
