/- Sums of sixteen bits: the arithmetic. -/
import Derived.Test.YtidgbapgedegbaaHa
namespace Go.Proofs.Ytidgbapgedegbaa
open Go Go.AS
set_option linter.unusedSimpArgs false
set_option linter.unusedVariables false

/-- The sum of the words of bytes. -/
def wsum : List UInt8 → Nat
  | [] => 0
  | [a] => a.toNat * 256
  | a :: b :: l => a.toNat * 256 + b.toNat + wsum l
/-- A number, brought to sixteen bits. -/
def foldN (n : Nat) : Nat := if n = 0 then 0 else (n - 1) % 65535 + 1
theorem foldN_le (n : Nat) : foldN n ≤ 65535 := by
  unfold foldN; split <;> omega
theorem foldN_small {n : Nat} (h : n ≤ 65535) : foldN n = n := by
  unfold foldN; split <;> omega
theorem foldN_step {n : Nat} (h : 65535 < n) : foldN (n / 65536 + n % 65536) = foldN n ∧ n / 65536 + n % 65536 < n := by
  unfold foldN
  rw [if_neg (by omega), if_neg (by omega)]
  omega
theorem byte_lt (b : UInt8) : b.toNat < 256 := b.toNat_lt
theorem wsum_le : ∀ l : List UInt8, wsum l ≤ 65535 * l.length
  | [] => by simp [wsum]
  | [a] => by have := byte_lt a; simp [wsum]; omega
  | a :: b :: l => by
    have := wsum_le l
    have := byte_lt a
    have := byte_lt b
    simp only [wsum, List.length_cons]; omega
theorem wsum_append : ∀ (l m : List UInt8), l.length % 2 = 0 → wsum (l ++ m) = wsum l + wsum m
  | [], m, _ => by simp [wsum]
  | [a], m, h => by simp at h
  | a :: b :: l, m, h => by
    have := wsum_append l m (by simp only [List.length_cons] at h; omega)
    simp only [List.cons_append, wsum, this]; omega
/-- A right sum is told so. -/
theorem right_of (S : Nat) (n : Nat) (hn : n = 65535 - foldN S) : foldN (S + n) = 65535 := by
  have hle := foldN_le S
  unfold foldN at *
  split at hn <;> split <;> omega
/-- How much a byte weighs. -/
def wt (k : Nat) : Nat := if k % 2 = 0 then 256 else 1
theorem wsum_set : ∀ (l : List UInt8) (k : Nat) (b : UInt8) (h : k < l.length), wsum (l.set k b) + wt k * (l[k]).toNat = wsum l + wt k * b.toNat
  | [a], 0, b, _ => by simp [wsum, wt]; omega
  | a :: c :: l, 0, b, _ => by simp [wsum, wt]; omega
  | a :: c :: l, 1, b, _ => by simp [wsum, wt]; omega
  | a :: c :: l, k + 2, b, h => by
    have := wsum_set l k b (by simpa using h)
    have hw : wt (k + 2) = wt k := by unfold wt; rw [Nat.add_mod_right]
    simp only [List.set_cons_succ, wsum, List.getElem_cons_succ, hw]
    omega
  | [a], k + 1, b, h => by simp at h
theorem wt_cases (k : Nat) : wt k = 256 ∨ wt k = 1 := by unfold wt; split <;> simp
/-- A spoilt byte is told so. -/
theorem spoilt_of (H : Nat) (l : List UInt8) (k : Nat) (b : UInt8) (h : k < l.length) (hb : b ≠ l[k]) (hr : foldN (H + wsum l) = 65535) : foldN (H + wsum (l.set k b)) ≠ 65535 := by
  have h1 := wsum_set l k b h
  have b1 := byte_lt b
  have b2 := byte_lt l[k]
  have hne : b.toNat ≠ (l[k]).toNat := fun q => hb (UInt8.toNat_inj.1 q)
  intro hx
  unfold foldN at hr hx
  split at hr
  · omega
  · split at hx
    · omega
    · rcases wt_cases k with w | w <;> rw [w] at h1 <;> omega
end Go.Proofs.Ytidgbapgedegbaa
