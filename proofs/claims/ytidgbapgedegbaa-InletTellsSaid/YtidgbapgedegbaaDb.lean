/- What a mapping's sum is of. -/
import Derived.Test.YtidgbapgedegbaaDa
namespace Go.Proofs.Ytidgbapgedegbaa
open Go Go.AS
set_option maxRecDepth 100000
set_option linter.unusedSimpArgs false
set_option linter.unusedVariables false

/-- A number's bytes, the greatest first. -/
def be (n : Nat) : Nat → List UInt8
  | 0 => []
  | w + 1 => UInt8.ofNat (n / 256 ^ w % 256) :: be n w
theorem be_len (n : Nat) : ∀ w, (be n w).length = w
  | 0 => rfl
  | w + 1 => by simp [be, be_len n w]
/-- What stands ahead of the bytes. -/
def ahead (dsn ssn n told : Int) : List UInt8 := be dsn.toNat 8 ++ be ssn.toNat 4 ++ be (IntKind.u16.wrap n).toNat 2 ++ be told.toNat 2
theorem ahead_len (dsn ssn n told : Int) : (ahead dsn ssn n told).length = 16 := by simp [ahead, be_len]
/-- The sum of a mapping. -/
def ofN (dsn ssn n : Int) (l : List UInt8) : Nat := 65535 - foldN (wsum (ahead dsn ssn n 0 ++ l))
def rightN (dsn ssn n : Int) (l : List UInt8) (told : Int) : Bool := decide (foldN (wsum (ahead dsn ssn n told ++ l)) = 65535)
theorem ofNat_toNat {n : Nat} (h : n < 256) : (UInt8.ofNat n).toNat = n := by rw [UInt8.toNat_ofNat']; exact Nat.mod_eq_of_lt h
theorem wsum_be2 {n : Nat} (h : n < 65536) : wsum (be n 2) = n := by
  have h1 : n / 256 % 256 < 256 := Nat.mod_lt _ (by decide)
  have h2 : n % 256 < 256 := Nat.mod_lt _ (by decide)
  have e1 : (UInt8.ofNat (n / 256 ^ 1 % 256)).toNat = n / 256 % 256 := by rw [Nat.pow_one]; exact ofNat_toNat h1
  have e2 : (UInt8.ofNat (n / 256 ^ 0 % 256)).toNat = n % 256 := by rw [Nat.pow_zero, Nat.div_one]; exact ofNat_toNat h2
  show (UInt8.ofNat (n / 256 ^ 1 % 256)).toNat * 256 + (UInt8.ofNat (n / 256 ^ 0 % 256)).toNat + 0 = n
  rw [e1, e2]; omega
theorem wsum_ahead (dsn ssn n : Int) (told : Nat) (ht : told < 65536) (l : List UInt8) : wsum (ahead dsn ssn n told ++ l) = wsum (be dsn.toNat 8 ++ be ssn.toNat 4 ++ be (IntKind.u16.wrap n).toNat 2) + told + wsum l := by
  rw [wsum_append _ _ (by rw [ahead_len])]
  unfold ahead
  rw [wsum_append _ (be (told : Int).toNat 2) (by simp [be_len])]
  rw [Int.toNat_natCast, wsum_be2 ht]
theorem ofN_lt (dsn ssn n : Int) (l : List UInt8) : ofN dsn ssn n l < 65536 := by unfold ofN; omega
/-- A right sum is right. -/
theorem right_ok (dsn ssn n : Int) (l : List UInt8) : rightN dsn ssn n l (ofN dsn ssn n l : Nat) = true := by
  unfold rightN
  rw [decide_eq_true_eq, wsum_ahead _ _ _ _ (ofN_lt _ _ _ _)]
  have h0 : wsum (ahead dsn ssn n 0 ++ l) = wsum (be dsn.toNat 8 ++ be ssn.toNat 4 ++ be (IntKind.u16.wrap n).toNat 2) + 0 + wsum l := wsum_ahead dsn ssn n 0 (by decide) l
  have h1 : ofN dsn ssn n l = 65535 - foldN (wsum (ahead dsn ssn n 0 ++ l)) := rfl
  rw [h0] at h1
  generalize wsum (be dsn.toNat 8 ++ be ssn.toNat 4 ++ be (IntKind.u16.wrap n).toNat 2) = H at h1
  generalize wsum l = L at h1
  generalize ofN dsn ssn n l = o at h1
  have := right_of (H + 0 + L) o h1
  rw [show H + o + L = H + 0 + L + o by omega]
  exact this
/-- And is not, if one byte is another one. -/
theorem right_no (dsn ssn n : Int) (l : List UInt8) (k : Nat) (b : UInt8) (h : k < l.length) (hb : b ≠ l[k]) : rightN dsn ssn n (l.set k b) (ofN dsn ssn n l : Nat) = false := by
  have h1 := right_ok dsn ssn n l
  unfold rightN at h1 ⊢
  rw [decide_eq_true_eq, wsum_append _ _ (by rw [ahead_len])] at h1
  rw [decide_eq_false_iff_not, wsum_append _ _ (by rw [ahead_len])]
  exact spoilt_of _ l k b h hb h1
end Go.Proofs.Ytidgbapgedegbaa
