/- Texts of this claim, one behind the other. -/
import Derived.Test.YtigknpfjhegkgaaGreatDoorPim
import Derived.KernelRfl
import Derived.Test.YtigknpfjhegkgaaGreatDoorKe
section
/- What bodies of options are read as; plain laws. -/
namespace Go.Proofs.YtigknpfjhegkgaaGreatDoor
open Go Go.AS
set_option maxRecDepth 100000
set_option linter.unusedSimpArgs false
set_option linter.unusedVariables false

def seg (s : List UInt8) (i n : Nat) : List UInt8 := (s.drop i).take n
def Cap.dec : List UInt8 → Except Int Cap
  | [] => .error 4
  | a :: s => if a.toNat / 16 ≠ 0 then .error 7 else match s with
    | [] => .error 5
    | b :: r => if r.length = 0 ∨ r.length = 8 ∨ r.length = 16 ∨ r.length = 18 ∨ r.length = 20 then
        if b.toNat % 2 = 0 then .error 2 else
        .ok ⟨if r.length = 0 then 0 else if r.length = 8 then 1 else if r.length = 16 then 2 else if r.length = 18 then 3 else 4, (a.toNat % 16 : Nat), decide (b.toNat / 128 % 2 = 1), decide (b.toNat / 32 % 2 = 1), val (seg r 0 8), val (seg r 8 8), (val (seg r 16 2) : Nat), val (seg r 18 2)⟩
      else .error 5
def Jn.dec : List UInt8 → Except Int Jn
  | [] => .error 4
  | a :: s => if a.toNat / 16 ≠ 1 then .error 7 else match s with
    | [] => .error 5
    | b :: r => if r.length = 8 then .ok ⟨0, decide (a.toNat % 2 = 1), (b.toNat : Nat), val (seg r 0 4), val (seg r 4 4), []⟩
      else if r.length = 12 then .ok ⟨1, decide (a.toNat % 2 = 1), (b.toNat : Nat), 0, val (seg r 8 4), seg r 0 8⟩
      else if r.length = 20 then .ok ⟨2, false, 0, 0, 0, r⟩
      else .error 5
def Ds.dec : List UInt8 → Except Int Ds
  | [] => .error 4
  | a :: s => if a.toNat / 16 ≠ 2 then .error 7 else match s with
    | [] => .error 4
    | b :: r =>
      let ha := decide (b.toNat % 2 = 1)
      let la := ha && decide (b.toNat / 2 % 2 = 1)
      let hm := decide (b.toNat / 4 % 2 = 1)
      let ld := hm && decide (b.toNat / 8 % 2 = 1)
      let k := if ha then wide la else 0
      let w := if hm then wide ld else 0
      let m := if hm then 6 else 0
      if (!ha && !hm) = true then .error 5
      else if r.length < k + w + m then .error 4
      else if r.length = k + w + m ∨ (hm = true ∧ r.length = k + w + m + 2) then .ok ⟨hm && decide (b.toNat / 16 % 2 = 1), ha, la, val (seg r 0 k), hm, ld, val (seg r k w), val (seg r (k + w) 4), (val (seg r (k + w + 4) 2) : Nat), decide (r.length ≠ k + w + m), val (seg r (k + w + 6) 2)⟩
      else .error 5
def Ad.dec : List UInt8 → Except Int Ad
  | [] => .error 4
  | a :: s => if a.toNat / 16 ≠ 3 then .error 7 else match s with
    | [] => .error 5
    | b :: r =>
      let ec := decide (a.toNat % 2 = 1)
      let m := if ec then 0 else 8
      if r.length = m + 4 then .ok ⟨ec, (b.toNat : Nat), seg r 0 4, false, 0, seg r 4 m⟩
      else if r.length = m + 6 then .ok ⟨ec, (b.toNat : Nat), seg r 0 4, true, (val (seg r 4 2) : Nat), seg r 6 m⟩
      else if r.length = m + 16 then .ok ⟨ec, (b.toNat : Nat), seg r 0 16, false, 0, seg r 16 m⟩
      else if r.length = m + 18 then .ok ⟨ec, (b.toNat : Nat), seg r 0 16, true, (val (seg r 16 2) : Nat), seg r 18 m⟩
      else .error 5
def remD : List UInt8 → Except Int (List UInt8)
  | [] => .error 4
  | a :: s => if a.toNat / 16 ≠ 4 then .error 7 else if 1 ≤ s.length ∧ s.length ≤ 37 then .ok s else .error 5
def prioD : List UInt8 → Except Int Bool
  | [] => .error 4
  | a :: s => if a.toNat / 16 ≠ 5 then .error 7 else if s = [] then .ok (decide (a.toNat % 2 = 1)) else .error 5
def bigD (k : Nat) : List UInt8 → Except Int Nat
  | [] => .error 4
  | a :: s => if a.toNat / 16 ≠ k then .error 7 else if s.length < 9 then .error 4 else if s.length = 9 then .ok (val (seg s 1 8)) else .error 5
def rstD : List UInt8 → Except Int (Int × Int)
  | [] => .error 4
  | a :: s => if a.toNat / 16 ≠ 8 then .error 7 else match s with
    | [] => .error 4
    | b :: r => if r = [] then .ok ((a.toNat % 16 : Nat), (b.toNat : Nat)) else .error 5
def mapE {α β : Type} (f : α → β) : Except Int α → Except Int β
  | .ok x => .ok (f x)
  | .error e => .error e
def Op.dec (k : Int) (s : List UInt8) : Except Int Op :=
  if k ≠ 30 then .error 7 else match s with
  | [] => .error 4
  | a :: _ =>
    if a.toNat / 16 = 0 then mapE (fun x => { Op.only 0 with cap := x }) (Cap.dec s)
    else if a.toNat / 16 = 1 then mapE (fun x => { Op.only 1 with jn := x }) (Jn.dec s)
    else if a.toNat / 16 = 2 then mapE (fun x => { Op.only 2 with ds := x }) (Ds.dec s)
    else if a.toNat / 16 = 3 then mapE (fun x => { Op.only 3 with ad := x }) (Ad.dec s)
    else if a.toNat / 16 = 4 then mapE (fun x => { Op.only 4 with ids := x }) (remD s)
    else if a.toNat / 16 = 5 then mapE (fun x => { Op.only 5 with prio := x }) (prioD s)
    else if a.toNat / 16 = 6 then mapE (fun x => { Op.only 6 with fail := x }) (bigD 6 s)
    else if a.toNat / 16 = 7 then mapE (fun x => { Op.only 7 with fast := x }) (bigD 7 s)
    else if a.toNat / 16 = 8 then mapE (fun x => { Op.only 8 with rf := x.1, rr := x.2 }) (rstD s)
    else .error 7
/-! ### Numbers in bytes -/
theorem val_cons (b : UInt8) (l : List UInt8) : val (b :: l) = b.toNat * 256 ^ l.length + val l := by
  have : ∀ (l : List UInt8) (a : Nat), List.foldl (fun a (b : UInt8) => a * 256 + b.toNat) a l = a * 256 ^ l.length + val l := by
    intro l
    induction l with
    | nil => intro a; simp [val]
    | cons c l ih =>
      intro a
      show List.foldl _ (a * 256 + c.toNat) l = a * 256 ^ (l.length + 1) + List.foldl _ (0 * 256 + c.toNat) l
      rw [ih, ih (0 * 256 + c.toNat), Nat.pow_succ, Nat.add_mul, Nat.mul_assoc, Nat.mul_comm 256, Nat.zero_mul, Nat.zero_add, Nat.add_assoc]
  have h := this l (0 * 256 + b.toNat)
  rw [Nat.zero_mul, Nat.zero_add] at h
  show List.foldl _ (0 * 256 + b.toNat) l = _
  rw [Nat.zero_mul, Nat.zero_add]
  exact h
theorem val_be : ∀ (w n : Nat), val (be n w) = n % 256 ^ w
  | 0, n => by simp [be, val, Nat.mod_one]
  | w + 1, n => by
    rw [be, val_cons, be_len, val_be w n, ofNat_toNat (Nat.mod_lt _ (by decide)), Nat.pow_succ, Nat.mod_mul, Nat.mul_comm, Nat.add_comm]
theorem val_be' {w n : Nat} (h : n < 256 ^ w) : val (be n w) = n := by rw [val_be, Nat.mod_eq_of_lt h]
theorem be_val' : ∀ (l : List UInt8) (q : Nat), be (q * 256 ^ l.length + val l) l.length = l
  | [], q => rfl
  | b :: l, q => by
    have hb := b.toNat_lt
    have hv := val_lt l
    have hp : 0 < 256 ^ l.length := Nat.pow_pos (by decide)
    have e1 : q * 256 ^ (l.length + 1) + val (b :: l) = (q * 256 + b.toNat) * 256 ^ l.length + val l := by
      rw [val_cons, Nat.pow_succ, Nat.add_mul, Nat.mul_assoc, Nat.mul_comm 256, Nat.add_assoc]
    show be (q * 256 ^ (l.length + 1) + val (b :: l)) (l.length + 1) = b :: l
    rw [e1, be, be_val' l]
    have e2 : ((q * 256 + b.toNat) * 256 ^ l.length + val l) / 256 ^ l.length = q * 256 + b.toNat := by
      rw [Nat.mul_comm, Nat.mul_add_div hp, Nat.div_eq_of_lt hv, Nat.add_zero]
    rw [e2]
    congr 1
    apply UInt8.toNat_inj.1
    rw [ofNat_toNat (Nat.mod_lt _ (by decide))]
    omega
theorem be_val (l : List UInt8) {w : Nat} (h : l.length = w) : be (val l) w = l := by
  have := be_val' l 0
  rwa [Nat.zero_mul, Nat.zero_add, h] at this
theorem seg_len (s : List UInt8) (i n : Nat) (h : i + n ≤ s.length) : (seg s i n).length = n := by simp [seg]; omega
theorem seg_all (s : List UInt8) (n : Nat) (h : s.length = n) : seg s 0 n = s := by simp [seg, ← h]
theorem seg_nil (s : List UInt8) (i n : Nat) (h : s.length ≤ i) : seg s i n = [] := by simp [seg, List.drop_eq_nil_of_le h]
theorem seg_zero (s : List UInt8) (i : Nat) : seg s i 0 = [] := by simp [seg]
theorem seg_left (x y : List UInt8) (n : Nat) (h : x.length = n) : seg (x ++ y) 0 n = x := by subst h; simp [seg]
theorem seg_skip (x y : List UInt8) (i n : Nat) (h : x.length ≤ i) : seg (x ++ y) i n = seg y (i - x.length) n := by
  simp [seg, List.drop_append, List.drop_eq_nil_of_le h]
theorem seg_cat (s : List UInt8) (i m n : Nat) : seg s i m ++ seg s (i + m) n = seg s i (m + n) := by
  simp only [seg]
  rw [List.take_add, List.drop_drop]
theorem be1 (n : Nat) : be n 1 = [UInt8.ofNat (n % 256)] := by simp [be]
theorem byte_eq {b : UInt8} {n : Nat} (h : b.toNat = n) : UInt8.ofNat (n % 256) = b := by
  apply UInt8.toNat_inj.1
  rw [ofNat_toNat (Nat.mod_lt _ (by decide)), ← h, Nat.mod_eq_of_lt b.toNat_lt]
/-- The bits of l that t does not have: none. -/
def subB (l t : List UInt8) : Prop := l.length = t.length ∧ ∀ (i : Nat) (b c : UInt8), l[i]? = some b → t[i]? = some c → b &&& ~~~c = 0
theorem and_self_not (b : UInt8) : b &&& ~~~b = 0 := by
  apply UInt8.eq_of_toBitVec_eq; simp
theorem subB.refl (l : List UInt8) : subB l l := ⟨rfl, fun i b c h1 h2 => by rw [h1] at h2; cases h2; exact and_self_not b⟩
theorem subB.cons {b c : UInt8} {l t : List UInt8} (h : b &&& ~~~c = 0) (k : subB l t) : subB (b :: l) (c :: t) :=
  ⟨by simp [k.1], fun i x y h1 h2 => by
    cases i with
    | zero => simp at h1 h2; subst h1; subst h2; exact h
    | succ i => exact k.2 i x y (by simpa using h1) (by simpa using h2)⟩
theorem sub_dec (f : UInt8 → Nat) (hf : ∀ c : Fin 256, (UInt8.ofNat (f (UInt8.ofNat c.val) % 256)) &&& ~~~(UInt8.ofNat c.val) = 0) (c : UInt8) : (UInt8.ofNat (f c % 256)) &&& ~~~c = 0 := by
  have := hf ⟨c.toNat, c.toNat_lt⟩
  simpa using this
theorem subB.tail {b c : UInt8} {l : List UInt8} (h : b &&& ~~~c = 0) : subB (b :: l) (c :: l) := .cons h (.refl l)
theorem sub_eq {b c : UInt8} (h : b = c) : b &&& ~~~c = 0 := by subst h; exact and_self_not _
theorem allB (p : UInt8 → Prop) (h : ∀ i : Fin 256, p (UInt8.ofNat i.val)) (c : UInt8) : p c := by
  have := h ⟨c.toNat, c.toNat_lt⟩
  simpa using this
theorem val_nil : val [] = 0 := rfl
/-! ### Each body, there and back -/
theorem Cap.rt {x : Cap} (hw : x.W) {l : List UInt8} (h : x.enc = some l) : Cap.dec l = .ok x := by
  unfold Cap.enc at h
  split at h
  · rename_i hm
    cases h
    simp only [Cap.may, Cap.lacks, Bool.and_eq_true, decide_eq_true_eq] at hm
    obtain ⟨⟨h1, h2, h3, h4, h5, h6⟩, k1, k2, k3, k4⟩ := hm
    obtain ⟨f, v, s, a, own, peer, len, sum⟩ := x
    obtain ⟨w1, w2, w3⟩ := hw
    simp only at *
    obtain ⟨v, rfl⟩ := Int.eq_ofNat_of_zero_le h3
    obtain ⟨len, rfl⟩ := Int.eq_ofNat_of_zero_le h5
    have hf : f = 0 ∨ f = 1 ∨ f = 2 ∨ f = 3 ∨ f = 4 := by omega
    have e1 : ∀ n, n < 256 → (UInt8.ofNat n).toNat = n := fun n => ofNat_toNat
    have q1 : v % 256 = v := by omega
    have q2 : (v : Int) % 16 = v := by omega
    have q3 : ¬ 16 ≤ v := by omega
    have q4 : v < 256 := by omega
    have q5 : len < 256 ^ 2 := by omega
    have v1 := val_be' w1
    have v2 := val_be' w2
    have v3 := val_be' w3
    have v4 := val_be' q5
    clear h4 h6
    rcases hf with rfl | rfl | rfl | rfl | rfl
    all_goals simp at k1 k2 k3 k4
    all_goals cases s <;> cases a <;> simp [Cap.body, Cap.flags, Cap.dec, be1, be_len, e1, seg_left, seg_skip, seg_nil, seg_all, val_nil, q1, q2, q3, q4, v1, v2, v3, v4] <;> omega
  · cases h
theorem Jn.rt {x : Jn} (hw : x.W) {l : List UInt8} (h : x.enc = some l) : Jn.dec l = .ok x := by
  unfold Jn.enc at h
  split at h
  · rename_i hm
    cases h
    simp only [Jn.may, decide_eq_true_eq] at hm
    obtain ⟨f, bk, id, token, nonce, mac⟩ := x
    obtain ⟨h1, h2, hm⟩ := hm
    obtain ⟨w1, w2, w3⟩ := hw
    simp only at *
    obtain ⟨v, rfl⟩ := Int.eq_ofNat_of_zero_le h1
    have e1 : ∀ n, n < 256 → (UInt8.ofNat n).toNat = n := fun n => ofNat_toNat
    have q1 : v % 256 = v := by omega
    have q4 : v < 256 := by omega
    have v1 := val_be' w1
    have v2 := val_be' w2
    rcases hm with ⟨rfl, rfl⟩ | ⟨rfl, hl, rfl⟩ | ⟨rfl, hl, rfl, hv, rfl, rfl⟩
    · cases bk <;> simp [Jn.body, Jn.head, Jn.first, Jn.dec, be1, be_len, e1, seg_left, seg_skip, seg_nil, seg_all, val_nil, q1, q4, v1, v2]
    · cases bk <;> simp [Jn.body, Jn.head, Jn.first, Jn.dec, be1, be_len, e1, seg_left, seg_skip, seg_nil, seg_all, val_nil, q1, q4, v1, v2, hl]
    · obtain rfl : v = 0 := by omega
      simp [Jn.body, Jn.head, Jn.first, Jn.dec, be1, be_len, e1, seg_left, seg_skip, seg_nil, seg_all, val_nil, q1, q4, v1, v2, hl]
  · cases h
theorem Ds.rt {x : Ds} (hw : x.W) {l : List UInt8} (h : x.enc = some l) : Ds.dec l = .ok x := by
  unfold Ds.enc at h
  split at h
  · rename_i hm
    cases h
    obtain ⟨fin, ha, la, ack, hM, ld, dsn, ssn, len, hs, sum⟩ := x
    simp only [Ds.may, Ds.b1, Ds.b2, Ds.b3, Bool.and_eq_true, decide_eq_true_eq, Bool.not_eq_true'] at hm
    obtain ⟨⟨⟨m1, m2⟩, m3⟩, h1, h2⟩ := hm
    obtain ⟨w1, w2, w3, w4⟩ := hw
    simp only at *
    obtain ⟨len, rfl⟩ := Int.eq_ofNat_of_zero_le h1
    have e1 : ∀ n, n < 256 → (UInt8.ofNat n).toNat = n := fun n => ofNat_toNat
    have q5 : len < 256 ^ 2 := by omega
    have v3 := val_be' w3
    have v4 := val_be' w4
    have v5 := val_be' q5
    have va : val (be ack (wide la)) = ack := by
      cases la with
      | true => exact val_be' w1
      | false => exact val_be' (by simp at m3; show ack < 256 ^ 4; omega)
    have vd : val (be dsn (wide ld)) = dsn := by
      cases ld with
      | true => exact val_be' w2
      | false => exact val_be' (by simp at m3; show dsn < 256 ^ 4; omega)
    cases ha <;> cases hM
    · simp at m1
    · cases la <;> cases fin <;> cases ld <;> cases hs <;> simp [wide] at m1 va vd <;>
        simp [Ds.body, Ds.bits, Ds.dec, be1, be_len, e1, seg_left, seg_skip, seg_nil, seg_all, seg_zero, val_nil, wide, v3, v4, v5, vd, m1]
    · cases la <;> cases fin <;> cases ld <;> cases hs <;> simp [wide] at m1 m2 va vd <;>
        simp [Ds.body, Ds.bits, Ds.dec, be1, be_len, e1, seg_left, seg_skip, seg_nil, seg_all, seg_zero, val_nil, wide, v3, v4, v5, va, m1, m2]
      all_goals omega
    · cases la <;> cases fin <;> cases ld <;> cases hs <;> simp [wide] at m1 m2 va vd <;>
        simp [Ds.body, Ds.bits, Ds.dec, be1, be_len, e1, seg_left, seg_skip, seg_nil, seg_all, seg_zero, val_nil, wide, v3, v4, v5, va, vd, m1]
  · cases h
theorem Ad.rt {x : Ad} {l : List UInt8} (h : x.enc = some l) : Ad.dec l = .ok x := by
  unfold Ad.enc at h
  split at h
  · rename_i hm
    cases h
    obtain ⟨ec, id, ip, hp, port, mac⟩ := x
    simp only [Ad.may, Bool.and_eq_true, decide_eq_true_eq] at hm
    obtain ⟨⟨⟨⟨⟨h1, h2⟩, hi⟩, h3, h4⟩, hp0⟩, hmac⟩ := hm
    obtain ⟨v, rfl⟩ := Int.eq_ofNat_of_zero_le h1
    obtain ⟨port, rfl⟩ := Int.eq_ofNat_of_zero_le h3
    have e1 : ∀ n, n < 256 → (UInt8.ofNat n).toNat = n := fun n => ofNat_toNat
    have q1 : v % 256 = v := by omega
    have q4 : v < 256 := by omega
    have q5 : port < 256 ^ 2 := by omega
    have v5 := val_be' q5
    cases ec with
    | true =>
      obtain rfl : mac = [] := by simpa using hmac
      rcases hi with hi | hi <;> cases hp <;> simp at hp0 <;> (try subst hp0) <;> simp [Ad.body, Ad.dec, be1, be_len, e1, seg_left, seg_skip, seg_nil, seg_all, seg_zero, val_nil, q1, q4, v5, hi]
    | false =>
      have hm8 : mac.length = 8 := by simpa using hmac
      rcases hi with hi | hi <;> cases hp <;> simp at hp0 <;> (try subst hp0) <;> simp [Ad.body, Ad.dec, be1, be_len, e1, seg_left, seg_skip, seg_nil, seg_all, seg_zero, val_nil, q1, q4, v5, hi, hm8]
  · cases h
theorem rem_rt {x l : List UInt8} (h : remE x = some l) : remD l = .ok x := by
  unfold remE at h
  split at h
  · rename_i hm
    cases h
    simp [remD, hm.1, hm.2]
  · cases h
theorem prio_rt (b : Bool) : prioD (prioE b) = .ok b := by cases b <;> rfl
theorem big_rt {k n : Nat} (hk : k < 16) (h : n < 256 ^ 8) : bigD k (bigE k n) = .ok n := by
  have hl := be_len n 8
  have e : bigE k n = UInt8.ofNat (k * 16) :: UInt8.ofNat 0 :: be n 8 := by
    have : k * 4096 / 256 % 256 = k * 16 := by omega
    simp only [bigE, be, Nat.pow_one, Nat.pow_zero, Nat.div_one, this, show k * 4096 % 256 = 0 by omega]
    rfl
  have e1 : (UInt8.ofNat (k * 16)).toNat = k * 16 := ofNat_toNat (by omega)
  have e2 : seg (UInt8.ofNat 0 :: be n 8) 1 8 = be n 8 := by
    show (be n 8).take 8 = _
    exact List.take_of_length_le (by omega)
  simp only [e, bigD, e1, List.length_cons, hl, e2, val_be' h, show k * 16 / 16 = k by omega]
  simp
theorem rst_rt {f r : Int} {l : List UInt8} (h : rstE f r = some l) : rstD l = .ok (f, r) := by
  unfold rstE at h
  split at h
  · rename_i hm
    cases h
    obtain ⟨f, rfl⟩ := Int.eq_ofNat_of_zero_le hm.1
    obtain ⟨r, rfl⟩ := Int.eq_ofNat_of_zero_le hm.2.2.1
    have e1 : ∀ n, n < 256 → (UInt8.ofNat n).toNat = n := fun n => ofNat_toNat
    have a1 : (32768 + f * 256 + r) / 256 % 256 = 128 + f := by omega
    have a2 : (32768 + f * 256 + r) % 256 = r := by omega
    have e2 := e1 (128 + f) (by omega)
    have e3 := e1 r (by omega)
    simp only [be, Int.toNat_natCast, Nat.pow_one, Nat.pow_zero, Nat.div_one, a1, a2, rstD, e2, e3]
    rw [if_neg (by omega)]
    simp
    omega
  · cases h
theorem Cap.hi {l : List UInt8} {x : Cap} (h : Cap.dec l = .ok x) : ∃ a r, l = a :: r ∧ a.toNat / 16 = 0 := by
  cases l with
  | nil => cases h
  | cons a s => exact ⟨a, s, rfl, Decidable.byContradiction fun q => by simp [Cap.dec, q] at h⟩
theorem Jn.hi {l : List UInt8} {x : Jn} (h : Jn.dec l = .ok x) : ∃ a r, l = a :: r ∧ a.toNat / 16 = 1 := by
  cases l with
  | nil => cases h
  | cons a s => exact ⟨a, s, rfl, Decidable.byContradiction fun q => by simp [Jn.dec, q] at h⟩
theorem Ds.hi {l : List UInt8} {x : Ds} (h : Ds.dec l = .ok x) : ∃ a r, l = a :: r ∧ a.toNat / 16 = 2 := by
  cases l with
  | nil => cases h
  | cons a s => exact ⟨a, s, rfl, Decidable.byContradiction fun q => by simp [Ds.dec, q] at h⟩
theorem Ad.hi {l : List UInt8} {x : Ad} (h : Ad.dec l = .ok x) : ∃ a r, l = a :: r ∧ a.toNat / 16 = 3 := by
  cases l with
  | nil => cases h
  | cons a s => exact ⟨a, s, rfl, Decidable.byContradiction fun q => by simp [Ad.dec, q] at h⟩
theorem rem_hi {l x : List UInt8} (h : remD l = .ok x) : ∃ a r, l = a :: r ∧ a.toNat / 16 = 4 := by
  cases l with
  | nil => cases h
  | cons a s => exact ⟨a, s, rfl, Decidable.byContradiction fun q => by rw [remD, if_pos q] at h; cases h⟩
theorem prio_hi {l : List UInt8} {x : Bool} (h : prioD l = .ok x) : ∃ a r, l = a :: r ∧ a.toNat / 16 = 5 := by
  cases l with
  | nil => cases h
  | cons a s => exact ⟨a, s, rfl, Decidable.byContradiction fun q => by rw [prioD, if_pos q] at h; cases h⟩
theorem big_hi {k : Nat} {l : List UInt8} {x : Nat} (h : bigD k l = .ok x) : ∃ a r, l = a :: r ∧ a.toNat / 16 = k := by
  cases l with
  | nil => cases h
  | cons a s => exact ⟨a, s, rfl, Decidable.byContradiction fun q => by rw [bigD, if_pos q] at h; cases h⟩
theorem rst_hi {l : List UInt8} {x : Int × Int} (h : rstD l = .ok x) : ∃ a r, l = a :: r ∧ a.toNat / 16 = 8 := by
  cases l with
  | nil => cases h
  | cons a s => exact ⟨a, s, rfl, Decidable.byContradiction fun q => by simp [rstD, q] at h⟩
theorem Op.dec_at (a : UInt8) (s : List UInt8) : Op.dec 30 (a :: s) =
    if a.toNat / 16 = 0 then mapE (fun x => { Op.only 0 with cap := x }) (Cap.dec (a :: s))
    else if a.toNat / 16 = 1 then mapE (fun x => { Op.only 1 with jn := x }) (Jn.dec (a :: s))
    else if a.toNat / 16 = 2 then mapE (fun x => { Op.only 2 with ds := x }) (Ds.dec (a :: s))
    else if a.toNat / 16 = 3 then mapE (fun x => { Op.only 3 with ad := x }) (Ad.dec (a :: s))
    else if a.toNat / 16 = 4 then mapE (fun x => { Op.only 4 with ids := x }) (remD (a :: s))
    else if a.toNat / 16 = 5 then mapE (fun x => { Op.only 5 with prio := x }) (prioD (a :: s))
    else if a.toNat / 16 = 6 then mapE (fun x => { Op.only 6 with fail := x }) (bigD 6 (a :: s))
    else if a.toNat / 16 = 7 then mapE (fun x => { Op.only 7 with fast := x }) (bigD 7 (a :: s))
    else if a.toNat / 16 = 8 then mapE (fun x => { Op.only 8 with rf := x.1, rr := x.2 }) (rstD (a :: s))
    else .error 7 := rfl
theorem Op.d0 {l : List UInt8} {x : Cap} (h : Cap.dec l = .ok x) : Op.dec 30 l = .ok { Op.only 0 with cap := x } := by obtain ⟨a, r, rfl, k⟩ := Cap.hi h; rw [Op.dec_at, k, h]; rfl
theorem Op.d1 {l : List UInt8} {x : Jn} (h : Jn.dec l = .ok x) : Op.dec 30 l = .ok { Op.only 1 with jn := x } := by obtain ⟨a, r, rfl, k⟩ := Jn.hi h; rw [Op.dec_at, k, h]; rfl
theorem Op.d2 {l : List UInt8} {x : Ds} (h : Ds.dec l = .ok x) : Op.dec 30 l = .ok { Op.only 2 with ds := x } := by obtain ⟨a, r, rfl, k⟩ := Ds.hi h; rw [Op.dec_at, k, h]; rfl
theorem Op.d3 {l : List UInt8} {x : Ad} (h : Ad.dec l = .ok x) : Op.dec 30 l = .ok { Op.only 3 with ad := x } := by obtain ⟨a, r, rfl, k⟩ := Ad.hi h; rw [Op.dec_at, k, h]; rfl
theorem Op.d4 {l x : List UInt8} (h : remD l = .ok x) : Op.dec 30 l = .ok { Op.only 4 with ids := x } := by obtain ⟨a, r, rfl, k⟩ := rem_hi h; rw [Op.dec_at, k, h]; rfl
theorem Op.d5 {l : List UInt8} {x : Bool} (h : prioD l = .ok x) : Op.dec 30 l = .ok { Op.only 5 with prio := x } := by obtain ⟨a, r, rfl, k⟩ := prio_hi h; rw [Op.dec_at, k, h]; rfl
theorem Op.d6 {l : List UInt8} {x : Nat} (h : bigD 6 l = .ok x) : Op.dec 30 l = .ok { Op.only 6 with fail := x } := by obtain ⟨a, r, rfl, k⟩ := big_hi h; rw [Op.dec_at, k, h]; rfl
theorem Op.d7 {l : List UInt8} {x : Nat} (h : bigD 7 l = .ok x) : Op.dec 30 l = .ok { Op.only 7 with fast := x } := by obtain ⟨a, r, rfl, k⟩ := big_hi h; rw [Op.dec_at, k, h]; rfl
theorem Op.d8 {l : List UInt8} {x : Int × Int} (h : rstD l = .ok x) : Op.dec 30 l = .ok { Op.only 8 with rf := x.1, rr := x.2 } := by obtain ⟨a, r, rfl, k⟩ := rst_hi h; rw [Op.dec_at, k, h]; rfl
theorem Op.has0 {x : Op} (h : x.sub = 0) : x.has = { Op.only 0 with cap := x.cap } := by rw [Op.has, h]; rfl
theorem Op.has1 {x : Op} (h : x.sub = 1) : x.has = { Op.only 1 with jn := x.jn } := by rw [Op.has, h]; rfl
theorem Op.has2 {x : Op} (h : x.sub = 2) : x.has = { Op.only 2 with ds := x.ds } := by rw [Op.has, h]; rfl
theorem Op.has3 {x : Op} (h : x.sub = 3) : x.has = { Op.only 3 with ad := x.ad } := by rw [Op.has, h]; rfl
theorem Op.has4 {x : Op} (h : x.sub = 4) : x.has = { Op.only 4 with ids := x.ids } := by rw [Op.has, h]; rfl
theorem Op.has5 {x : Op} (h : x.sub = 5) : x.has = { Op.only 5 with prio := x.prio } := by rw [Op.has, h]; rfl
theorem Op.has6 {x : Op} (h : x.sub = 6) : x.has = { Op.only 6 with fail := x.fail } := by rw [Op.has, h]; rfl
theorem Op.has7 {x : Op} (h : x.sub = 7) : x.has = { Op.only 7 with fast := x.fast } := by rw [Op.has, h]; rfl
theorem Op.has8 {x : Op} (h : x.sub = 8) : x.has = { Op.only 8 with rf := x.rf, rr := x.rr } := by rw [Op.has, h]; rfl
theorem Op.rt {x : Op} (hw : x.W) {l : List UInt8} (h : x.enc = some l) : Op.dec 30 l = .ok x := by
  unfold Op.enc at h
  split at h
  · rename_i hh
    unfold Op.lay at h
    split at h
    · rename_i k
      rw [Op.has0 k] at hh
      rw [Op.d0 (Cap.rt hw.cap h), ← hh]
    split at h
    · rename_i k
      rw [Op.has1 k] at hh
      rw [Op.d1 (Jn.rt hw.jn h), ← hh]
    split at h
    · rename_i k
      rw [Op.has2 k] at hh
      rw [Op.d2 (Ds.rt hw.ds h), ← hh]
    split at h
    · rename_i k
      rw [Op.has3 k] at hh
      rw [Op.d3 (Ad.rt h), ← hh]
    split at h
    · rename_i k
      rw [Op.has4 k] at hh
      rw [Op.d4 (rem_rt h), ← hh]
    split at h
    · rename_i k
      rw [Op.has5 k] at hh
      cases h
      rw [Op.d5 (prio_rt _), ← hh]
    split at h
    · rename_i k
      rw [Op.has6 k] at hh
      cases h
      rw [Op.d6 (big_rt (by decide) hw.fail), ← hh]
    split at h
    · rename_i k
      rw [Op.has7 k] at hh
      cases h
      rw [Op.d7 (big_rt (by decide) hw.fast), ← hh]
    split at h
    · rename_i k
      rw [Op.has8 k] at hh
      rw [Op.d8 (rst_rt h), ← hh]
    · cases h
  · cases h


/-! ### Each body, here and back -/
theorem val_p (r : List UInt8) (i n : Nat) : val (seg r i n) < 256 ^ n := Nat.lt_of_lt_of_le (val_lt _) (Nat.pow_le_pow_right (by decide) (by simp [seg]; omega))
theorem ofN (a : UInt8) : UInt8.ofNat a.toNat = a := by simp
theorem Cap.canon {t : List UInt8} {x : Cap} (h : Cap.dec t = .ok x) : x.W ∧ ∃ l, x.enc = some l ∧ subB l t := by
  match t, h with
  | [a], h =>
    simp only [Cap.dec] at h
    split at h <;> cases h
  | a :: b :: r, h =>
    have ha := a.toNat_lt
    simp only [Cap.dec] at h
    split at h
    · cases h
    rename_i h0
    split at h
    case isFalse => cases h
    rename_i hl
    split at h
    · cases h
    rename_i h1
    cases h
    have z0 : ∀ i n, r.length ≤ i → val (seg r i n) = 0 := fun i n q => by rw [seg_nil _ _ _ q]; rfl
    have am : a.toNat % 16 = a.toNat := by omega
    have am2 : a.toNat % 256 = a.toNat := by omega
    have q3 : a.toNat < 16 := by omega
    refine ⟨⟨val_p _ _ _, val_p _ _ _, val_p _ _ _⟩, ?_⟩
    have hfl : ∀ b : UInt8, b.toNat % 2 ≠ 0 → (UInt8.ofNat ((1 + (if decide (b.toNat / 128 % 2 = 1) = true then 128 else 0) + (if decide (b.toNat / 32 % 2 = 1) = true then 32 else 0)) % 256)) &&& ~~~b = 0 := by
      apply allB; decide
    have hf := hfl b h1
    have hp := val_p r 16 2
    generalize decide (b.toNat / 128 % 2 = 1) = s at hf ⊢
    generalize decide (b.toNat / 32 % 2 = 1) = al at hf ⊢
    have key : ∀ rest : List UInt8, rest = r → subB (a :: UInt8.ofNat ((1 + (if s = true then 128 else 0) + (if al = true then 32 else 0)) % 256) :: rest) (a :: b :: r) := fun rest e => by rw [e]; exact .cons (and_self_not a) (.cons hf (.refl r))
    rcases hl with hl | hl | hl | hl | hl
    · have z1 := z0 0 8 (by omega)
      have z2 := z0 8 8 (by omega)
      have z3 := z0 16 2 (by omega)
      have z4 := z0 18 2 (by omega)
      refine ⟨_, if_pos ?_, ?_⟩
      · simp [Cap.may, Cap.lacks, be1, hl, z1, z2, z3, z4, am, am2, ofN]; omega
      · simp [Cap.body, Cap.flags, be1, hl, z1, z2, z3, z4, am, am2, ofN]
        simpa using key [] (by rw [List.length_eq_zero_iff.1 hl])
    · have z2 := z0 8 8 (by omega)
      have z3 := z0 16 2 (by omega)
      have z4 := z0 18 2 (by omega)
      have s1 := be_val (seg r 0 8) (seg_len r 0 8 (by omega))
      refine ⟨_, if_pos ?_, ?_⟩
      · simp [Cap.may, Cap.lacks, be1, hl, z2, z3, z4, am, am2, ofN, s1]; omega
      · simp [Cap.body, Cap.flags, be1, hl, z2, z3, z4, am, am2, ofN, s1]
        simpa using key _ (seg_all r 8 hl)
    · have z3 := z0 16 2 (by omega)
      have z4 := z0 18 2 (by omega)
      have s1 := be_val (seg r 0 8) (seg_len r 0 8 (by omega))
      have s2 := be_val (seg r 8 8) (seg_len r 8 8 (by omega))
      refine ⟨_, if_pos ?_, ?_⟩
      · simp [Cap.may, Cap.lacks, be1, hl, z3, z4, am, am2, ofN, s1, s2]; omega
      · simp [Cap.body, Cap.flags, be1, hl, z3, z4, am, am2, ofN, s1, s2]
        simpa using key _ ((seg_cat r 0 8 8).trans (seg_all r 16 hl))
    · have z4 := z0 18 2 (by omega)
      have s1 := be_val (seg r 0 8) (seg_len r 0 8 (by omega))
      have s2 := be_val (seg r 8 8) (seg_len r 8 8 (by omega))
      have s3 := be_val (seg r 16 2) (seg_len r 16 2 (by omega))
      have cat : seg r 0 8 ++ (seg r 8 8 ++ seg r 16 2) = r := by rw [seg_cat r 8 8 2, seg_cat r 0 8 10]; exact seg_all r 18 hl
      refine ⟨_, if_pos ?_, ?_⟩
      · simp [Cap.may, Cap.lacks, be1, hl, z4, am, am2, ofN, s1, s2, s3]; omega
      · simp [Cap.body, Cap.flags, be1, hl, z4, am, am2, ofN, s1, s2, s3]
        simpa using key _ cat
    · have s1 := be_val (seg r 0 8) (seg_len r 0 8 (by omega))
      have s2 := be_val (seg r 8 8) (seg_len r 8 8 (by omega))
      have s3 := be_val (seg r 16 2) (seg_len r 16 2 (by omega))
      have s4 := be_val (seg r 18 2) (seg_len r 18 2 (by omega))
      have cat : seg r 0 8 ++ (seg r 8 8 ++ (seg r 16 2 ++ seg r 18 2)) = r := by rw [seg_cat r 16 2 2, seg_cat r 8 8 4, seg_cat r 0 8 12]; exact seg_all r 20 hl
      refine ⟨_, if_pos ?_, ?_⟩
      · simp [Cap.may, Cap.lacks, be1, hl, am, am2, ofN, s1, s2, s3, s4]; omega
      · simp [Cap.body, Cap.flags, be1, hl, am, am2, ofN, s1, s2, s3, s4]
        simpa using key _ cat
theorem Jn.canon {t : List UInt8} {x : Jn} (h : Jn.dec t = .ok x) : x.W ∧ ∃ l, x.enc = some l ∧ subB l t := by
  match t, h with
  | [a], h =>
    simp only [Jn.dec] at h
    split at h <;> cases h
  | a :: b :: r, h =>
    have ha := a.toNat_lt
    have hb := b.toNat_lt
    simp only [Jn.dec] at h
    split at h
    · cases h
    rename_i h0
    have bm2 : b.toNat % 256 = b.toNat := by omega
    have hfl : ∀ a : UInt8, a.toNat / 16 = 1 → (UInt8.ofNat ((if decide (a.toNat % 2 = 1) = true then 17 else 16) % 256)) &&& ~~~a = 0 ∧ UInt8.ofNat (16 % 256) &&& ~~~a = 0 := by
      apply allB; decide
    obtain ⟨hf, hf2⟩ := hfl a (by omega)
    generalize decide (a.toNat % 2 = 1) = s at h hf
    split at h
    · rename_i hl
      cases h
      have s1 := be_val (seg r 0 4) (seg_len r 0 4 (by omega))
      have s2 := be_val (seg r 4 4) (seg_len r 4 4 (by omega))
      have cat : seg r 0 4 ++ seg r 4 4 = r := by rw [seg_cat r 0 4 4]; exact seg_all r 8 hl
      refine ⟨⟨val_p _ _ _, val_p _ _ _, by simp⟩, ?_⟩
      refine ⟨_, if_pos ?_, ?_⟩
      · simp [Jn.may, be1, bm2, ofN, s1, s2, cat]; omega
      · simp [Jn.body, Jn.head, Jn.first, be1, bm2, ofN, s1, s2, cat]
        simpa using subB.cons hf (.refl (b :: r))
    split at h
    · rename_i hl
      cases h
      have s2 := be_val (seg r 8 4) (seg_len r 8 4 (by omega))
      have cat : seg r 0 8 ++ seg r 8 4 = r := by rw [seg_cat r 0 8 4]; exact seg_all r 12 hl
      have l8 := seg_len r 0 8 (by omega)
      refine ⟨⟨by simp, val_p _ _ _, by show (seg r 0 8).length < _; omega⟩, ?_⟩
      refine ⟨_, if_pos ?_, ?_⟩
      · simp [Jn.may, be1, bm2, ofN, s2, cat, l8]; omega
      · simp [Jn.body, Jn.head, Jn.first, be1, bm2, ofN, s2, cat, l8]
        simpa using subB.cons hf (.refl (b :: r))
    split at h
    · rename_i hl
      cases h
      refine ⟨⟨by simp, by simp, by show r.length < _; omega⟩, ?_⟩
      simp [Jn.enc, Jn.may, Jn.body, Jn.head, Jn.first, be1, bm2, ofN, hl]
      have hz : (0 : UInt8) &&& ~~~b = 0 := by simp
      exact subB.cons hf2 (.cons hz (.refl r))
    · cases h
theorem Ds.canon {t : List UInt8} {x : Ds} (h : Ds.dec t = .ok x) : x.W ∧ ∃ l, x.enc = some l ∧ subB l t := by
  match t, h with
  | [a], h =>
    simp only [Ds.dec] at h
    split at h <;> cases h
  | a :: b :: r, h =>
    have ha := a.toNat_lt
    have hb := b.toNat_lt
    simp only [Ds.dec] at h
    split at h
    · cases h
    rename_i h0
    have hf0 : ∀ a : UInt8, a.toNat / 16 = 2 → (32 : UInt8) &&& ~~~a = 0 := by apply allB; decide
    have hf := hf0 a (by omega)
    have hfl : ∀ b : UInt8, (UInt8.ofNat (((if decide (b.toNat % 2 = 1) = true then 1 else 0) + (if (decide (b.toNat % 2 = 1) && decide (b.toNat / 2 % 2 = 1)) = true then 2 else 0) + (if decide (b.toNat / 4 % 2 = 1) = true then 4 else 0) + (if (decide (b.toNat / 4 % 2 = 1) && decide (b.toNat / 8 % 2 = 1)) = true then 8 else 0) + (if (decide (b.toNat / 4 % 2 = 1) && decide (b.toNat / 16 % 2 = 1)) = true then 16 else 0)) % 256)) &&& ~~~b = 0 := by
      apply allB; decide
    have hg := hfl b
    generalize decide (b.toNat % 2 = 1) = hA at h hg
    generalize decide (b.toNat / 2 % 2 = 1) = la at h hg
    generalize decide (b.toNat / 4 % 2 = 1) = hM at h hg
    generalize decide (b.toNat / 8 % 2 = 1) = ld at h hg
    generalize decide (b.toNat / 16 % 2 = 1) = fin at h hg
    by_cases h1 : (!hA && !hM) = true
    · rw [if_pos h1] at h; cases h
    rw [if_neg h1] at h
    have hkw : (if hA = true then wide (hA && la) else 0) ≤ 8 := by cases hA <;> cases la <;> decide
    have hww : (if hM = true then wide (hM && ld) else 0) ≤ 8 := by cases hM <;> cases ld <;> decide
    generalize hkk : (if hA = true then wide (hA && la) else 0) = k at h hkw
    generalize hwk : (if hM = true then wide (hM && ld) else 0) = w at h hww
    generalize hmk : (if hM = true then 6 else 0) = m at h
    by_cases h2 : r.length < k + w + m
    · rw [if_pos h2] at h; cases h
    rw [if_neg h2] at h
    by_cases hl : r.length = k + w + m ∨ hM = true ∧ r.length = k + w + m + 2
    case neg => rw [if_neg hl] at h; cases h
    rw [if_pos hl] at h
    cases h
    refine ⟨⟨Nat.lt_of_lt_of_le (val_p _ _ _) (Nat.pow_le_pow_right (by decide) hkw), Nat.lt_of_lt_of_le (val_p _ _ _) (Nat.pow_le_pow_right (by decide) hww), val_p _ _ _, val_p _ _ _⟩, ?_⟩
    have key : ∀ rest : List UInt8, rest = r → ∀ n, n = ((if hA = true then 1 else 0) + (if (hA && la) = true then 2 else 0) + (if hM = true then 4 else 0) + (if (hM && ld) = true then 8 else 0) + (if (hM && fin) = true then 16 else 0)) → subB (32 :: UInt8.ofNat (n % 256) :: rest) (a :: b :: r) := fun rest e n e2 => by rw [e, e2]; exact .cons hf (.cons hg (.refl r))
    have z0 : ∀ i n, r.length ≤ i → val (seg r i n) = 0 := fun i n q => by rw [seg_nil _ _ _ q]; rfl
    cases hM with
    | false =>
      cases hA with
      | false => simp at h1
      | true =>
        obtain rfl : wide la = k := hkk
        obtain rfl : 0 = w := hwk
        obtain rfl : 0 = m := hmk
        have hk : r.length = wide la := by simpa using hl
        have hz := z0 (wide la) 0 (by omega)
        have z1 := z0 (wide la) 4 (by omega)
        have z2 := z0 (wide la + 4) 2 (by omega)
        have z3 := z0 (wide la + 6) 2 (by omega)
        have s1 := be_val (seg r 0 (wide la)) (seg_len r 0 (wide la) (by omega))
        have p1 := val_p r 0 (wide la)
        refine ⟨_, if_pos ?_, ?_⟩
        · simp [Ds.may, Ds.b1, Ds.b2, Ds.b3, hz, z1, z2, z3, hk]
          cases la with
          | true => exact .inl rfl
          | false => exact .inr p1
        · simp [Ds.body, Ds.bits, be1, s1, hz, z1, z2, z3, hk]
          exact key _ (seg_all r _ hk) _ (by cases la <;> rfl)
    | true =>
      obtain rfl : wide ld = w := hwk
      obtain rfl : 6 = m := hmk
      simp only [Bool.true_and, true_and] at h2 hl key ⊢
      have s2 := be_val (seg r k (wide ld)) (seg_len r k (wide ld) (by omega))
      have s3 := be_val (seg r (k + wide ld) 4) (seg_len r _ 4 (by omega))
      have s4 := be_val (seg r (k + wide ld + 4) 2) (seg_len r _ 2 (by omega))
      have p1 := val_p r 0 k
      have p2 := val_p r k (wide ld)
      have p4 := val_p r (k + wide ld + 4) 2
      have s1 : (if hA = true then be (val (seg r 0 k)) (wide (hA && la)) else []) = seg r 0 k := by
        cases hA with
        | false => subst hkk; simp [seg_zero]
        | true => rw [if_pos rfl]; rw [if_pos rfl] at hkk; rw [hkk]; exact be_val _ (seg_len r 0 k (by omega))
      have m1 : hA = false → k = 0 := by rintro rfl; exact hkk.symm
      have m2 : (hA && la) = false → val (seg r 0 k) < 4294967296 := by
        intro q
        have : k ≤ 4 := by rw [← hkk, q]; split <;> decide
        exact Nat.lt_of_lt_of_le p1 (Nat.pow_le_pow_right (by decide) this)
      have m3 : ld = false → val (seg r k (wide ld)) < 4294967296 := by rintro rfl; exact p2
      rcases hl with hl | hl
      · have z3 := z0 (k + wide ld + 6) 2 (by omega)
        have cat : seg r 0 k ++ (seg r k (wide ld) ++ (seg r (k + wide ld) 4 ++ seg r (k + wide ld + 4) 2)) = r := by
          have c1 := seg_cat r (k + wide ld) 4 2
          have c2 := seg_cat r k (wide ld) (4 + 2)
          have c3 := seg_cat r 0 k (wide ld + (4 + 2))
          rw [Nat.zero_add] at c3
          rw [c1, c2, c3]; exact seg_all r _ (by omega)
        refine ⟨_, if_pos ?_, ?_⟩
        · simp [Ds.may, Ds.b1, Ds.b2, Ds.b3, hl, z3]
          refine ⟨⟨?_, ?_⟩, ?_⟩
          · cases hA with
            | false => have := m1 rfl; subst this; simp [seg_zero, val_nil]
            | true => simp
          · exact ⟨by cases hA <;> cases la <;> simp at m2 ⊢ <;> exact m2, by cases ld <;> simp at m3 ⊢; exact m3⟩
          · omega
        · simp [Ds.body, Ds.bits, be1, s1, s2, s3, s4, hl, z3]
          exact key _ cat _ (by simp)
      · have s5 := be_val (seg r (k + wide ld + 6) 2) (seg_len r _ 2 (by omega))
        have cat : seg r 0 k ++ (seg r k (wide ld) ++ (seg r (k + wide ld) 4 ++ (seg r (k + wide ld + 4) 2 ++ seg r (k + wide ld + 6) 2))) = r := by
          have c0 := seg_cat r (k + wide ld + 4) 2 2
          have c1 := seg_cat r (k + wide ld) 4 (2 + 2)
          have c2 := seg_cat r k (wide ld) (4 + (2 + 2))
          have c3 := seg_cat r 0 k (wide ld + (4 + (2 + 2)))
          rw [Nat.zero_add] at c3
          rw [show k + wide ld + 6 = k + wide ld + 4 + 2 from rfl, c0, c1, c2, c3]; exact seg_all r _ (by omega)
        have hne : ¬ r.length = k + wide ld + 6 := by omega
        refine ⟨_, if_pos ?_, ?_⟩
        · simp [Ds.may, Ds.b1, Ds.b2, Ds.b3, hl]
          refine ⟨⟨?_, ?_⟩, ?_⟩
          · cases hA with
            | false => have := m1 rfl; subst this; simp [seg_zero, val_nil]
            | true => simp
          · exact ⟨by cases hA <;> cases la <;> simp at m2 ⊢ <;> exact m2, by cases ld <;> simp at m3 ⊢; exact m3⟩
          · omega
        · simp [Ds.body, Ds.bits, be1, s1, s2, s3, s4, s5, hl]
          exact key _ cat _ (by simp)

theorem Ad.canon {t : List UInt8} {x : Ad} (h : Ad.dec t = .ok x) (hl : t.length < 1000) : x.W ∧ ∃ l, x.enc = some l ∧ subB l t := by
  match t, h, hl with
  | [a], h, _ =>
    simp only [Ad.dec] at h
    split at h <;> cases h
  | a :: b :: r, h, hl =>
    have hb := b.toNat_lt
    simp only [Ad.dec] at h
    split at h
    · cases h
    rename_i h0
    have bm2 : b.toNat % 256 = b.toNat := by omega
    have hfl : ∀ a : UInt8, a.toNat / 16 = 3 → (UInt8.ofNat ((if decide (a.toNat % 2 = 1) = true then 49 else 48) % 256)) &&& ~~~a = 0 := by
      apply allB; decide
    have hf := hfl a (by omega)
    generalize decide (a.toNat % 2 = 1) = ec at h hf
    have hr : r.length < 1000 := by simp at hl; omega
    have sw : ∀ i n, (seg r i n).length < 100000 := fun i n => by simp [seg]; omega
    have key : ∀ rest : List UInt8, rest = r → subB (UInt8.ofNat ((if ec = true then 49 else 48) % 256) :: b :: rest) (a :: b :: r) := fun rest e => by rw [e]; exact .cons hf (.refl _)
    have hm : ∀ q, q + (if ec = true then 0 else 8) = r.length → (seg r q (if ec = true then 0 else 8)).length = (if ec = true then 0 else 8) := fun q e => seg_len r q _ (by omega)
    generalize hmm : (if ec = true then 0 else 8) = m at h hm
    split at h
    · rename_i hl
      cases h
      have l4 := seg_len r 0 4 (by omega)
      have lm := hm 4 (by omega)
      refine ⟨⟨sw _ _, sw _ _⟩, _, if_pos ?_, ?_⟩
      · simp [Ad.may, l4, lm, hmm]; omega
      · simp [Ad.body, be1, bm2, ofN]
        have := key _ ((seg_cat r 0 4 m).trans (seg_all r _ (by omega)))
        simpa using this
    split at h
    · rename_i hl
      cases h
      have l4 := seg_len r 0 4 (by omega)
      have lm := hm 6 (by omega)
      have s2 := be_val (seg r 4 2) (seg_len r 4 2 (by omega))
      have p2 := val_p r 4 2
      have cat : seg r 0 4 ++ (seg r 4 2 ++ seg r 6 m) = r := by
        rw [seg_cat r 4 2 m, seg_cat r 0 4 (2 + m)]; exact seg_all r _ (by omega)
      refine ⟨⟨sw _ _, sw _ _⟩, _, if_pos ?_, ?_⟩
      · simp [Ad.may, l4, lm, hmm]; omega
      · simp [Ad.body, be1, bm2, ofN, s2]
        simpa using key _ cat
    split at h
    · rename_i hl
      cases h
      have l4 := seg_len r 0 16 (by omega)
      have lm := hm 16 (by omega)
      refine ⟨⟨sw _ _, sw _ _⟩, _, if_pos ?_, ?_⟩
      · simp [Ad.may, l4, lm, hmm]; omega
      · simp [Ad.body, be1, bm2, ofN]
        have := key _ ((seg_cat r 0 16 m).trans (seg_all r _ (by omega)))
        simpa using this
    split at h
    · rename_i hl
      cases h
      have l4 := seg_len r 0 16 (by omega)
      have lm := hm 18 (by omega)
      have s2 := be_val (seg r 16 2) (seg_len r 16 2 (by omega))
      have p2 := val_p r 16 2
      have cat : seg r 0 16 ++ (seg r 16 2 ++ seg r 18 m) = r := by
        rw [seg_cat r 16 2 m, seg_cat r 0 16 (2 + m)]; exact seg_all r _ (by omega)
      refine ⟨⟨sw _ _, sw _ _⟩, _, if_pos ?_, ?_⟩
      · simp [Ad.may, l4, lm, hmm]; omega
      · simp [Ad.body, be1, bm2, ofN, s2]
        simpa using key _ cat
    · cases h
theorem rem_canon {t x : List UInt8} (h : remD t = .ok x) : x.length < 100000 ∧ ∃ l, remE x = some l ∧ subB l t := by
  match t, h with
  | a :: s, h =>
    simp only [remD] at h
    split at h
    · cases h
    rename_i h0
    split at h
    · rename_i hl
      cases h
      have hf : ∀ a : UInt8, a.toNat / 16 = 4 → (64 : UInt8) &&& ~~~a = 0 := by apply allB; decide
      exact ⟨by omega, _, if_pos hl, .cons (hf a (by omega)) (.refl _)⟩
    · cases h
theorem prio_canon {t : List UInt8} {x : Bool} (h : prioD t = .ok x) : subB (prioE x) t := by
  match t, h with
  | a :: s, h =>
    simp only [prioD] at h
    split at h
    · cases h
    rename_i h0
    split at h
    · rename_i hl
      cases h
      subst hl
      have hf : ∀ a : UInt8, a.toNat / 16 = 5 → UInt8.ofNat ((if decide (a.toNat % 2 = 1) = true then 81 else 80) % 256) &&& ~~~a = 0 := by apply allB; decide
      rw [prioE, be1]
      exact .cons (hf a (by omega)) (.refl _)
    · cases h
theorem big_canon {k : Nat} {t : List UInt8} {x : Nat} (hk : k = 6 ∨ k = 7) (h : bigD k t = .ok x) : x < 256 ^ 8 ∧ subB (bigE k x) t := by
  match t, h with
  | a :: s, h =>
    simp only [bigD] at h
    split at h
    · cases h
    rename_i h0
    split at h
    · cases h
    split at h
    · rename_i hl
      cases h
      match s, hl with
      | b :: r, hl =>
        have hr : r.length = 8 := by simpa using hl
        have e : seg (b :: r) 1 8 = r := seg_all r 8 hr
        have hz : (0 : UInt8) &&& ~~~b = 0 := by simp
        have hf : ∀ a : UInt8, (a.toNat / 16 = 6 → (96 : UInt8) &&& ~~~a = 0) ∧ (a.toNat / 16 = 7 → (112 : UInt8) &&& ~~~a = 0) := by apply allB; decide
        refine ⟨val_p _ _ _, ?_⟩
        rw [e, bigE, be_val r hr]
        rcases hk with rfl | rfl
        · exact .cons ((hf a).1 (by omega)) (.cons hz (.refl _))
        · exact .cons ((hf a).2 (by omega)) (.cons hz (.refl _))
    · cases h
theorem rst_canon {t : List UInt8} {x : Int × Int} (h : rstD t = .ok x) : ∃ l, rstE x.1 x.2 = some l ∧ subB l t := by
  match t, h with
  | [a], h =>
    simp only [rstD] at h
    split at h <;> cases h
  | a :: b :: r, h =>
    have hb := b.toNat_lt
    simp only [rstD] at h
    split at h
    · cases h
    rename_i h0
    split at h
    · rename_i hl
      cases h
      subst hl
      refine ⟨_, if_pos (by simp only; omega), ?_⟩
      have a1 : (32768 + a.toNat % 16 * 256 + b.toNat) / 256 % 256 = a.toNat := by omega
      have a2 : (32768 + a.toNat % 16 * 256 + b.toNat) % 256 = b.toNat := by omega
      simp only [be, Int.toNat_natCast, Nat.pow_one, Nat.pow_zero, Nat.div_one, a1, a2, ofN]
      exact .refl _
    · cases h
theorem Op.zw : Op.zero.W := ⟨⟨by decide, by decide, by decide⟩, ⟨by decide, by decide, by decide⟩, ⟨by decide, by decide, by decide, by decide⟩, ⟨by decide, by decide⟩, by decide, by decide, by decide⟩
theorem mapE_ok {α β : Type} {f : α → β} {r : Except Int α} {y : β} (h : mapE f r = .ok y) : ∃ x, r = .ok x ∧ y = f x := by
  cases r with
  | ok x => cases h; exact ⟨x, rfl, rfl⟩
  | error e => cases h
theorem Op.canon {t : List UInt8} {x : Op} (h : Op.dec 30 t = .ok x) (hl : t.length < 1000) : x.W ∧ ∃ l, x.enc = some l ∧ subB l t := by
  have z := Op.zw
  match t, h with
  | a :: s, h =>
    rw [Op.dec_at] at h
    split at h
    · obtain ⟨y, h1, rfl⟩ := mapE_ok h
      obtain ⟨w, l, k1, k2⟩ := Cap.canon h1
      exact ⟨⟨w, z.jn, z.ds, z.ad, z.ids, z.fail, z.fast⟩, l, (if_pos rfl).trans k1, k2⟩
    split at h
    · obtain ⟨y, h1, rfl⟩ := mapE_ok h
      obtain ⟨w, l, k1, k2⟩ := Jn.canon h1
      exact ⟨⟨z.cap, w, z.ds, z.ad, z.ids, z.fail, z.fast⟩, l, (if_pos rfl).trans k1, k2⟩
    split at h
    · obtain ⟨y, h1, rfl⟩ := mapE_ok h
      obtain ⟨w, l, k1, k2⟩ := Ds.canon h1
      exact ⟨⟨z.cap, z.jn, w, z.ad, z.ids, z.fail, z.fast⟩, l, (if_pos rfl).trans k1, k2⟩
    split at h
    · obtain ⟨y, h1, rfl⟩ := mapE_ok h
      obtain ⟨w, l, k1, k2⟩ := Ad.canon h1 hl
      exact ⟨⟨z.cap, z.jn, z.ds, w, z.ids, z.fail, z.fast⟩, l, (if_pos rfl).trans k1, k2⟩
    split at h
    · obtain ⟨y, h1, rfl⟩ := mapE_ok h
      obtain ⟨w, l, k1, k2⟩ := rem_canon h1
      exact ⟨⟨z.cap, z.jn, z.ds, z.ad, w, z.fail, z.fast⟩, l, (if_pos rfl).trans k1, k2⟩
    split at h
    · obtain ⟨y, h1, rfl⟩ := mapE_ok h
      exact ⟨⟨z.cap, z.jn, z.ds, z.ad, z.ids, z.fail, z.fast⟩, _, if_pos rfl, prio_canon h1⟩
    split at h
    · obtain ⟨y, h1, rfl⟩ := mapE_ok h
      obtain ⟨w, k⟩ := big_canon (.inl rfl) h1
      exact ⟨⟨z.cap, z.jn, z.ds, z.ad, z.ids, w, z.fast⟩, _, if_pos rfl, k⟩
    split at h
    · obtain ⟨y, h1, rfl⟩ := mapE_ok h
      obtain ⟨w, k⟩ := big_canon (.inr rfl) h1
      exact ⟨⟨z.cap, z.jn, z.ds, z.ad, z.ids, z.fail, w⟩, _, if_pos rfl, k⟩
    split at h
    · obtain ⟨y, h1, rfl⟩ := mapE_ok h
      obtain ⟨l, k1, k2⟩ := rst_canon h1
      exact ⟨⟨z.cap, z.jn, z.ds, z.ad, z.ids, z.fail, z.fast⟩, l, (if_pos rfl).trans k1, k2⟩
    · cases h
end Go.Proofs.YtigknpfjhegkgaaGreatDoor
end

section
/- The option of ends that are capable, read. -/
namespace Go.Proofs.YtigknpfjhegkgaaGreatDoor
open Go Go.AS
set_option maxRecDepth 100000
set_option linter.unusedSimpArgs false
set_option linter.unusedVariables false

theorem bi_eql (k : IntKind) (a b : Int) : binA .eql (.int k a) (.int k b) = some (.bool (decide (a = b))) := by simp [binA, beqd]
theorem bi_neq (k : IntKind) (a b : Int) : binA .neq (.int k a) (.int k b) = some (.bool (!decide (a = b))) := by simp [binA, bned]
theorem bi_lss (k : IntKind) (a b : Int) : binA .lss (.int k a) (.int k b) = some (.bool (decide (a < b))) := by simp [binA]
theorem bi_leq (k : IntKind) (a b : Int) : binA .leq (.int k a) (.int k b) = some (.bool (decide (a ≤ b))) := by simp [binA]
theorem bi_gtr (k : IntKind) (a b : Int) : binA .gtr (.int k a) (.int k b) = some (.bool (decide (b < a))) := by simp [binA]
theorem bi_geq (k : IntKind) (a b : Int) : binA .geq (.int k a) (.int k b) = some (.bool (decide (b ≤ a))) := by simp [binA]
theorem bi_add (k : IntKind) (a b : Int) : binA .add (.int k a) (.int k b) = some (.int k (k.wrap (a + b))) := by simp [binA]
theorem bi_sub (k : IntKind) (a b : Int) : binA .sub (.int k a) (.int k b) = some (.int k (k.wrap (a - b))) := by simp [binA]
theorem bs_eql (a b : List UInt8) : binA .eql (.string ⟨⟨a⟩⟩) (.string ⟨⟨b⟩⟩) = some (.bool (decide (a = b))) := by simp [binA]; rw [Bool.eq_iff_iff]; simp
theorem bs_neq (a b : List UInt8) : binA .neq (.string ⟨⟨a⟩⟩) (.string ⟨⟨b⟩⟩) = some (.bool (!decide (a = b))) := by simp [binA]; rw [Bool.eq_iff_iff]; simp
theorem bi_shr4 (n : Nat) : binA .shr (.int .u8 (n : Nat)) (.int .u64 4) = some (.int .u8 ((n / 16 : Nat))) := by
  simp only [binA]
  rw [if_neg (by decide)]
  have : ((n : Int)).fdiv (2 ^ min (Int.toNat 4) IntKind.u8.bits) = ((n / 16 : Nat) : Int) := by
    show ((n : Int)).fdiv 16 = _
    rw [Int.fdiv_eq_ediv_of_nonneg _ (by omega)]; omega
  rw [this]
theorem bm15 (a : UInt8) : binA .and (.int .u8 (a.toNat : Nat)) (.int .u8 15) = some (.int .u8 ((a.toNat % 16 : Nat))) := by
  have : ∀ a : UInt8, IntKind.u8.wrap (BitVec.ofInt 8 (a.toNat : Nat) &&& BitVec.ofInt 8 15).toNat = ((a.toNat % 16 : Nat) : Int) := by apply allB; decide
  have h := this a
  simp only [binA, ne_eq, not_true_eq_false, if_false]
  rw [← h]; rfl
def bitI (b : Bool) (n : Int) : Int := if b then n else 0
theorem bitI_z (b : Bool) (n : Int) (h : n ≠ 0) : (bitI b n = 0) ↔ b = false := by cases b <;> simp [bitI, h]
theorem bm1 (a : UInt8) : binA .and (.int .u8 (a.toNat : Nat)) (.int .u8 1) = some (.int .u8 (bitI (decide (a.toNat / 1 % 2 = 1)) 1)) := by
  have : ∀ a : UInt8, IntKind.u8.wrap (BitVec.ofInt 8 (a.toNat : Nat) &&& BitVec.ofInt 8 1).toNat = bitI (decide (a.toNat / 1 % 2 = 1)) 1 := by apply allB; decide
  have h := this a
  simp only [binA, ne_eq, not_true_eq_false, if_false]
  rw [← h]; rfl
theorem bm2 (a : UInt8) : binA .and (.int .u8 (a.toNat : Nat)) (.int .u8 2) = some (.int .u8 (bitI (decide (a.toNat / 2 % 2 = 1)) 2)) := by
  have : ∀ a : UInt8, IntKind.u8.wrap (BitVec.ofInt 8 (a.toNat : Nat) &&& BitVec.ofInt 8 2).toNat = bitI (decide (a.toNat / 2 % 2 = 1)) 2 := by apply allB; decide
  have h := this a
  simp only [binA, ne_eq, not_true_eq_false, if_false]
  rw [← h]; rfl
theorem bm4 (a : UInt8) : binA .and (.int .u8 (a.toNat : Nat)) (.int .u8 4) = some (.int .u8 (bitI (decide (a.toNat / 4 % 2 = 1)) 4)) := by
  have : ∀ a : UInt8, IntKind.u8.wrap (BitVec.ofInt 8 (a.toNat : Nat) &&& BitVec.ofInt 8 4).toNat = bitI (decide (a.toNat / 4 % 2 = 1)) 4 := by apply allB; decide
  have h := this a
  simp only [binA, ne_eq, not_true_eq_false, if_false]
  rw [← h]; rfl
theorem bm8 (a : UInt8) : binA .and (.int .u8 (a.toNat : Nat)) (.int .u8 8) = some (.int .u8 (bitI (decide (a.toNat / 8 % 2 = 1)) 8)) := by
  have : ∀ a : UInt8, IntKind.u8.wrap (BitVec.ofInt 8 (a.toNat : Nat) &&& BitVec.ofInt 8 8).toNat = bitI (decide (a.toNat / 8 % 2 = 1)) 8 := by apply allB; decide
  have h := this a
  simp only [binA, ne_eq, not_true_eq_false, if_false]
  rw [← h]; rfl
theorem bm16 (a : UInt8) : binA .and (.int .u8 (a.toNat : Nat)) (.int .u8 16) = some (.int .u8 (bitI (decide (a.toNat / 16 % 2 = 1)) 16)) := by
  have : ∀ a : UInt8, IntKind.u8.wrap (BitVec.ofInt 8 (a.toNat : Nat) &&& BitVec.ofInt 8 16).toNat = bitI (decide (a.toNat / 16 % 2 = 1)) 16 := by apply allB; decide
  have h := this a
  simp only [binA, ne_eq, not_true_eq_false, if_false]
  rw [← h]; rfl
theorem bm32 (a : UInt8) : binA .and (.int .u8 (a.toNat : Nat)) (.int .u8 32) = some (.int .u8 (bitI (decide (a.toNat / 32 % 2 = 1)) 32)) := by
  have : ∀ a : UInt8, IntKind.u8.wrap (BitVec.ofInt 8 (a.toNat : Nat) &&& BitVec.ofInt 8 32).toNat = bitI (decide (a.toNat / 32 % 2 = 1)) 32 := by apply allB; decide
  have h := this a
  simp only [binA, ne_eq, not_true_eq_false, if_false]
  rw [← h]; rfl
theorem bm128 (a : UInt8) : binA .and (.int .u8 (a.toNat : Nat)) (.int .u8 128) = some (.int .u8 (bitI (decide (a.toNat / 128 % 2 = 1)) 128)) := by
  have : ∀ a : UInt8, IntKind.u8.wrap (BitVec.ofInt 8 (a.toNat : Nat) &&& BitVec.ofInt 8 128).toNat = bitI (decide (a.toNat / 128 % 2 = 1)) 128 := by apply allB; decide
  have h := this a
  simp only [binA, ne_eq, not_true_eq_false, if_false]
  rw [← h]; rfl

/-- What a body is read as, with what is told when it is none. -/
def resD {α : Type} (f : α → List Value) (z : List Value) : Except Int α → Value
  | .ok x => .tuple ⟨[.agg ⟨f x⟩, .int .i64 0]⟩
  | .error e => .tuple ⟨[.agg ⟨z⟩, .int .i64 e]⟩
theorem _root_.Go.AS.Ext.past {A A1 A2 : AHeap} {p : Nat} (h : Ext NoB A A1) (k : Ext (fun j => j = p) A1 A2) (hp : A.size ≤ p) : Ext NoB A A2 := h.trans2 k fun b hb hs => absurd hs (by omega)
def Cap.zero : Cap := ⟨0, 0, false, false, 0, 0, 0, 0⟩
theorem val1 (a : UInt8) (l : List UInt8) : val (List.take 1 (a :: l)) = a.toNat := by simp [val]
theorem Cur.go_ok {c : Cur} {n : Nat} (h : c.br = false) (k : c.at_ + n ≤ c.s.length) : c.go n = ⟨c.s, c.at_ + n, false⟩ ∧ c.got n = seg c.s c.at_ n := by
  have : c.ok n = true := by simp [Cur.ok, h, k]
  obtain ⟨s, i, b⟩ := c
  simp only at h; subst h
  simp [Cur.go, Cur.got, this, seg]
theorem Cur.go_no {c : Cur} {n : Nat} (h : c.br = true ∨ c.s.length < c.at_ + n) : c.go n = ⟨c.s, c.at_, true⟩ ∧ c.got n = [] := by
  have : c.ok n = false := by
    rcases h with h | h
    · simp [Cur.ok, h]
    · simp [Cur.ok]; intro _; omega
  obtain ⟨s, i, b⟩ := c
  simp [Cur.go, Cur.got, this]
attribute [local irreducible] Trie.set Trie.get Env.rd
attribute [local simp ↓] wV_b2s
attribute [local simp] Nat.add_assoc wD_cons'' wD_nil' wC_seq wC_ops wC_opsD_nil wC_cond wC_skip wC_ret wC_exit wC_block wO_cons' wO_nil wantedA wV_eq lop qop ev wL_some wL_none wPut envOf rd_set rd_leaf eqA thenC blockC wB_true wB_false endF unwindA resultsA resA tupleA rdCell rdCells wrCells cl fillP lay rep bi_eql bi_neq bi_lss bi_leq bi_gtr bi_geq bi_add bi_sub bs_eql bs_neq bi_shr4 unA get_set' AHeap.get_alloc oneCell beqd bned idxA

theorem form_ok (A : AHeap) (v : Int) (n : Nat) (hv : v = (n : Nat)) (hn : n < 1000000) (Q : Value → AHeap → Prop) (hq : Q (.tuple ⟨[.int .i64 ((if n = 2 then 0 else if n = 10 then 1 else if n = 18 then 2 else if n = 20 then 3 else if n = 22 then 4 else 0 : Nat) : Int), .bool (decide (n = 2 ∨ n = 10 ∨ n = 18 ∨ n = 20 ∨ n = 22))]⟩) A) : wF T (.func (.func 123) #[] #[]) [.int .i64 v] A Q := by
  subst hv
  refine wF_func (first := []) (captured := []) t123 ⟨rfl, by decide⟩ ?_
  dsimp only [c123]
  by_cases h2 : n = 2
  · subst h2; simp; exact hq
  by_cases h10 : n = 10
  · subst h10; simp; exact hq
  by_cases h18 : n = 18
  · subst h18; simp [binA]; exact hq
  by_cases h20 : n = 20
  · subst h20; simp [binA]; exact hq
  by_cases h22 : n = 22
  · subst h22; simp [binA]; exact hq
  have e2 : ¬ (n : Int) = 2 := by omega
  have e10 : ¬ (n : Int) = 10 := by omega
  have e18 : ¬ (n : Int) = 18 := by omega
  have e20 : ¬ (n : Int) = 20 := by omega
  have e22 : ¬ (n : Int) = 22 := by omega
  simp [e2, e10, e18, e20, e22]
  simpa [h2, h10, h18, h20, h22] using hq
def Cur.on (c : Cur) (b : Bool) (n : Nat) : Cur := if b then c.go n else c
def Cur.num (c : Cur) (b : Bool) (n : Nat) : Nat := if b then val (c.got n) else 0
theorem key1_ok (A : AHeap) (q5 q7 p f m : Nat) (c : Cur) (g5 : A.get q5 = some (.cells [.int .i64 (f : Nat)] false 0)) (g7 : A.get q7 = some (.cells [.pointer (some ⟨p, 0, none⟩)] false 0)) (hc : CurAt A p c) (Q : Value → AHeap → Prop)
    (hq : ∀ A', CurAt A' p (c.on (decide (m ≤ f)) 8) → Ext (fun j => j = p) A A' → Q (.int .u64 (c.num (decide (m ≤ f)) 8 : Nat)) A') : wF T (.func (.func 125) ⟨[]⟩ ⟨[.pointer (some ⟨q5, 0, none⟩), .pointer (some ⟨q7, 0, none⟩)]⟩) [.int .i64 (m : Nat)] A Q := by
  refine wF_func (first := []) (captured := [.pointer (some ⟨q5, 0, none⟩), .pointer (some ⟨q7, 0, none⟩)]) t125 ⟨rfl, by decide⟩ ?_
  dsimp only [c125]
  by_cases h : m ≤ f
  · simp only [Cur.on, Cur.num, decide_eq_true h, if_true] at hq
    simp [g5, g7, h]
    refine U64_ok A p c hc _ fun A1 h1 e1 => ?_
    simp
    exact hq A1 h1 e1
  · simp only [Cur.on, Cur.num, decide_eq_false h, Bool.false_eq_true, if_false] at hq
    simp [g5, g7, h]
    exact hq A hc Ext.refl
theorem key2_ok (A : AHeap) (q5 q7 p f m : Nat) (c : Cur) (g5 : A.get q5 = some (.cells [.int .i64 (f : Nat)] false 0)) (g7 : A.get q7 = some (.cells [.pointer (some ⟨p, 0, none⟩)] false 0)) (hc : CurAt A p c) (Q : Value → AHeap → Prop)
    (hq : ∀ A', CurAt A' p (c.on (decide (m ≤ f)) 2) → Ext (fun j => j = p) A A' → Q (.int .u16 (c.num (decide (m ≤ f)) 2 : Nat)) A') : wF T (.func (.func 127) ⟨[]⟩ ⟨[.pointer (some ⟨q5, 0, none⟩), .pointer (some ⟨q7, 0, none⟩)]⟩) [.int .i64 (m : Nat)] A Q := by
  refine wF_func (first := []) (captured := [.pointer (some ⟨q5, 0, none⟩), .pointer (some ⟨q7, 0, none⟩)]) t127 ⟨rfl, by decide⟩ ?_
  dsimp only [c127]
  by_cases h : m ≤ f
  · simp only [Cur.on, Cur.num, decide_eq_true h, if_true] at hq
    simp [g5, g7, h]
    refine U16_ok A p c hc _ fun A1 h1 e1 => ?_
    simp
    exact hq A1 h1 e1
  · simp only [Cur.on, Cur.num, decide_eq_false h, Bool.false_eq_true, if_false] at hq
    simp [g5, g7, h]
    exact hq A hc Ext.refl
def cz : List Value := [.int .i64 0, .int .i64 0, .bool false, .bool false, .int .u64 0, .int .u64 0, .int .i64 0, .int .u16 0]
def Cap.read (f : Nat) (a b : UInt8) (c : Cur) : Cap :=
  let c1 := c.on (decide (1 ≤ f)) 8
  let c2 := c1.on (decide (2 ≤ f)) 8
  let c3 := c2.on (decide (3 ≤ f)) 2
  ⟨(f : Nat), (a.toNat % 16 : Nat), decide (b.toNat / 128 % 2 = 1), decide (b.toNat / 32 % 2 = 1), c.num (decide (1 ≤ f)) 8, c1.num (decide (2 ≤ f)) 8, (c2.num (decide (3 ≤ f)) 2 : Nat), c3.num (decide (4 ≤ f)) 2⟩
theorem cdt_ok (A0 A : AHeap) (f : Nat) (a b : UInt8) (q2 q5 q7 p : Nat) (c : Cur) (env : Env) (Q : Value → AHeap → Prop) (g2 : A.get q2 = some (.cells cz false 0)) (g5 : A.get q5 = some (.cells [.int .i64 (f : Nat)] false 0)) (g7 : A.get q7 = some (.cells [.pointer (some ⟨p, 0, none⟩)] false 0)) (hc : CurAt A p c)
    (n2 : q2 ≠ p) (n5 : q5 ≠ p) (n7 : q7 ≠ p) (ex : Ext NoB A0 A) (l2 : A0.size ≤ q2) (lp : A0.size ≤ p)
    (r2 : env.rd 2 = .pointer (some ⟨q2, 0, none⟩)) (r5 : env.rd 5 = .pointer (some ⟨q5, 0, none⟩)) (r8 : env.rd 8 = .func (.func 125) ⟨[]⟩ ⟨[.pointer (some ⟨q5, 0, none⟩), .pointer (some ⟨q7, 0, none⟩)]⟩) (r9 : env.rd 9 = .func (.func 127) ⟨[]⟩ ⟨[.pointer (some ⟨q5, 0, none⟩), .pointer (some ⟨q7, 0, none⟩)]⟩)
    (r10 : env.rd 10 = .int .u8 (a.toNat : Nat)) (r11 : env.rd 11 = .int .u8 (b.toNat : Nat))
    (hq : ∀ A', Ext NoB A0 A' → Q (.tuple ⟨[.agg ⟨(Cap.read f a b c).cells⟩, .int .i64 0]⟩) A') : wC T 75 none c75t { env := env, n := 68, dfs := [], A := A } (endF [.inr (2, 8, true), .inl 3] Q) := by
  dsimp only [c75t]
  have y1 := bm15 a
  have y2 := bm128 b
  have y3 := bm32 b
  have w1 : IntKind.i64.wrap ((a.toNat % 16 : Nat) : Int) = ((a.toNat % 16 : Nat) : Int) := IntWalk.i64_in _ (by omega)
  simp only [Cap.read, Cap.cells] at hq
  generalize decide (b.toNat / 128 % 2 = 1) = s at hq y2
  generalize decide (b.toNat / 32 % 2 = 1) = al at hq y3
  generalize a.toNat % 16 = v at hq y1 w1
  simp [r2, r5, r8, r9, r10, r11, g5, y1, y2, y3, w1, bitI_z]
  have lA := AHeap.get_lt g2
  have l5 := AHeap.get_lt g5
  have l7 := AHeap.get_lt g7
  have lpp := AHeap.get_lt hc.g
  generalize hB : AHeap.set _ _ _ = B
  have b2 : B.get q2 = some (.cells cz false 0) := by subst hB; simp [g2, show q2 ≠ A.size by omega]
  have b5 : B.get q5 = some (.cells [.int .i64 (f : Nat)] false 0) := by subst hB; simp [g5, show q5 ≠ A.size by omega]
  have b7 : B.get q7 = some (.cells [.pointer (some ⟨p, 0, none⟩)] false 0) := by subst hB; simp [g7, show q7 ≠ A.size by omega]
  have b12 : B.get A.size = some (.cells [.int .i64 (f : Nat), .int .i64 (v : Nat), .bool s, .bool al, .int .u64 0, .int .u64 0, .int .i64 0, .int .u16 0] false 0) := by subst hB; simp
  have eAB : Ext NoB A B := by subst hB; (repeat first | exact Ext.refl | assumption | refine Ext.allocN ?_ | refine Ext.setN ?_ (by first | omega | (simp; done) | (simp; omega)))
  have bc : CurAt B p c := hc.ext eAB id
  have n12 : A.size ≠ p := by omega
  have eB := ex.trans eAB
  refine key1_ok B q5 q7 p f 1 c b5 b7 bc _ fun C cc e1 => ?_
  have c2 := e1.get b2 n2
  have c5 := e1.get b5 n5
  have c7 := e1.get b7 n7
  have c12 := e1.get b12 n12
  have eC := eB.past e1 lp
  have lC := AHeap.get_lt c12
  simp [r8, c12, lC]
  generalize hD : AHeap.set _ _ _ = D
  have hA0 := ex.size
  have sD : ∀ j, j ≠ A.size → D.get j = C.get j := by subst hD; intro j hj; simp [hj]
  have eCD : Ext (fun j => j = A.size) C D := by subst hD; exact Ext.set rfl
  have d12 : D.get A.size = some (.cells [.int .i64 (f : Nat), .int .i64 (v : Nat), .bool s, .bool al, .int .u64 (c.num (decide (1 ≤ f)) 8 : Nat), .int .u64 0, .int .i64 0, .int .u16 0] false 0) := by subst hD; simp [lC]
  have dc := cc.ext eCD n12.symm
  refine key1_ok D q5 q7 p f 2 _ ((sD q5 (by omega)).trans c5) ((sD q7 (by omega)).trans c7) dc _ fun E ec e2 => ?_
  have x2 := e2.get ((sD q2 (by omega)).trans c2) n2
  have x5 := e2.get ((sD q5 (by omega)).trans c5) n5
  have x7 := e2.get ((sD q7 (by omega)).trans c7) n7
  have x12 := e2.get d12 n12
  have eE := (eC.past eCD hA0).past e2 lp
  have lE := AHeap.get_lt x12
  simp [r9, x12, lE]
  generalize hF : AHeap.set _ _ _ = F
  have sF : ∀ j, j ≠ A.size → F.get j = E.get j := by subst hF; intro j hj; simp [hj]
  have eEF : Ext (fun j => j = A.size) E F := by subst hF; exact Ext.set rfl
  generalize (c.on (decide (1 ≤ f)) 8).num (decide (2 ≤ f)) 8 = k2 at hq hF
  have f12 : F.get A.size = some (.cells [.int .i64 (f : Nat), .int .i64 (v : Nat), .bool s, .bool al, .int .u64 (c.num (decide (1 ≤ f)) 8 : Nat), .int .u64 (k2 : Nat), .int .i64 0, .int .u16 0] false 0) := by subst hF; simp [lE]
  have fc := ec.ext eEF n12.symm
  refine key2_ok F q5 q7 p f 3 _ ((sF q5 (by omega)).trans x5) ((sF q7 (by omega)).trans x7) fc _ fun G gc e3 => ?_
  have y2 := e3.get ((sF q2 (by omega)).trans x2) n2
  have y5 := e3.get ((sF q5 (by omega)).trans x5) n5
  have y7 := e3.get ((sF q7 (by omega)).trans x7) n7
  have y12 := e3.get f12 n12
  have eG := (eE.past eEF hA0).past e3 lp
  have lG := AHeap.get_lt y12
  have k3w : IntKind.i64.wrap ((((c.on (decide (1 ≤ f)) 8).on (decide (2 ≤ f)) 8).num (decide (3 ≤ f)) 2 : Nat) : Int) = (((c.on (decide (1 ≤ f)) 8).on (decide (2 ≤ f)) 8).num (decide (3 ≤ f)) 2 : Nat) := by
    refine IntWalk.i64_in _ ?_
    generalize (c.on (decide (1 ≤ f)) 8).on (decide (2 ≤ f)) 8 = c'
    have := val_p (c'.got 2) 0 2
    have h2 : seg (c'.got 2) 0 2 = c'.got 2 := List.take_of_length_le (by unfold Cur.got; split <;> simp; omega)
    rw [h2] at this
    unfold Cur.num
    split <;> omega
  generalize ((c.on (decide (1 ≤ f)) 8).on (decide (2 ≤ f)) 8).num (decide (3 ≤ f)) 2 = k3 at hq k3w
  simp [r9, y12, lG, k3w]
  generalize hH : AHeap.set _ _ _ = H
  have sH : ∀ j, j ≠ A.size → H.get j = G.get j := by subst hH; intro j hj; simp [hj]
  have eGH : Ext (fun j => j = A.size) G H := by subst hH; exact Ext.set rfl
  have h12 : H.get A.size = some (.cells [.int .i64 (f : Nat), .int .i64 (v : Nat), .bool s, .bool al, .int .u64 (c.num (decide (1 ≤ f)) 8 : Nat), .int .u64 (k2 : Nat), .int .i64 (k3 : Nat), .int .u16 0] false 0) := by subst hH; simp [lG]
  have hcc := gc.ext eGH n12.symm
  refine key2_ok H q5 q7 p f 4 _ ((sH q5 (by omega)).trans y5) ((sH q7 (by omega)).trans y7) hcc _ fun I ic e4 => ?_
  have z2 := e4.get ((sH q2 (by omega)).trans y2) n2
  have z12 := e4.get h12 n12
  have eI := (eG.past eGH hA0).past e4 lp
  have lI := AHeap.get_lt z12
  have lI2 := AHeap.get_lt z2
  simp [r2, z12, z2, lI, lI2, cz, show q2 ≠ A.size by omega]
  refine hq _ ?_
  exact (eI.past (Ext.set rfl) hA0).past (Ext.set rfl) l2
end Go.Proofs.YtigknpfjhegkgaaGreatDoor
end

section
/- The option of ends that are capable, and that by which a path joins, read. -/
namespace Go.Proofs.YtigknpfjhegkgaaGreatDoor
open Go Go.AS
set_option maxRecDepth 100000
set_option linter.unusedSimpArgs false
set_option linter.unusedVariables false
attribute [local irreducible] Trie.set Trie.get Env.rd
attribute [local simp ↓] wV_b2s
attribute [local simp] Nat.add_assoc wD_cons'' wD_nil' wC_seq wC_ops wC_opsD_nil wC_cond wC_skip wC_ret wC_exit wC_block wO_cons' wO_nil wantedA wV_eq lop qop ev wL_some wL_none wPut envOf rd_set rd_leaf eqA thenC blockC wB_true wB_false endF unwindA resultsA resA tupleA rdCell rdCells wrCells cl fillP lay rep bi_eql bi_neq bi_lss bi_leq bi_gtr bi_geq bi_add bi_sub bs_eql bs_neq bi_shr4 unA get_set' AHeap.get_alloc oneCell beqd bned idxA

theorem Cap.read_dec (a b : UInt8) (r : List UInt8) (ha : a.toNat / 16 = 0) (hb : b.toNat % 2 ≠ 0) (f : Nat) (hf : (f = 0 ∧ r.length = 0) ∨ (f = 1 ∧ r.length = 8) ∨ (f = 2 ∧ r.length = 16) ∨ (f = 3 ∧ r.length = 18) ∨ (f = 4 ∧ r.length = 20)) :
    Cap.dec (a :: b :: r) = .ok (Cap.read f a b ⟨a :: b :: r, 2, false⟩) := by
  have e : ∀ i n, seg (a :: b :: r) (2 + i) n = seg r i n := fun i n => by simp only [seg]; rw [Nat.add_comm]; rfl
  have go : ∀ i n, i + n ≤ r.length → (⟨a :: b :: r, 2 + i, false⟩ : Cur).go n = ⟨a :: b :: r, 2 + (i + n), false⟩ ∧ (⟨a :: b :: r, 2 + i, false⟩ : Cur).got n = seg r i n := fun i n h => by
    have := Cur.go_ok (c := ⟨a :: b :: r, 2 + i, false⟩) (n := n) rfl (by simp; omega)
    rw [e, Nat.add_assoc] at this
    exact this
  have z : ∀ i n, r.length ≤ i → val (seg r i n) = 0 := fun i n h => by rw [seg_nil _ _ _ h]; rfl
  have h0 : ¬ a.toNat / 16 ≠ 0 := fun q => q ha
  rcases hf with ⟨rfl, hl⟩ | ⟨rfl, hl⟩ | ⟨rfl, hl⟩ | ⟨rfl, hl⟩ | ⟨rfl, hl⟩
  · have z1 := z 0 8 (by omega)
    have z2 := z 8 8 (by omega)
    have z3 := z 16 2 (by omega)
    have z4 := z 18 2 (by omega)
    simp only [Cap.dec, if_neg h0, if_neg hb]
    simp [hl, Cap.read, Cur.on, Cur.num, z1, z2, z3, z4]
  · have z2 := z 8 8 (by omega)
    have z3 := z 16 2 (by omega)
    have z4 := z 18 2 (by omega)
    have g1 := go 0 8 (by omega)
    simp only [Cap.dec, if_neg h0, if_neg hb]
    simp at g1
    simp [hl, Cap.read, Cur.on, Cur.num, z2, z3, z4, g1]
  · have z3 := z 16 2 (by omega)
    have z4 := z 18 2 (by omega)
    have g1 := go 0 8 (by omega)
    have g2 := go 8 8 (by omega)
    simp only [Cap.dec, if_neg h0, if_neg hb]
    simp at g1 g2
    simp [hl, Cap.read, Cur.on, Cur.num, z3, z4, g1, g2]
  · have z4 := z 18 2 (by omega)
    have g1 := go 0 8 (by omega)
    have g2 := go 8 8 (by omega)
    have g3 := go 16 2 (by omega)
    simp only [Cap.dec, if_neg h0, if_neg hb]
    simp at g1 g2 g3
    simp [hl, Cap.read, Cur.on, Cur.num, z4, g1, g2, g3]
  · have g1 := go 0 8 (by omega)
    have g2 := go 8 8 (by omega)
    have g3 := go 16 2 (by omega)
    have g4 := go 18 2 (by omega)
    simp only [Cap.dec, if_neg h0, if_neg hb]
    simp at g1 g2 g3 g4
    simp [hl, Cap.read, Cur.on, Cur.num, g1, g2, g3, g4]
/-- The first two bytes, read. -/
theorem first2 (s : List UInt8) (a b : UInt8) (r : List UInt8) (h : s = a :: b :: r) : (⟨s, 0, false⟩ : Cur).go 1 = ⟨s, 1, false⟩ ∧ (⟨s, 0, false⟩ : Cur).got 1 = [a] ∧ (⟨s, 1, false⟩ : Cur).go 1 = ⟨s, 2, false⟩ ∧ (⟨s, 1, false⟩ : Cur).got 1 = [b] := by
  subst h
  obtain ⟨h1, h2⟩ := Cur.go_ok (c := ⟨a :: b :: r, 0, false⟩) (n := 1) rfl (by simp)
  obtain ⟨h3, h4⟩ := Cur.go_ok (c := ⟨a :: b :: r, 1, false⟩) (n := 1) rfl (by simp)
  exact ⟨h1, h2, h3, h4⟩
theorem val_one (a : UInt8) : val [a] = a.toNat := by simp [val]
theorem cdec_ok (A : AHeap) (s : List UInt8) (hs : s.length < 1000000) (Q : Value → AHeap → Prop) (hq : ∀ A', Ext NoB A A' → Q (resD Cap.cells cz (Cap.dec s)) A') : wF T (.func (.func 75) #[] #[]) [.string ⟨⟨s⟩⟩] A Q := by
  refine wF_func (first := []) (captured := []) t75 ⟨rfl, by decide⟩ ?_
  dsimp only [c75]
  match s, hs, hq with
  | [], hs, hq =>
    simp
    exact hq _ (by (repeat first | exact Ext.refl | assumption | refine Ext.allocN ?_ | refine Ext.setN ?_ (by first | omega | (simp; done) | (simp; omega))))
  | a :: t, hs, hq =>
    have ht : t.length < 999999 := by simp at hs; omega
    by_cases h0 : a.toNat / 16 ≠ 0
    · have hd : Cap.dec (a :: t) = .error 7 := by simp only [Cap.dec, if_pos h0]
      rw [hd] at hq
      have y0 : ¬ (a.toNat : Int) / 16 = 0 := by omega
      simp [y0]
      exact hq _ (by (repeat first | exact Ext.refl | assumption | refine Ext.allocN ?_ | refine Ext.setN ?_ (by first | omega | (simp; done) | (simp; omega))))
    have ha : a.toNat / 16 = 0 := by omega
    have y0 : (a.toNat : Int) / 16 = 0 := by omega
    simp [y0]
    generalize hB : AHeap.set _ _ _ = B
    have b0 : B.get A.size = some (.cells cz false 0) := by subst hB; simp [cz]
    have b1 : B.get (A.size + 1) = some (.cells cz false 0) := by subst hB; simp [cz]
    have zB : B.size = A.size + 2 := by subst hB; simp
    have eB : Ext NoB A B := by subst hB; (repeat first | exact Ext.refl | assumption | refine Ext.allocN ?_ | refine Ext.setN ?_ (by first | omega | (simp; done) | (simp; omega)))
    refine form_ok B _ (t.length + 1) (by omega) (by omega) _ ?_
    by_cases hf : t.length + 1 = 2 ∨ t.length + 1 = 10 ∨ t.length + 1 = 18 ∨ t.length + 1 = 20 ∨ t.length + 1 = 22
    case neg =>
      have hd : Cap.dec (a :: t) = .error 5 := by
        simp only [Cap.dec, if_neg h0]
        match t, hf with
        | [], _ => rfl
        | b :: r, hf => simp only; rw [if_neg (by simp only [List.length_cons] at hf; omega)]
      rw [hd] at hq
      rw [decide_eq_false hf]
      have l0 := AHeap.get_lt b0
      have l1 := AHeap.get_lt b1
      simp [b0, b1, zB, cz]
      exact hq _ (by have := eB.size; (repeat first | exact Ext.refl | assumption | refine Ext.allocN ?_ | refine Ext.setN ?_ (by first | omega | (simp; done) | (simp; omega))))
    rw [decide_eq_true hf]
    generalize hk : (if t.length + 1 = 2 then 0 else if t.length + 1 = 10 then 1 else if t.length + 1 = 18 then 2 else if t.length + 1 = 20 then 3 else if t.length + 1 = 22 then 4 else 0) = f
    match t, ht, hf, hk, hs, hq with
    | [], _, hf, _, _, _ => simp at hf
    | b :: r, ht, hf, hk, hs, hq =>
      simp
      generalize hC : AHeap.set _ _ _ = C
      have c0 : C.get A.size = some (.cells cz false 0) := by subst hC; simp [b0, zB]
      have c1 : C.get (A.size + 1) = some (.cells cz false 0) := by subst hC; simp [b1, zB]
      have c2 : C.get (A.size + 2) = some (.cells [.int .i64 (f : Nat)] false 0) := by subst hC; simp [zB]
      have zC : C.size = A.size + 3 := by subst hC; simp [zB]
      have eC : Ext NoB A C := by subst hC; have := eB.size; (repeat first | exact Ext.refl | assumption | refine Ext.allocN ?_ | refine Ext.setN ?_ (by first | omega | (simp; done) | (simp; omega)))
      refine Read_ok C (a :: b :: r) hs _ fun D p hp eD lp => ?_
      have d0 := eD.get c0 id
      have d1 := eD.get c1 id
      have d2 := eD.get c2 id
      have zD := eD.size
      simp
      generalize hE : AHeap.set _ _ _ = E
      have e0 : E.get A.size = some (.cells cz false 0) := by subst hE; simp [d0, show A.size ≠ D.size by omega]
      have e1 : E.get (A.size + 1) = some (.cells cz false 0) := by subst hE; simp [d1, show A.size + 1 ≠ D.size by omega]
      have e2 : E.get (A.size + 2) = some (.cells [.int .i64 (f : Nat)] false 0) := by subst hE; simp [d2, show A.size + 2 ≠ D.size by omega]
      have e3 : E.get D.size = some (.cells [.pointer (some ⟨p, 0, none⟩)] false 0) := by subst hE; simp
      have eDE : Ext NoB D E := by subst hE; (repeat first | exact Ext.refl | assumption | refine Ext.allocN ?_ | refine Ext.setN ?_ (by first | omega | (simp; done) | (simp; omega)))
      have ec := hp.ext eDE id
      have lpD := AHeap.get_lt hp.g
      have eE := (eC.trans eD).trans eDE
      obtain ⟨k1, k2, k3, k4⟩ := first2 _ a b r rfl
      refine wC_opsD_chk ?_
      simp [e3]
      refine U8_ok E p _ ec _ fun F fc eF => ?_
      rw [k1] at fc
      rw [k2]
      have f0 := eF.get e0 (by omega)
      have f1 := eF.get e1 (by omega)
      have f2 := eF.get e2 (by omega)
      have f3 := eF.get e3 (by omega)
      have eeF := eE.past eF (by omega)
      simp [f3]
      refine U8_ok F p _ fc _ fun G gc eG => ?_
      rw [k3] at gc
      rw [k4]
      have g0 := eG.get f0 (by omega)
      have g1 := eG.get f1 (by omega)
      have g2 := eG.get f2 (by omega)
      have g3 := eG.get f3 (by omega)
      have eeG := eeF.past eG (by omega)
      have l0 := AHeap.get_lt g0
      simp
      refine wE_intro ?_ ?_
      · simp only [List.all_cons, List.all_nil, chkOk, List.nil_append, List.cons_append, List.getElem?_cons_succ, List.getElem?_cons_zero]
        simp [Bx, e3, f3, vbeq]
      simp only [val_one]
      have m1 := bm1 b
      by_cases hb : b.toNat % 2 = 0
      · have hd : Cap.dec (a :: b :: r) = .error 2 := by
          simp only [Cap.dec, if_neg h0]
          rw [if_pos (by simp only [List.length_cons] at hf; omega), if_pos hb]
        rw [hd] at hq
        have hz : decide (b.toNat / 1 % 2 = 1) = false := decide_eq_false (by omega)
        rw [hz] at m1
        simp [m1, bitI, g0, g1, l0, cz]
        exact hq _ (by have := eeG.size; (repeat first | exact Ext.refl | assumption | refine Ext.allocN ?_ | refine Ext.setN ?_ (by first | omega | (simp; done) | (simp; omega))))
      · rw [Cap.read_dec a b r ha hb f (by subst hk; simp at hf; rcases hf with h | h | h | h | h <;> simp [h])] at hq
        have hz : decide (b.toNat / 1 % 2 = 1) = true := decide_eq_true (by omega)
        rw [hz] at m1
        simp [m1, bitI]
        refine cdt_ok A G f a b A.size (A.size + 2) D.size p _ _ Q g0 g2 g3 gc (by omega) (by omega) (by omega) eeG (Nat.le_refl _) (by omega) ?_ ?_ ?_ ?_ ?_ ?_ hq <;> simp
end Go.Proofs.YtigknpfjhegkgaaGreatDoor
end

section
/- The option by which a path joins, read. -/
namespace Go.Proofs.YtigknpfjhegkgaaGreatDoor
open Go Go.AS
set_option maxRecDepth 100000
set_option linter.unusedSimpArgs false
set_option linter.unusedVariables false
attribute [local irreducible] Trie.set Trie.get Env.rd
attribute [local simp ↓] wV_b2s
attribute [local simp] Nat.add_assoc wD_cons'' wD_nil' wC_seq wC_ops wC_opsD_nil wC_cond wC_skip wC_ret wC_exit wC_block wO_cons' wO_nil wantedA wV_eq lop qop ev wL_some wL_none wPut envOf rd_set rd_leaf eqA thenC blockC wB_true wB_false endF unwindA resultsA resA tupleA rdCell rdCells wrCells cl fillP lay rep bi_eql bi_neq bi_lss bi_leq bi_gtr bi_geq bi_add bi_sub bs_eql bs_neq bi_shr4 unA get_set' AHeap.get_alloc oneCell beqd bned idxA

def jz : List Value := [.int .i64 0, .bool false, .int .i64 0, .int .u32 0, .int .u32 0, .string ⟨⟨[]⟩⟩]
theorem seg2 (a b : UInt8) (r : List UInt8) (i n : Nat) : seg (a :: b :: r) (2 + i) n = seg r i n := by simp only [seg]; rw [Nat.add_comm]; rfl
theorem go2 (a b : UInt8) (r : List UInt8) (i n : Nat) (h : i + n ≤ r.length) : (⟨a :: b :: r, 2 + i, false⟩ : Cur).go n = ⟨a :: b :: r, 2 + (i + n), false⟩ ∧ (⟨a :: b :: r, 2 + i, false⟩ : Cur).got n = seg r i n := by
  have := Cur.go_ok (c := ⟨a :: b :: r, 2 + i, false⟩) (n := n) rfl (by simp; omega)
  rw [seg2, Nat.add_assoc] at this
  exact this
theorem jdec_ok (A : AHeap) (s : List UInt8) (hs : s.length < 1000000) (Q : Value → AHeap → Prop) (hq : ∀ A', Ext NoB A A' → Q (resD Jn.cells jz (Jn.dec s)) A') : wF T (.func (.func 79) #[] #[]) [.string ⟨⟨s⟩⟩] A Q := by
  refine wF_func (first := []) (captured := []) t79 ⟨rfl, by decide⟩ ?_
  dsimp only [c79]
  match s, hs, hq with
  | [], hs, hq =>
    simp
    exact hq _ (by (repeat first | exact Ext.refl | assumption | refine Ext.allocN ?_ | refine Ext.setN ?_ (by first | omega | (simp; done) | (simp; omega))))
  | a :: t, hs, hq =>
    have ht : t.length < 999999 := by simp at hs; omega
    by_cases h0 : a.toNat / 16 ≠ 1
    · have hd : Jn.dec (a :: t) = .error 7 := by simp only [Jn.dec, if_pos h0]
      rw [hd] at hq
      have y0 : ¬ (a.toNat : Int) / 16 = 1 := by omega
      simp [y0]
      exact hq _ (by (repeat first | exact Ext.refl | assumption | refine Ext.allocN ?_ | refine Ext.setN ?_ (by first | omega | (simp; done) | (simp; omega))))
    have y0 : (a.toNat : Int) / 16 = 1 := by omega
    simp [y0]
    generalize hB : AHeap.alloc _ _ = B
    have b0 : B.get A.size = some (.cells jz false 0) := by subst hB; simp [jz]
    have zB : B.size = A.size + 1 := by subst hB; simp
    have eB : Ext NoB A B := by subst hB; (repeat first | exact Ext.refl | assumption | refine Ext.allocN ?_ | refine Ext.setN ?_ (by first | omega | (simp; done) | (simp; omega)))
    refine Read_ok B (a :: t) hs _ fun D p hp eD lp => ?_
    have d0 := eD.get b0 id
    have zD := eD.size
    simp
    refine U8_ok D p _ hp _ fun F fc eF => ?_
    have f0 := eF.get d0 (by omega)
    have eeF := (eB.trans eD).past eF (by omega)
    simp
    refine U8_ok F p _ fc _ fun G gc eG => ?_
    have g0 := eG.get f0 (by omega)
    have eeG := eeF.past eG (by omega)
    have l0 := AHeap.get_lt g0
    have m1 := bm1 a
    have k1 : (⟨a :: t, 0, false⟩ : Cur).go 1 = ⟨a :: t, 1, false⟩ := (Cur.go_ok (c := ⟨a :: t, 0, false⟩) (n := 1) rfl (by simp)).1
    have k2 : (⟨a :: t, 0, false⟩ : Cur).got 1 = [a] := (Cur.go_ok (c := ⟨a :: t, 0, false⟩) (n := 1) rfl (by simp)).2
    rw [k1] at gc
    rw [k1, k2]
    simp only [val_one]
    simp only [Nat.div_one] at m1
    obtain ⟨bk, hbk⟩ : ∃ x, x = decide (a.toNat % 2 = 1) := ⟨_, rfl⟩
    rw [← hbk] at m1
    have w1 : IntKind.i64.wrap ((val ((⟨a :: t, 1, false⟩ : Cur).got 1) : Nat) : Int) = (val ((⟨a :: t, 1, false⟩ : Cur).got 1) : Nat) := by
      refine IntWalk.i64_in _ ?_
      have : val ((⟨a :: t, 1, false⟩ : Cur).got 1) < 256 := by
        have := val_p ((⟨a :: t, 1, false⟩ : Cur).got 1) 0 1
        have h2 : seg ((⟨a :: t, 1, false⟩ : Cur).got 1) 0 1 = (⟨a :: t, 1, false⟩ : Cur).got 1 := List.take_of_length_le (by unfold Cur.got; split <;> simp; omega)
        rw [h2] at this; exact this
      omega
    simp [m1, bitI_z, w1, g0, l0, jz]
    generalize hH : AHeap.set _ _ _ = H
    have hE : Ext NoB A H := by subst hH; have := eeG.size; (repeat first | exact Ext.refl | assumption | refine Ext.allocN ?_ | refine Ext.setN ?_ (by first | omega | (simp; done) | (simp; omega)))
    have h0' : H.get A.size = some (.cells [.int .i64 0, .bool bk, .int .i64 (val ((⟨a :: t, 1, false⟩ : Cur).got 1) : Nat), .int .u32 0, .int .u32 0, .string ⟨⟨[]⟩⟩] false 0) := by subst hH; simp [l0]
    have hc := gc.ext (A' := H) (S := fun j => j = A.size) (by subst hH; exact (Ext.set (S := fun j => j = A.size) rfl).trans (Ext.set rfl)) (by omega)
    have lH := AHeap.get_lt h0'
    refine bytes_ok H 0 _ ?_
    match t, ht, hs, hq, hH, h0', hc with
    | [], ht, hs, hq, hH, h0', hc =>
      have hd : Jn.dec [a] = .error 5 := by simp only [Jn.dec, if_neg h0]
      rw [hd] at hq
      simp [Jn.bytes]
      refine bytes_ok H 1 _ ?_
      simp [Jn.bytes]
      refine bytes_ok H 2 _ ?_
      simp [Jn.bytes, h0', lH]
      exact hq _ (by (repeat first | exact Ext.refl | assumption | refine Ext.allocN ?_ | refine Ext.setN ?_ (by first | omega | (simp; done) | (simp; omega))))
    | b :: r, ht, hs, hq, hH, h0', hc =>
      obtain ⟨_, _, k3, k4⟩ := first2 _ a b r rfl
      rw [k3] at hc
      rw [k4] at h0'
      simp only [val_one] at h0'
      by_cases hl1 : r.length = 8
      · have hd : Jn.dec (a :: b :: r) = .ok ⟨0, bk, (b.toNat : Nat), val (seg r 0 4), val (seg r 4 4), []⟩ := by simp only [Jn.dec, if_neg h0]; rw [if_pos hl1, ← hbk]
        rw [hd] at hq
        have z1 : ((r.length : Int) + 1 + 1) = 10 := by omega
        simp [Jn.bytes, z1, h0', lH]
        generalize hI : AHeap.set _ _ _ = I
        have i0 : I.get A.size = some (.cells [.int .i64 0, .bool bk, .int .i64 (b.toNat : Nat), .int .u32 0, .int .u32 0, .string ⟨⟨[]⟩⟩] false 0) := by subst hI; simp [lH]
        have ei : Ext (fun j => j = A.size) H I := by subst hI; exact Ext.set rfl
        have ic := hc.ext ei (by omega)
        refine U32_ok I p _ ic _ fun J jc eJ => ?_
        have j0 := eJ.get i0 (by omega)
        have lJ := AHeap.get_lt j0
        have eeJ := (hE.past ei (Nat.le_refl _)).past eJ (by omega)
        obtain ⟨q1, q2⟩ := go2 a b r 0 4 (by omega)
        simp only [Nat.add_zero, Nat.zero_add] at q1 q2
        rw [q1] at jc
        rw [q2]
        simp [j0, lJ]
        generalize hK : AHeap.set _ _ _ = K
        have n0 : K.get A.size = some (.cells [.int .i64 0, .bool bk, .int .i64 (b.toNat : Nat), .int .u32 (val (seg r 0 4) : Nat), .int .u32 0, .string ⟨⟨[]⟩⟩] false 0) := by subst hK; simp [lJ]
        have ek : Ext (fun j => j = A.size) J K := by subst hK; exact Ext.set rfl
        have kc := jc.ext ek (by omega)
        refine U32_ok K p _ kc _ fun L lc eL => ?_
        have o0 := eL.get n0 (by omega)
        have lL := AHeap.get_lt o0
        have eeL := (eeJ.past ek (Nat.le_refl _)).past eL (by omega)
        obtain ⟨q3, q4⟩ := go2 a b r 4 4 (by omega)
        rw [show 2 + 4 = 6 from rfl] at q4
        rw [q4]
        simp [o0, lL]
        exact hq _ (by have := eeL.size; (repeat first | exact Ext.refl | assumption | refine Ext.allocN ?_ | refine Ext.setN ?_ (by first | omega | (simp; done) | (simp; omega))))
      by_cases hl2 : r.length = 12
      · have hd : Jn.dec (a :: b :: r) = .ok ⟨1, bk, (b.toNat : Nat), 0, val (seg r 8 4), seg r 0 8⟩ := by simp only [Jn.dec, if_neg h0]; rw [if_neg hl1, if_pos hl2, ← hbk]
        rw [hd] at hq
        have z1 : ((r.length : Int) + 1 + 1) = 14 := by omega
        simp [Jn.bytes, z1]
        refine bytes_ok H 1 _ ?_
        simp [Jn.bytes, z1, h0', lH]
        generalize hI : AHeap.set _ _ _ = I
        have i0 : I.get A.size = some (.cells [.int .i64 1, .bool bk, .int .i64 (b.toNat : Nat), .int .u32 0, .int .u32 0, .string ⟨⟨[]⟩⟩] false 0) := by subst hI; simp [lH]
        have ei : Ext (fun j => j = A.size) H I := by subst hI; exact Ext.set rfl
        have ic := hc.ext ei (by omega)
        refine Take_ok I p _ 8 ic (by omega) _ fun J jc eJ => ?_
        have j0 := eJ.get i0 (by omega)
        have lJ := AHeap.get_lt j0
        have eeJ := (hE.past ei (Nat.le_refl _)).past eJ (by omega)
        obtain ⟨q1, q2⟩ := go2 a b r 0 8 (by omega)
        simp only [Nat.add_zero, Nat.zero_add] at q1 q2
        rw [q1] at jc
        rw [q2]
        simp [j0, lJ]
        generalize hK : AHeap.set _ _ _ = K
        have n0 : K.get A.size = some (.cells [.int .i64 1, .bool bk, .int .i64 (b.toNat : Nat), .int .u32 0, .int .u32 0, .string ⟨⟨seg r 0 8⟩⟩] false 0) := by subst hK; simp [lJ]
        have ek : Ext (fun j => j = A.size) J K := by subst hK; exact Ext.set rfl
        have kc := jc.ext ek (by omega)
        refine U32_ok K p _ kc _ fun L lc eL => ?_
        have o0 := eL.get n0 (by omega)
        have lL := AHeap.get_lt o0
        have eeL := (eeJ.past ek (Nat.le_refl _)).past eL (by omega)
        obtain ⟨q3, q4⟩ := go2 a b r 8 4 (by omega)
        rw [show 2 + 8 = 10 from rfl] at q4
        rw [q4]
        simp [o0, lL]
        exact hq _ (by have := eeL.size; (repeat first | exact Ext.refl | assumption | refine Ext.allocN ?_ | refine Ext.setN ?_ (by first | omega | (simp; done) | (simp; omega))))
      by_cases hl3 : r.length = 20
      · have hd : Jn.dec (a :: b :: r) = .ok ⟨2, false, 0, 0, 0, r⟩ := by simp only [Jn.dec, if_neg h0]; rw [if_neg hl1, if_neg hl2, if_pos hl3]
        rw [hd] at hq
        have z1 : ((r.length : Int) + 1 + 1) = 22 := by omega
        simp [Jn.bytes, z1]
        refine bytes_ok H 1 _ ?_
        simp [Jn.bytes, z1]
        refine bytes_ok H 2 _ ?_
        simp [Jn.bytes, z1]
        refine Take_ok H p _ 20 hc (by omega) _ fun J jc eJ => ?_
        have j0 := eJ.get h0' (by omega)
        have lJ := AHeap.get_lt j0
        have eeJ := hE.past eJ (by omega)
        obtain ⟨q1, q2⟩ := go2 a b r 0 20 (by omega)
        simp only [Nat.add_zero, Nat.zero_add] at q1 q2
        rw [q2, seg_all r 20 hl3]
        simp [j0, lJ]
        exact hq _ (by have := eeJ.size; (repeat first | exact Ext.refl | assumption | refine Ext.allocN ?_ | refine Ext.setN ?_ (by first | omega | (simp; done) | (simp; omega))))
      · have hd : Jn.dec (a :: b :: r) = .error 5 := by simp only [Jn.dec, if_neg h0]; rw [if_neg hl1, if_neg hl2, if_neg hl3]
        rw [hd] at hq
        have z1 : ¬ ((r.length : Int) + 1 + 1) = 10 := by omega
        have z2 : ¬ ((r.length : Int) + 1 + 1) = 14 := by omega
        have z3 : ¬ ((r.length : Int) + 1 + 1) = 22 := by omega
        simp [Jn.bytes, z1]
        refine bytes_ok H 1 _ ?_
        simp [Jn.bytes, z2]
        refine bytes_ok H 2 _ ?_
        simp [Jn.bytes, z3, h0', lH]
        exact hq _ (by (repeat first | exact Ext.refl | assumption | refine Ext.allocN ?_ | refine Ext.setN ?_ (by first | omega | (simp; done) | (simp; omega))))
end Go.Proofs.YtigknpfjhegkgaaGreatDoor
end

section
/- Signals, read. -/
namespace Go.Proofs.YtigknpfjhegkgaaGreatDoor
open Go Go.AS
set_option maxRecDepth 100000
set_option linter.unusedSimpArgs false
set_option linter.unusedVariables false
attribute [local irreducible] Trie.set Trie.get Env.rd
attribute [local simp ↓] wV_b2s
attribute [local simp] Nat.add_assoc wD_cons'' wD_nil' wC_seq wC_ops wC_opsD_nil wC_cond wC_skip wC_ret wC_exit wC_block wO_cons' wO_nil wantedA wV_eq lop qop ev wL_some wL_none wPut envOf rd_set rd_leaf eqA thenC blockC wB_true wB_false endF unwindA resultsA resA tupleA rdCell rdCells wrCells cl fillP lay rep bi_eql bi_neq bi_lss bi_leq bi_gtr bi_geq bi_add bi_sub bs_eql bs_neq bi_shr4 unA get_set' AHeap.get_alloc oneCell beqd bned idxA

def dz : List Value := [.bool false, .bool false, .bool false, .int .u64 0, .bool false, .bool false, .int .u64 0, .int .u32 0, .int .i64 0, .bool false, .int .u16 0]
theorem none_ok (A : AHeap) (Q : Value → AHeap → Prop) (hq : ∀ A', Ext NoB A A' → Q (.agg ⟨dz⟩) A') : wF T (.func (.func 140) #[] #[]) [] A Q := by
  refine wF_func (first := []) (captured := []) t140 ⟨rfl, by decide⟩ ?_
  dsimp only [c140]
  simp
  exact hq _ (by (repeat first | exact Ext.refl | assumption | refine Ext.allocN ?_ | refine Ext.setN ?_ (by first | omega | (simp; done) | (simp; omega))))
/-- A reader: its cursor, and whether numbers are long. -/
theorem rnum_ok (A : AHeap) (q p : Nat) (c : Cur) (l : Bool) (g : A.get q = some (.cells [.pointer (some ⟨p, 0, none⟩), .bool l] false 0)) (hc : CurAt A p c) (Q : Value → AHeap → Prop) (hq : ∀ A', CurAt A' p (c.go (wide l)) → Ext (fun j => j = p) A A' → Q (.int .u64 (val (c.got (wide l)) : Nat)) A') :
    wF T (.func (.func 142) ⟨[.pointer (some ⟨q, 0, none⟩)]⟩ ⟨[]⟩) [] A Q := by
  refine wF_func (first := [.pointer (some ⟨q, 0, none⟩)]) (captured := []) t142 ⟨rfl, by decide⟩ ?_
  dsimp only [c142]
  cases l with
  | true =>
    simp [g]
    refine U64_ok A p c hc _ fun A1 h1 e1 => ?_
    simp
    exact hq A1 h1 e1
  | false =>
    simp [g]
    refine U32_ok A p c hc _ fun A1 h1 e1 => ?_
    have hw : IntKind.u64.wrap ((val (c.got 4) : Nat) : Int) = (val (c.got 4) : Nat) := by
      refine IntWalk.u64_in _ ?_
      have := val_p (c.got 4) 0 4
      have h2 : seg (c.got 4) 0 4 = c.got 4 := List.take_of_length_le (by unfold Cur.got; split <;> simp; omega)
      rw [h2] at this
      omega
    simp [hw]
    exact hq A1 h1 e1
/-- What a signal's body is read as, by cursors. -/
def Ds.fill (b : UInt8) (c : Cur) : Ds × Cur :=
  let ha := decide (b.toNat % 2 = 1)
  let la := ha && decide (b.toNat / 2 % 2 = 1)
  let hm := decide (b.toNat / 4 % 2 = 1)
  let ld := hm && decide (b.toNat / 8 % 2 = 1)
  let c1 := c.on ha (wide la)
  let c2 := c1.on hm (wide ld)
  let c3 := c2.on hm 4
  let c4 := c3.on hm 2
  let hs := hm && decide (c4.left = 2)
  (⟨hm && decide (b.toNat / 16 % 2 = 1), ha, la, c.num ha (wide la), hm, ld, c1.num hm (wide ld), c2.num hm 4, (c3.num hm 2 : Nat), hs, c4.num hs 2⟩, c4.on hs 2)
def Ds.res (x : Ds × Cur) : Except Int Ds := if x.2.end_ = 0 then .ok x.1 else .error x.2.end_
end Go.Proofs.YtigknpfjhegkgaaGreatDoor
end
