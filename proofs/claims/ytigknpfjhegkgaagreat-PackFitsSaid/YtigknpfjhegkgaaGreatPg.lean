/- Addresses, and small options, laid. -/
import Derived.Test.YtigknpfjhegkgaaGreatPf
import Derived.KernelRfl
namespace Go.Proofs.YtigknpfjhegkgaaGreat
open Go Go.AS
set_option maxRecDepth 100000
set_option linter.unusedSimpArgs false
set_option linter.unusedVariables false
attribute [local irreducible] Trie.set Trie.get Env.rd
attribute [local simp ↓] wV_b2s
attribute [local simp] Nat.add_assoc wD_cons'' wD_nil' wC_seq wC_ops wC_opsD_nil wC_cond wC_skip wC_ret wC_exit wC_block wO_cons' wO_nil wantedA wV_eq lop qop ev wL_some wL_none wPut envOf rd_set rd_leaf eqA thenC blockC wB_true wB_false endF unwindA resultsA resA tupleA rdCell rdCells wrCells cl fillP lay rep binA unA get_set' AHeap.get_alloc oneCell beqd bned idxA

theorem catA_map (xs : List (List UInt8)) : catA (xs.map fun l => Value.string ⟨⟨l⟩⟩) = some xs.flatten := by
  induction xs with
  | nil => rfl
  | cons x xs ih => simp only [List.map_cons, catA, ih]; rfl
theorem together_ok (A : AHeap) (xs : List (List UInt8)) (b : Nat) (hb : A.get b = some (.cells (xs.map fun l => Value.string ⟨⟨l⟩⟩) false 0)) (hn : xs.length ≤ 64) (hl : xs.flatten.length ≤ 140737488355328) (Q : Value → AHeap → Prop) (hq : Q (.string ⟨⟨xs.flatten⟩⟩) A) :
    wF T (.func (.func 104) #[] #[]) [.slice (some ⟨b, 0, none⟩) xs.length xs.length] A Q := by
  refine wF_func (first := []) (captured := []) t104 ⟨rfl, by decide⟩ ?_
  dsimp only [c104]
  simp
  refine wF_func (first := []) (captured := []) t139 ⟨rfl, by decide⟩ ?_
  dsimp only [specFn]
  have hc : (xs.length < OPEN) = True := eq_true (Nat.lt_of_le_of_lt hn (by decide))
  have ht : (xs.map fun l => Value.string ⟨⟨l⟩⟩).take xs.length = xs.map fun l => Value.string ⟨⟨l⟩⟩ := List.take_of_length_le (by simp)
  have hl' : (List.map List.length xs).sum ≤ 140737488355328 := by rwa [List.length_flatten] at hl
  simp [specA, hc, hn, hb, ht, catA_map, hl']
  simpa using hq
theorem aenc_ok (A : AHeap) (x : Ad) (hw : x.W) (Q : Value → AHeap → Prop) (hq : ∀ A', Ext NoB A A' → Q (resE x.enc) A') : wF T (.func (.func 45) #[] #[]) [.agg ⟨x.cells⟩] A Q := by
  refine wF_func (first := []) (captured := []) t45 ⟨rfl, by decide⟩ ?_
  dsimp only [c45]
  have hc := Ad.cells_eq x
  simp [hc]
  generalize hA1 : A.alloc _ = A1
  obtain ⟨g1, e1, z1⟩ := alloc_facts hA1
  refine admay_ok A1 x hw _ fun A2 e2 => ?_
  have g2 := e2.get g1 id
  have e12 := e1.trans e2
  cases hm : x.may
  · have := hq A2 e12
    rw [Ad.enc, hm] at this
    simp
    exact this
  have hq' : ∀ A', Ext NoB A A' → Q (.tuple ⟨[.string ⟨⟨x.body⟩⟩, .int .i64 0]⟩) A' := fun A' e => by
    have := hq A' e
    rwa [Ad.enc, hm] at this
  have hm' := hm
  simp only [Ad.may, Bool.and_eq_true, Bool.or_eq_true, decide_eq_true_eq] at hm'
  obtain ⟨⟨⟨⟨h1, h2⟩, h3⟩, h4⟩, h5⟩ := hm'
  obtain ⟨n, hn, hn2⟩ : ∃ n : Nat, x.id = n ∧ n < 256 := ⟨x.id.toNat, by omega, by omega⟩
  obtain ⟨p, hp, hp2⟩ : ∃ n : Nat, x.port = n ∧ n < 65536 := ⟨x.port.toNat, by omega, by omega⟩
  have hnw : IntKind.u8.wrap (n : Int) = n := IntWalk.u8_in _ (by omega)
  have hpw : IntKind.u16.wrap (p : Int) = p := IntWalk.u16_in _ (by omega)
  have hml : x.mac.length ≤ 8 := by rw [h5]; split <;> omega
  have last : ∀ (A3 : AHeap) (env : Env) (pt : List UInt8), A3.get A.size = some (.cells [.bool x.echo, .int .i64 x.id, .string ⟨⟨x.ip⟩⟩, .bool x.hasPort, .int .i64 x.port, .string ⟨⟨x.mac⟩⟩] false 0) → Ext NoB A A3 → pt = (if x.hasPort then be x.port.toNat 2 else []) → env.rd 1 = .pointer (some ⟨A.size, 0, none⟩) → env.rd 4 = .int .u8 ((if x.echo then 49 else 48 : Nat) : Int) → env.rd 5 = .string ⟨⟨pt⟩⟩ →
      wC T 45 none c45t { env := env, n := 32, dfs := [], A := A3 } (endF [.inl 2, .inl 3] Q) := by
    intro A3 env pt g3 e3 hpt r1 r4 r5
    dsimp only [c45t]
    have hptl : pt.length ≤ 2 := by rw [hpt]; split <;> simp [be_len]
    simp
    refine wC_opsD_chk ?_
    simp [r1, r4, r5, g3]
    refine Put8_ok A3 [] (if x.echo then 49 else 48) (by split <;> omega) _ (by decide) fun A4 e4 => ?_
    have g4 := e4.get g3 id
    simp [r1, r4, r5, g4, hn, hnw]
    refine Put8_ok A4 [] n (by omega) _ (by decide) fun A5 e5 => ?_
    have g5 := e5.get g4 id
    simp [r1, r5, g5]
    generalize hA6 : AHeap.alloc A5 _ = A6
    obtain ⟨g6, e6, z6⟩ := alloc_facts hA6
    have gx6 := e6.get g5 id
    refine together_ok A6 [be (if x.echo then 49 else 48) 1, be n 1, x.ip, pt, x.mac] A5.size (by rw [g6]; simp) (by simp) (by simp [be_len]; omega) _ ?_
    simp
    refine wE_intro ?_ ?_
    · simp only [List.all_cons, List.all_nil, chkOk, List.nil_append, List.cons_append, List.getElem?_cons_succ, List.getElem?_cons_zero]
      simp [Bx, r1, r4, r5, g3, g4, g5, hn, vbeq]
    · have := hq' A6 (((e3.trans e4).trans e5).trans e6)
      have hbd : x.body = be (if x.echo then 49 else 48) 1 ++ be n 1 ++ x.ip ++ pt ++ x.mac := by simp [Ad.body, hn, hpt]
      rw [hbd] at this
      simp
      simpa using this
  cases hpp : x.hasPort
  · cases he : x.echo
    · simp [g2, he, hpp]
      exact last A2 _ [] (by rw [g2]) e12 (by simp [hpp]) (by simp) (by simp [he]) (by simp)
    · simp [g2, he, hpp, IntKind.bits, show IntKind.u8.wrap 49 = 49 by decide]
      exact last A2 _ [] (by rw [g2]) e12 (by simp [hpp]) (by simp) (by simp [he]) (by simp)
  · cases he : x.echo
    · simp [g2, he, hpp, hp, hpw]
      refine Put16_ok A2 [] p (by omega) _ (by decide) fun A3 e3 => ?_
      simp
      exact last A3 _ (be p 2) (e3.get g2 id) (e12.trans e3) (by simp [hpp, hp]) (by simp) (by simp [he]) (by simp)
    · simp [g2, he, hpp, hp, hpw, IntKind.bits, show IntKind.u8.wrap 49 = 49 by decide]
      refine Put16_ok A2 [] p (by omega) _ (by decide) fun A3 e3 => ?_
      simp
      exact last A3 _ (be p 2) (e3.get g2 id) (e12.trans e3) (by simp [hpp, hp]) (by simp) (by simp [he]) (by simp)

def remE (l : List UInt8) : Option (List UInt8) := if 1 ≤ l.length ∧ l.length ≤ 37 then some (64 :: l) else none
theorem renc_ok (A : AHeap) (l : List UInt8) (hl : l.length < 200000000000000) (Q : Value → AHeap → Prop) (hq : ∀ A', Ext NoB A A' → Q (resE (remE l)) A') : wF T (.func (.func 49) #[] #[]) [.agg ⟨[.string ⟨⟨l⟩⟩]⟩] A Q := by
  refine wF_func (first := []) (captured := []) t49 ⟨rfl, by decide⟩ ?_
  dsimp only [c49]
  simp
  generalize hA1 : A.alloc _ = A1
  obtain ⟨g1, e1, z1⟩ := alloc_facts hA1
  by_cases h0 : l.length = 0
  · have h0' : l = [] := List.length_eq_zero_iff.1 h0
    have := hq A1 e1
    rw [remE, if_neg (by omega)] at this
    simp [g1, h0, h0', undef]
    exact this
  · have h0' : ¬ l = [] := fun q => h0 (by rw [q]; rfl)
    by_cases h1 : 37 < l.length
    · have := hq A1 e1
      rw [remE, if_neg (by omega)] at this
      simp [g1, h0, h0', h1, show (37 : Int) < (l.length : Int) by omega]
      exact this
    · have hq' : ∀ A', Ext NoB A A' → Q (.tuple ⟨[.string ⟨⟨64 :: l⟩⟩, .int .i64 0]⟩) A' := fun A' e => by
        have := hq A' e
        rwa [remE, if_pos (by omega)] at this
      simp [g1, h0, h0', show ¬ (37 : Int) < (l.length : Int) by omega]
      refine wC_opsD_chk ?_
      simp
      refine Put8_ok A1 [] 64 (by decide) _ (by decide) fun A2 e2 => ?_
      have g2 := e2.get g1 id
      simp [g2]
      generalize hA3 : AHeap.alloc A2 _ = A3
      obtain ⟨g3, e3, z3⟩ := alloc_facts hA3
      refine together_ok A3 [be 64 1, l] A2.size (by rw [g3]; simp) (by simp) (by simp [be_len]; omega) _ ?_
      simp
      refine wE_intro ?_ ?_
      · simp only [List.all_cons, List.all_nil, chkOk, List.nil_append, List.cons_append, List.getElem?_cons_succ, List.getElem?_cons_zero]
        simp [Bx, g1, g2, vbeq]
      · have := hq' A3 ((e1.trans e2).trans e3)
        simp
        exact this
def prioE (b : Bool) : List UInt8 := be (if b then 81 else 80) 1
theorem penc_ok (A : AHeap) (b : Bool) (Q : Value → AHeap → Prop) (hq : ∀ A', Ext NoB A A' → Q (resE (some (prioE b))) A') : wF T (.func (.func 53) #[] #[]) [.agg ⟨[.bool b]⟩] A Q := by
  refine wF_func (first := []) (captured := []) t53 ⟨rfl, by decide⟩ ?_
  dsimp only [c53]
  simp
  generalize hA1 : A.alloc _ = A1
  obtain ⟨g1, e1, z1⟩ := alloc_facts hA1
  cases b
  · simp [g1]
    refine Put8_ok A1 [] 80 (by decide) _ (by decide) fun A2 e2 => ?_
    simp
    exact hq A2 (e1.trans e2)
  · simp [g1, IntKind.bits, show IntKind.u8.wrap 81 = 81 by decide]
    refine Put8_ok A1 [] 81 (by decide) _ (by decide) fun A2 e2 => ?_
    simp
    exact hq A2 (e1.trans e2)
theorem front_ok (A : AHeap) (s : Nat) (hs : s < 16) (Q : Value → AHeap → Prop) (hq : ∀ A', Ext NoB A A' → Q (.string ⟨⟨be (s * 4096) 2⟩⟩) A') : wF T (.func (.func 110) #[] #[]) [.int .i64 (s : Nat)] A Q := by
  refine wF_func (first := []) (captured := []) t110 ⟨rfl, by decide⟩ ?_
  dsimp only [c110]
  obtain ⟨m, hm⟩ : ∃ m : Nat, s * 4096 = m := ⟨_, rfl⟩
  rw [hm] at hq
  have h1 : IntKind.i64.wrap ((s : Int) * 4096) = (m : Int) := by rw [IntWalk.i64_in _ (by omega)]; omega
  have h2 : IntKind.u16.wrap (m : Int) = (m : Int) := IntWalk.u16_in _ (by omega)
  simp [IntKind.bits, h1, h2]
  refine Put16_ok A [] m (by omega) _ (by decide) fun A1 e1 => ?_
  simp
  exact hq A1 e1
def bigE (s n : Nat) : List UInt8 := be (s * 4096) 2 ++ be n 8
theorem fenc_ok (A : AHeap) (n : Nat) (hn : n < 256 ^ 8) (Q : Value → AHeap → Prop) (hq : ∀ A', Ext NoB A A' → Q (resE (some (bigE 6 n))) A') : wF T (.func (.func 57) #[] #[]) [.agg ⟨[.int .u64 (n : Nat)]⟩] A Q := by
  refine wF_func (first := []) (captured := []) t57 ⟨rfl, by decide⟩ ?_
  dsimp only [c57]
  simp
  generalize hA1 : A.alloc _ = A1
  obtain ⟨g1, e1, z1⟩ := alloc_facts hA1
  refine wC_opsD_chk ?_
  simp
  refine front_ok A1 6 (by decide) _ fun A2 e2 => ?_
  have g2 := e2.get g1 id
  simp [g2]
  refine Put64_ok A2 _ n hn _ (by simp [be_len]) fun A3 e3 => ?_
  simp
  refine wE_intro ?_ ?_
  · simp only [List.all_cons, List.all_nil, chkOk, List.nil_append, List.cons_append, List.getElem?_cons_succ, List.getElem?_cons_zero]
    simp [Bx, g1, g2, vbeq]
  · simp
    exact hq A3 ((e1.trans e2).trans e3)
theorem kenc_ok (A : AHeap) (n : Nat) (hn : n < 256 ^ 8) (Q : Value → AHeap → Prop) (hq : ∀ A', Ext NoB A A' → Q (resE (some (bigE 7 n))) A') : wF T (.func (.func 61) #[] #[]) [.agg ⟨[.int .u64 (n : Nat)]⟩] A Q := by
  refine wF_func (first := []) (captured := []) t61 ⟨rfl, by decide⟩ ?_
  dsimp only [c61]
  simp
  generalize hA1 : A.alloc _ = A1
  obtain ⟨g1, e1, z1⟩ := alloc_facts hA1
  refine wC_opsD_chk ?_
  simp
  refine front_ok A1 7 (by decide) _ fun A2 e2 => ?_
  have g2 := e2.get g1 id
  simp [g2]
  refine Put64_ok A2 _ n hn _ (by simp [be_len]) fun A3 e3 => ?_
  simp
  refine wE_intro ?_ ?_
  · simp only [List.all_cons, List.all_nil, chkOk, List.nil_append, List.cons_append, List.getElem?_cons_succ, List.getElem?_cons_zero]
    simp [Bx, g1, g2, vbeq]
  · simp
    exact hq A3 ((e1.trans e2).trans e3)
def rstE (f r : Int) : Option (List UInt8) := if 0 ≤ f ∧ f < 16 ∧ 0 ≤ r ∧ r < 256 then some (be (32768 + f.toNat * 256 + r.toNat) 2) else none
theorem shrI (n : Int) (m : Int) (hm : 0 < m) : (n.fdiv m = 0) ↔ (0 ≤ n ∧ n < m) := by
  rw [Int.fdiv_eq_ediv_of_nonneg _ (by omega)]
  constructor
  · intro h
    have h1 := Int.emod_add_mul_ediv n m
    have h2 := Int.emod_nonneg n (show m ≠ 0 by omega)
    have h3 := Int.emod_lt_of_pos n hm
    rw [h, Int.mul_zero] at h1
    omega
  · intro h
    exact Int.ediv_eq_zero_of_lt h.1 h.2
theorem tenc_ok (A : AHeap) (f r : Int) (Q : Value → AHeap → Prop) (hq : ∀ A', Ext NoB A A' → Q (resE (rstE f r)) A') : wF T (.func (.func 65) #[] #[]) [.agg ⟨[.int .i64 f, .int .i64 r]⟩] A Q := by
  refine wF_func (first := []) (captured := []) t65 ⟨rfl, by decide⟩ ?_
  dsimp only [c65]
  simp
  generalize hA1 : A.alloc _ = A1
  obtain ⟨g1, e1', z1⟩ := alloc_facts hA1
  have s1 := shrI f 16 (by decide)
  have s2 := shrI r 256 (by decide)
  by_cases h1 : 0 ≤ f ∧ f < 16
  · have s1' : f.fdiv 16 = 0 := s1.2 h1
    by_cases h2 : 0 ≤ r ∧ r < 256
    · have s2' : r.fdiv 256 = 0 := s2.2 h2
      obtain ⟨n, rfl, hn⟩ : ∃ n : Nat, f = n ∧ n < 16 := ⟨f.toNat, by omega, by omega⟩
      obtain ⟨m, rfl, hm⟩ : ∃ m : Nat, r = m ∧ m < 256 := ⟨r.toNat, by omega, by omega⟩
      have hq' : ∀ A', Ext NoB A A' → Q (.tuple ⟨[.string ⟨⟨be (32768 + n * 256 + m) 2⟩⟩, .int .i64 0]⟩) A' := fun A' e => by
        have := hq A' e
        rwa [rstE, if_pos (by omega), Int.toNat_natCast, Int.toNat_natCast] at this
      obtain ⟨a, ha⟩ : ∃ a : Nat, n * 256 = a := ⟨_, rfl⟩
      obtain ⟨b, hb⟩ : ∃ b : Nat, 32768 + a = b := ⟨_, rfl⟩
      obtain ⟨c, hc⟩ : ∃ c : Nat, b + m = c := ⟨_, rfl⟩
      rw [ha, hb, hc] at hq'
      have e1 : IntKind.i64.wrap ((n : Int) * 256) = (a : Nat) := by rw [IntWalk.i64_in _ (by omega)]; omega
      have e2 : ((32768#64 : BitVec 64) ||| BitVec.ofNat 64 a).toNat = b := by
        rw [BitVec.toNat_or, BitVec.toNat_ofNat, BitVec.toNat_ofNat, Nat.mod_eq_of_lt (by omega), Nat.mod_eq_of_lt (by omega)]
        have := Nat.two_pow_add_eq_or_of_lt (i := 15) (b := a) (by omega) 1
        rw [show 2 ^ 15 * 1 = 32768 from rfl] at this
        omega
      have e3 : (BitVec.ofNat 64 b ||| BitVec.ofNat 64 m).toNat = c := by
        rw [BitVec.toNat_or, BitVec.toNat_ofNat, BitVec.toNat_ofNat, Nat.mod_eq_of_lt (by omega), Nat.mod_eq_of_lt (by omega)]
        have := Nat.two_pow_add_eq_or_of_lt (i := 8) (b := m) (by omega) (128 + n)
        have e2 : 2 ^ 8 * (128 + n) = b := by omega
        rw [e2] at this
        omega
      simp [IntKind.bits, s1', s2', g1]
      generalize hz : IntKind.u16.wrap _ = z
      have hzc : z = (c : Nat) := by
        rw [← hz]
        show IntKind.u16.wrap (IntKind.i64.wrap (((BitVec.ofInt 64 (IntKind.i64.wrap ((((32768#64 : BitVec 64) ||| BitVec.ofInt 64 (IntKind.i64.wrap ((n : Int) * 256))).toNat : Nat) : Int)) ||| BitVec.ofNat 64 m).toNat : Nat) : Int)) = (c : Nat)
        rw [e1, BitVec.ofInt_natCast, e2, IntWalk.i64_in (b : Int) (by omega), BitVec.ofInt_natCast, e3, IntWalk.i64_in (c : Int) (by omega), IntWalk.u16_in (c : Int) (by omega)]
      subst hzc
      refine Put16_ok A1 [] c (by omega) _ (by decide) fun A2 e2 => ?_
      simp
      exact hq' A2 (e1'.trans e2)
    · have s2' : ¬ r.fdiv 256 = 0 := fun q => h2 (s2.1 q)
      have := hq A1 e1'
      rw [rstE, if_neg (by omega)] at this
      simp [g1, IntKind.bits, s1', s2']
      exact this
  · have s1' : ¬ f.fdiv 16 = 0 := fun q => h1 (s1.1 q)
    have := hq A1 e1'
    rw [rstE, if_neg (by omega)] at this
    simp [g1, IntKind.bits, s1', undef]
    exact this
end Go.Proofs.YtigknpfjhegkgaaGreat
