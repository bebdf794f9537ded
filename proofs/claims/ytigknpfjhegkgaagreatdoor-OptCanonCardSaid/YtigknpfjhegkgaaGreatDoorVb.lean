/- The option of ends that are capable, read. -/
import Derived.Test.YtigknpfjhegkgaaGreatDoorVa
import Derived.Test.YtigknpfjhegkgaaGreatDoorKe
import Derived.KernelRfl
namespace Go.Proofs.YtigknpfjhegkgaaGreatDoor
open Go Go.AS
set_option maxRecDepth 100000
set_option linter.unusedSimpArgs false
set_option linter.unusedVariables false

theorem bi_eql (k : IntKind) (a b : Int) : binA .eql (.int k a) (.int k b) = some (.bool (decide (a = b))) := by simp [binA, beqd]
theorem bi_neq (k : IntKind) (a b : Int) : binA .neq (.int k a) (.int k b) = some (.bool (!decide (a = b))) := by simp [binA, bned]
theorem bi_lss (k : IntKind) (a b : Int) : binA .lss (.int k a) (.int k b) = some (.bool (decide (a < b))) := by simp [binA]
theorem bi_leq (k : IntKind) (a b : Int) : binA .leq (.int k a) (.int k b) = some (.bool (decide (a ≤ b))) := by simp [binA]
theorem bi_gtr (k : IntKind) (a b : Int) : binA .gtr (.int k a) (.int k b) = some (.bool (decide (b < a))) := by simp [binA]
theorem bi_geq (k : IntKind) (a b : Int) : binA .geq (.int k a) (.int k b) = some (.bool (decide (b ≤ a))) := by simp [binA]
theorem bi_add (k : IntKind) (a b : Int) : binA .add (.int k a) (.int k b) = some (.int k (k.wrap (a + b))) := by simp [binA]
theorem bi_sub (k : IntKind) (a b : Int) : binA .sub (.int k a) (.int k b) = some (.int k (k.wrap (a - b))) := by simp [binA]
theorem bs_eql (a b : List UInt8) : binA .eql (.string ⟨⟨a⟩⟩) (.string ⟨⟨b⟩⟩) = some (.bool (decide (a = b))) := by simp [binA]; rw [Bool.eq_iff_iff]; simp
theorem bs_neq (a b : List UInt8) : binA .neq (.string ⟨⟨a⟩⟩) (.string ⟨⟨b⟩⟩) = some (.bool (!decide (a = b))) := by simp [binA]; rw [Bool.eq_iff_iff]; simp
theorem bi_shr4 (n : Nat) : binA .shr (.int .u8 (n : Nat)) (.int .u64 4) = some (.int .u8 ((n / 16 : Nat))) := by
  simp only [binA]
  rw [if_neg (by decide)]
  have : ((n : Int)).fdiv (2 ^ min (Int.toNat 4) IntKind.u8.bits) = ((n / 16 : Nat) : Int) := by
    show ((n : Int)).fdiv 16 = _
    rw [Int.fdiv_eq_ediv_of_nonneg _ (by omega)]; omega
  rw [this]
theorem bm15 (a : UInt8) : binA .and (.int .u8 (a.toNat : Nat)) (.int .u8 15) = some (.int .u8 ((a.toNat % 16 : Nat))) := by
  have : ∀ a : UInt8, IntKind.u8.wrap (BitVec.ofInt 8 (a.toNat : Nat) &&& BitVec.ofInt 8 15).toNat = ((a.toNat % 16 : Nat) : Int) := by apply allB; decide
  have h := this a
  simp only [binA, ne_eq, not_true_eq_false, if_false]
  rw [← h]; rfl
def bitI (b : Bool) (n : Int) : Int := if b then n else 0
theorem bitI_z (b : Bool) (n : Int) (h : n ≠ 0) : (bitI b n = 0) ↔ b = false := by cases b <;> simp [bitI, h]
theorem bm1 (a : UInt8) : binA .and (.int .u8 (a.toNat : Nat)) (.int .u8 1) = some (.int .u8 (bitI (decide (a.toNat / 1 % 2 = 1)) 1)) := by
  have : ∀ a : UInt8, IntKind.u8.wrap (BitVec.ofInt 8 (a.toNat : Nat) &&& BitVec.ofInt 8 1).toNat = bitI (decide (a.toNat / 1 % 2 = 1)) 1 := by apply allB; decide
  have h := this a
  simp only [binA, ne_eq, not_true_eq_false, if_false]
  rw [← h]; rfl
theorem bm2 (a : UInt8) : binA .and (.int .u8 (a.toNat : Nat)) (.int .u8 2) = some (.int .u8 (bitI (decide (a.toNat / 2 % 2 = 1)) 2)) := by
  have : ∀ a : UInt8, IntKind.u8.wrap (BitVec.ofInt 8 (a.toNat : Nat) &&& BitVec.ofInt 8 2).toNat = bitI (decide (a.toNat / 2 % 2 = 1)) 2 := by apply allB; decide
  have h := this a
  simp only [binA, ne_eq, not_true_eq_false, if_false]
  rw [← h]; rfl
theorem bm4 (a : UInt8) : binA .and (.int .u8 (a.toNat : Nat)) (.int .u8 4) = some (.int .u8 (bitI (decide (a.toNat / 4 % 2 = 1)) 4)) := by
  have : ∀ a : UInt8, IntKind.u8.wrap (BitVec.ofInt 8 (a.toNat : Nat) &&& BitVec.ofInt 8 4).toNat = bitI (decide (a.toNat / 4 % 2 = 1)) 4 := by apply allB; decide
  have h := this a
  simp only [binA, ne_eq, not_true_eq_false, if_false]
  rw [← h]; rfl
theorem bm8 (a : UInt8) : binA .and (.int .u8 (a.toNat : Nat)) (.int .u8 8) = some (.int .u8 (bitI (decide (a.toNat / 8 % 2 = 1)) 8)) := by
  have : ∀ a : UInt8, IntKind.u8.wrap (BitVec.ofInt 8 (a.toNat : Nat) &&& BitVec.ofInt 8 8).toNat = bitI (decide (a.toNat / 8 % 2 = 1)) 8 := by apply allB; decide
  have h := this a
  simp only [binA, ne_eq, not_true_eq_false, if_false]
  rw [← h]; rfl
theorem bm16 (a : UInt8) : binA .and (.int .u8 (a.toNat : Nat)) (.int .u8 16) = some (.int .u8 (bitI (decide (a.toNat / 16 % 2 = 1)) 16)) := by
  have : ∀ a : UInt8, IntKind.u8.wrap (BitVec.ofInt 8 (a.toNat : Nat) &&& BitVec.ofInt 8 16).toNat = bitI (decide (a.toNat / 16 % 2 = 1)) 16 := by apply allB; decide
  have h := this a
  simp only [binA, ne_eq, not_true_eq_false, if_false]
  rw [← h]; rfl
theorem bm32 (a : UInt8) : binA .and (.int .u8 (a.toNat : Nat)) (.int .u8 32) = some (.int .u8 (bitI (decide (a.toNat / 32 % 2 = 1)) 32)) := by
  have : ∀ a : UInt8, IntKind.u8.wrap (BitVec.ofInt 8 (a.toNat : Nat) &&& BitVec.ofInt 8 32).toNat = bitI (decide (a.toNat / 32 % 2 = 1)) 32 := by apply allB; decide
  have h := this a
  simp only [binA, ne_eq, not_true_eq_false, if_false]
  rw [← h]; rfl
theorem bm128 (a : UInt8) : binA .and (.int .u8 (a.toNat : Nat)) (.int .u8 128) = some (.int .u8 (bitI (decide (a.toNat / 128 % 2 = 1)) 128)) := by
  have : ∀ a : UInt8, IntKind.u8.wrap (BitVec.ofInt 8 (a.toNat : Nat) &&& BitVec.ofInt 8 128).toNat = bitI (decide (a.toNat / 128 % 2 = 1)) 128 := by apply allB; decide
  have h := this a
  simp only [binA, ne_eq, not_true_eq_false, if_false]
  rw [← h]; rfl

/-- What a body is read as, with what is told when it is none. -/
def resD {α : Type} (f : α → List Value) (z : List Value) : Except Int α → Value
  | .ok x => .tuple ⟨[.agg ⟨f x⟩, .int .i64 0]⟩
  | .error e => .tuple ⟨[.agg ⟨z⟩, .int .i64 e]⟩
theorem _root_.Go.AS.Ext.past {A A1 A2 : AHeap} {p : Nat} (h : Ext NoB A A1) (k : Ext (fun j => j = p) A1 A2) (hp : A.size ≤ p) : Ext NoB A A2 := h.trans2 k fun b hb hs => absurd hs (by omega)
def Cap.zero : Cap := ⟨0, 0, false, false, 0, 0, 0, 0⟩
theorem val1 (a : UInt8) (l : List UInt8) : val (List.take 1 (a :: l)) = a.toNat := by simp [val]
theorem Cur.go_ok {c : Cur} {n : Nat} (h : c.br = false) (k : c.at_ + n ≤ c.s.length) : c.go n = ⟨c.s, c.at_ + n, false⟩ ∧ c.got n = seg c.s c.at_ n := by
  have : c.ok n = true := by simp [Cur.ok, h, k]
  obtain ⟨s, i, b⟩ := c
  simp only at h; subst h
  simp [Cur.go, Cur.got, this, seg]
theorem Cur.go_no {c : Cur} {n : Nat} (h : c.br = true ∨ c.s.length < c.at_ + n) : c.go n = ⟨c.s, c.at_, true⟩ ∧ c.got n = [] := by
  have : c.ok n = false := by
    rcases h with h | h
    · simp [Cur.ok, h]
    · simp [Cur.ok]; intro _; omega
  obtain ⟨s, i, b⟩ := c
  simp [Cur.go, Cur.got, this]
attribute [local irreducible] Trie.set Trie.get Env.rd
attribute [local simp ↓] wV_b2s
attribute [local simp] Nat.add_assoc wD_cons'' wD_nil' wC_seq wC_ops wC_opsD_nil wC_cond wC_skip wC_ret wC_exit wC_block wO_cons' wO_nil wantedA wV_eq lop qop ev wL_some wL_none wPut envOf rd_set rd_leaf eqA thenC blockC wB_true wB_false endF unwindA resultsA resA tupleA rdCell rdCells wrCells cl fillP lay rep bi_eql bi_neq bi_lss bi_leq bi_gtr bi_geq bi_add bi_sub bs_eql bs_neq bi_shr4 unA get_set' AHeap.get_alloc oneCell beqd bned idxA

theorem form_ok (A : AHeap) (v : Int) (n : Nat) (hv : v = (n : Nat)) (hn : n < 1000000) (Q : Value → AHeap → Prop) (hq : Q (.tuple ⟨[.int .i64 ((if n = 2 then 0 else if n = 10 then 1 else if n = 18 then 2 else if n = 20 then 3 else if n = 22 then 4 else 0 : Nat) : Int), .bool (decide (n = 2 ∨ n = 10 ∨ n = 18 ∨ n = 20 ∨ n = 22))]⟩) A) : wF T (.func (.func 123) #[] #[]) [.int .i64 v] A Q := by
  subst hv
  refine wF_func (first := []) (captured := []) t123 ⟨rfl, by decide⟩ ?_
  dsimp only [c123]
  by_cases h2 : n = 2
  · subst h2; simp; exact hq
  by_cases h10 : n = 10
  · subst h10; simp; exact hq
  by_cases h18 : n = 18
  · subst h18; simp [binA]; exact hq
  by_cases h20 : n = 20
  · subst h20; simp [binA]; exact hq
  by_cases h22 : n = 22
  · subst h22; simp [binA]; exact hq
  have e2 : ¬ (n : Int) = 2 := by omega
  have e10 : ¬ (n : Int) = 10 := by omega
  have e18 : ¬ (n : Int) = 18 := by omega
  have e20 : ¬ (n : Int) = 20 := by omega
  have e22 : ¬ (n : Int) = 22 := by omega
  simp [e2, e10, e18, e20, e22]
  simpa [h2, h10, h18, h20, h22] using hq
def Cur.on (c : Cur) (b : Bool) (n : Nat) : Cur := if b then c.go n else c
def Cur.num (c : Cur) (b : Bool) (n : Nat) : Nat := if b then val (c.got n) else 0
theorem key1_ok (A : AHeap) (q5 q7 p f m : Nat) (c : Cur) (g5 : A.get q5 = some (.cells [.int .i64 (f : Nat)] false 0)) (g7 : A.get q7 = some (.cells [.pointer (some ⟨p, 0, none⟩)] false 0)) (hc : CurAt A p c) (Q : Value → AHeap → Prop)
    (hq : ∀ A', CurAt A' p (c.on (decide (m ≤ f)) 8) → Ext (fun j => j = p) A A' → Q (.int .u64 (c.num (decide (m ≤ f)) 8 : Nat)) A') : wF T (.func (.func 125) ⟨[]⟩ ⟨[.pointer (some ⟨q5, 0, none⟩), .pointer (some ⟨q7, 0, none⟩)]⟩) [.int .i64 (m : Nat)] A Q := by
  refine wF_func (first := []) (captured := [.pointer (some ⟨q5, 0, none⟩), .pointer (some ⟨q7, 0, none⟩)]) t125 ⟨rfl, by decide⟩ ?_
  dsimp only [c125]
  by_cases h : m ≤ f
  · simp only [Cur.on, Cur.num, decide_eq_true h, if_true] at hq
    simp [g5, g7, h]
    refine U64_ok A p c hc _ fun A1 h1 e1 => ?_
    simp
    exact hq A1 h1 e1
  · simp only [Cur.on, Cur.num, decide_eq_false h, Bool.false_eq_true, if_false] at hq
    simp [g5, g7, h]
    exact hq A hc Ext.refl
theorem key2_ok (A : AHeap) (q5 q7 p f m : Nat) (c : Cur) (g5 : A.get q5 = some (.cells [.int .i64 (f : Nat)] false 0)) (g7 : A.get q7 = some (.cells [.pointer (some ⟨p, 0, none⟩)] false 0)) (hc : CurAt A p c) (Q : Value → AHeap → Prop)
    (hq : ∀ A', CurAt A' p (c.on (decide (m ≤ f)) 2) → Ext (fun j => j = p) A A' → Q (.int .u16 (c.num (decide (m ≤ f)) 2 : Nat)) A') : wF T (.func (.func 127) ⟨[]⟩ ⟨[.pointer (some ⟨q5, 0, none⟩), .pointer (some ⟨q7, 0, none⟩)]⟩) [.int .i64 (m : Nat)] A Q := by
  refine wF_func (first := []) (captured := [.pointer (some ⟨q5, 0, none⟩), .pointer (some ⟨q7, 0, none⟩)]) t127 ⟨rfl, by decide⟩ ?_
  dsimp only [c127]
  by_cases h : m ≤ f
  · simp only [Cur.on, Cur.num, decide_eq_true h, if_true] at hq
    simp [g5, g7, h]
    refine U16_ok A p c hc _ fun A1 h1 e1 => ?_
    simp
    exact hq A1 h1 e1
  · simp only [Cur.on, Cur.num, decide_eq_false h, Bool.false_eq_true, if_false] at hq
    simp [g5, g7, h]
    exact hq A hc Ext.refl
def cz : List Value := [.int .i64 0, .int .i64 0, .bool false, .bool false, .int .u64 0, .int .u64 0, .int .i64 0, .int .u16 0]
def Cap.read (f : Nat) (a b : UInt8) (c : Cur) : Cap :=
  let c1 := c.on (decide (1 ≤ f)) 8
  let c2 := c1.on (decide (2 ≤ f)) 8
  let c3 := c2.on (decide (3 ≤ f)) 2
  ⟨(f : Nat), (a.toNat % 16 : Nat), decide (b.toNat / 128 % 2 = 1), decide (b.toNat / 32 % 2 = 1), c.num (decide (1 ≤ f)) 8, c1.num (decide (2 ≤ f)) 8, (c2.num (decide (3 ≤ f)) 2 : Nat), c3.num (decide (4 ≤ f)) 2⟩
theorem cdt_ok (A0 A : AHeap) (f : Nat) (a b : UInt8) (q2 q5 q7 p : Nat) (c : Cur) (env : Env) (Q : Value → AHeap → Prop) (g2 : A.get q2 = some (.cells cz false 0)) (g5 : A.get q5 = some (.cells [.int .i64 (f : Nat)] false 0)) (g7 : A.get q7 = some (.cells [.pointer (some ⟨p, 0, none⟩)] false 0)) (hc : CurAt A p c)
    (n2 : q2 ≠ p) (n5 : q5 ≠ p) (n7 : q7 ≠ p) (ex : Ext NoB A0 A) (l2 : A0.size ≤ q2) (lp : A0.size ≤ p)
    (r2 : env.rd 2 = .pointer (some ⟨q2, 0, none⟩)) (r5 : env.rd 5 = .pointer (some ⟨q5, 0, none⟩)) (r8 : env.rd 8 = .func (.func 125) ⟨[]⟩ ⟨[.pointer (some ⟨q5, 0, none⟩), .pointer (some ⟨q7, 0, none⟩)]⟩) (r9 : env.rd 9 = .func (.func 127) ⟨[]⟩ ⟨[.pointer (some ⟨q5, 0, none⟩), .pointer (some ⟨q7, 0, none⟩)]⟩)
    (r10 : env.rd 10 = .int .u8 (a.toNat : Nat)) (r11 : env.rd 11 = .int .u8 (b.toNat : Nat))
    (hq : ∀ A', Ext NoB A0 A' → Q (.tuple ⟨[.agg ⟨(Cap.read f a b c).cells⟩, .int .i64 0]⟩) A') : wC T 75 none c75t { env := env, n := 68, dfs := [], A := A } (endF [.inr (2, 8, true), .inl 3] Q) := by
  dsimp only [c75t]
  have y1 := bm15 a
  have y2 := bm128 b
  have y3 := bm32 b
  have w1 : IntKind.i64.wrap ((a.toNat % 16 : Nat) : Int) = ((a.toNat % 16 : Nat) : Int) := IntWalk.i64_in _ (by omega)
  simp only [Cap.read, Cap.cells] at hq
  generalize decide (b.toNat / 128 % 2 = 1) = s at hq y2
  generalize decide (b.toNat / 32 % 2 = 1) = al at hq y3
  generalize a.toNat % 16 = v at hq y1 w1
  simp [r2, r5, r8, r9, r10, r11, g5, y1, y2, y3, w1, bitI_z]
  have lA := AHeap.get_lt g2
  have l5 := AHeap.get_lt g5
  have l7 := AHeap.get_lt g7
  have lpp := AHeap.get_lt hc.g
  generalize hB : AHeap.set _ _ _ = B
  have b2 : B.get q2 = some (.cells cz false 0) := by subst hB; simp [g2, show q2 ≠ A.size by omega]
  have b5 : B.get q5 = some (.cells [.int .i64 (f : Nat)] false 0) := by subst hB; simp [g5, show q5 ≠ A.size by omega]
  have b7 : B.get q7 = some (.cells [.pointer (some ⟨p, 0, none⟩)] false 0) := by subst hB; simp [g7, show q7 ≠ A.size by omega]
  have b12 : B.get A.size = some (.cells [.int .i64 (f : Nat), .int .i64 (v : Nat), .bool s, .bool al, .int .u64 0, .int .u64 0, .int .i64 0, .int .u16 0] false 0) := by subst hB; simp
  have eAB : Ext NoB A B := by subst hB; (repeat first | exact Ext.refl | assumption | refine Ext.allocN ?_ | refine Ext.setN ?_ (by first | omega | (simp; done) | (simp; omega)))
  have bc : CurAt B p c := hc.ext eAB id
  have n12 : A.size ≠ p := by omega
  have eB := ex.trans eAB
  refine key1_ok B q5 q7 p f 1 c b5 b7 bc _ fun C cc e1 => ?_
  have c2 := e1.get b2 n2
  have c5 := e1.get b5 n5
  have c7 := e1.get b7 n7
  have c12 := e1.get b12 n12
  have eC := eB.past e1 lp
  have lC := AHeap.get_lt c12
  simp [r8, c12, lC]
  generalize hD : AHeap.set _ _ _ = D
  have hA0 := ex.size
  have sD : ∀ j, j ≠ A.size → D.get j = C.get j := by subst hD; intro j hj; simp [hj]
  have eCD : Ext (fun j => j = A.size) C D := by subst hD; exact Ext.set rfl
  have d12 : D.get A.size = some (.cells [.int .i64 (f : Nat), .int .i64 (v : Nat), .bool s, .bool al, .int .u64 (c.num (decide (1 ≤ f)) 8 : Nat), .int .u64 0, .int .i64 0, .int .u16 0] false 0) := by subst hD; simp [lC]
  have dc := cc.ext eCD n12.symm
  refine key1_ok D q5 q7 p f 2 _ ((sD q5 (by omega)).trans c5) ((sD q7 (by omega)).trans c7) dc _ fun E ec e2 => ?_
  have x2 := e2.get ((sD q2 (by omega)).trans c2) n2
  have x5 := e2.get ((sD q5 (by omega)).trans c5) n5
  have x7 := e2.get ((sD q7 (by omega)).trans c7) n7
  have x12 := e2.get d12 n12
  have eE := (eC.past eCD hA0).past e2 lp
  have lE := AHeap.get_lt x12
  simp [r9, x12, lE]
  generalize hF : AHeap.set _ _ _ = F
  have sF : ∀ j, j ≠ A.size → F.get j = E.get j := by subst hF; intro j hj; simp [hj]
  have eEF : Ext (fun j => j = A.size) E F := by subst hF; exact Ext.set rfl
  generalize (c.on (decide (1 ≤ f)) 8).num (decide (2 ≤ f)) 8 = k2 at hq hF
  have f12 : F.get A.size = some (.cells [.int .i64 (f : Nat), .int .i64 (v : Nat), .bool s, .bool al, .int .u64 (c.num (decide (1 ≤ f)) 8 : Nat), .int .u64 (k2 : Nat), .int .i64 0, .int .u16 0] false 0) := by subst hF; simp [lE]
  have fc := ec.ext eEF n12.symm
  refine key2_ok F q5 q7 p f 3 _ ((sF q5 (by omega)).trans x5) ((sF q7 (by omega)).trans x7) fc _ fun G gc e3 => ?_
  have y2 := e3.get ((sF q2 (by omega)).trans x2) n2
  have y5 := e3.get ((sF q5 (by omega)).trans x5) n5
  have y7 := e3.get ((sF q7 (by omega)).trans x7) n7
  have y12 := e3.get f12 n12
  have eG := (eE.past eEF hA0).past e3 lp
  have lG := AHeap.get_lt y12
  have k3w : IntKind.i64.wrap ((((c.on (decide (1 ≤ f)) 8).on (decide (2 ≤ f)) 8).num (decide (3 ≤ f)) 2 : Nat) : Int) = (((c.on (decide (1 ≤ f)) 8).on (decide (2 ≤ f)) 8).num (decide (3 ≤ f)) 2 : Nat) := by
    refine IntWalk.i64_in _ ?_
    generalize (c.on (decide (1 ≤ f)) 8).on (decide (2 ≤ f)) 8 = c'
    have := val_p (c'.got 2) 0 2
    have h2 : seg (c'.got 2) 0 2 = c'.got 2 := List.take_of_length_le (by unfold Cur.got; split <;> simp; omega)
    rw [h2] at this
    unfold Cur.num
    split <;> omega
  generalize ((c.on (decide (1 ≤ f)) 8).on (decide (2 ≤ f)) 8).num (decide (3 ≤ f)) 2 = k3 at hq k3w
  simp [r9, y12, lG, k3w]
  generalize hH : AHeap.set _ _ _ = H
  have sH : ∀ j, j ≠ A.size → H.get j = G.get j := by subst hH; intro j hj; simp [hj]
  have eGH : Ext (fun j => j = A.size) G H := by subst hH; exact Ext.set rfl
  have h12 : H.get A.size = some (.cells [.int .i64 (f : Nat), .int .i64 (v : Nat), .bool s, .bool al, .int .u64 (c.num (decide (1 ≤ f)) 8 : Nat), .int .u64 (k2 : Nat), .int .i64 (k3 : Nat), .int .u16 0] false 0) := by subst hH; simp [lG]
  have hcc := gc.ext eGH n12.symm
  refine key2_ok H q5 q7 p f 4 _ ((sH q5 (by omega)).trans y5) ((sH q7 (by omega)).trans y7) hcc _ fun I ic e4 => ?_
  have z2 := e4.get ((sH q2 (by omega)).trans y2) n2
  have z12 := e4.get h12 n12
  have eI := (eG.past eGH hA0).past e4 lp
  have lI := AHeap.get_lt z12
  have lI2 := AHeap.get_lt z2
  simp [r2, z12, z2, lI, lI2, cz, show q2 ≠ A.size by omega]
  refine hq _ ?_
  exact (eI.past (Ext.set rfl) hA0).past (Ext.set rfl) l2
end Go.Proofs.YtigknpfjhegkgaaGreatDoor
