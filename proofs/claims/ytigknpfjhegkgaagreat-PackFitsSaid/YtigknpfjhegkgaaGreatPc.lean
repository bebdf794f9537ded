/- The option of ends that are capable, laid. -/
import Derived.Test.YtigknpfjhegkgaaGreatPb
import Derived.KernelRfl
namespace Go.Proofs.YtigknpfjhegkgaaGreat
open Go Go.AS
set_option maxRecDepth 100000
set_option linter.unusedSimpArgs false
set_option linter.unusedVariables false
attribute [local irreducible] Trie.set Trie.get Env.rd
attribute [local simp ↓] wV_b2s
attribute [local simp] Nat.add_assoc wD_cons'' wD_nil' wC_seq wC_ops wC_opsD_nil wC_cond wC_skip wC_ret wC_exit wC_block wO_cons' wO_nil wantedA wV_eq lop qop ev wL_some wL_none wPut envOf rd_set rd_leaf eqA thenC blockC wB_true wB_false endF unwindA resultsA resA tupleA rdCell rdCells wrCells cl fillP lay rep binA unA get_set' AHeap.get_alloc oneCell beqd bned idxA

theorem bin_or (k : IntKind) (a b : Nat) (ha : a < 2 ^ k.bits) (hb : b < 2 ^ k.bits) : binA .or (.int k (a : Nat)) (.int k (b : Nat)) = some (.int k (k.wrap ((a ||| b : Nat) : Int))) := by
  simp only [binA, ne_eq, not_true_eq_false, if_false]
  rw [BitVec.toNat_or, BitVec.ofInt_natCast, BitVec.ofInt_natCast, BitVec.toNat_ofNat, BitVec.toNat_ofNat, Nat.mod_eq_of_lt ha, Nat.mod_eq_of_lt hb]
theorem bin_and (k : IntKind) (a b : Nat) (ha : a < 2 ^ k.bits) (hb : b < 2 ^ k.bits) : binA .and (.int k (a : Nat)) (.int k (b : Nat)) = some (.int k (k.wrap ((a &&& b : Nat) : Int))) := by
  simp only [binA, ne_eq, not_true_eq_false, if_false]
  rw [BitVec.toNat_and, BitVec.ofInt_natCast, BitVec.ofInt_natCast, BitVec.toNat_ofNat, BitVec.toNat_ofNat, Nat.mod_eq_of_lt ha, Nat.mod_eq_of_lt hb]
structure Cap where
  form : Int
  ver : Int
  sums : Bool
  alone : Bool
  own : Nat
  peer : Nat
  len : Int
  sum : Nat
  deriving DecidableEq
def Cap.cells (x : Cap) : List Value := [.int .i64 x.form, .int .i64 x.ver, .bool x.sums, .bool x.alone, .int .u64 (x.own : Nat), .int .u64 (x.peer : Nat), .int .i64 x.len, .int .u16 (x.sum : Nat)]
structure Cap.W (x : Cap) : Prop where
  own : x.own < 256 ^ 8
  peer : x.peer < 256 ^ 8
  sum : x.sum < 256 ^ 2
def Cap.lacks (x : Cap) : Bool := decide ((x.form = 0 → x.own = 0) ∧ (x.form = 0 ∨ x.form = 1 → x.peer = 0) ∧ (x.form = 0 ∨ x.form = 1 ∨ x.form = 2 → x.len = 0) ∧ (x.form = 0 ∨ x.form = 1 ∨ x.form = 2 ∨ x.form = 3 → x.sum = 0))
def Cap.may (x : Cap) : Bool := decide (0 ≤ x.form ∧ x.form < 5 ∧ 0 ≤ x.ver ∧ x.ver < 16 ∧ 0 ≤ x.len ∧ x.len < 65536) && x.lacks
def Cap.flags (x : Cap) : Nat := 1 + (if x.sums then 128 else 0) + (if x.alone then 32 else 0)
def Cap.body (x : Cap) : List UInt8 := be x.ver.toNat 1 ++ be x.flags 1 ++ (if 1 ≤ x.form then be x.own 8 else []) ++ (if 2 ≤ x.form then be x.peer 8 else []) ++ (if 3 ≤ x.form then be x.len.toNat 2 else []) ++ (if x.form = 4 then be x.sum 2 else [])
def Cap.enc (x : Cap) : Option (List UInt8) := if x.may then some x.body else none
/-- What an encoder answers. -/
def resE : Option (List UInt8) → Value
  | some l => .tuple ⟨[.string ⟨⟨l⟩⟩, .int .i64 0]⟩
  | none => .tuple ⟨[.string ⟨⟨[]⟩⟩, .int .i64 2]⟩

theorem lacks_ok (A : AHeap) (x : Cap) (Q : Value → AHeap → Prop) (hq : ∀ A', Ext NoB A A' → Q (.bool x.lacks) A') : wF T (.func (.func 128) #[] #[]) [.agg ⟨x.cells⟩] A Q := by
  refine wF_func (first := []) (captured := []) t128 ⟨rfl, by decide⟩ ?_
  dsimp only [c128]
  simp [Cap.cells]
  generalize hA1 : A.alloc _ = A1
  obtain ⟨g1, e1, z1⟩ := alloc_facts hA1
  have hq := hq A1 e1
  by_cases f0 : x.form = 0
  · by_cases o0 : x.own = 0 <;> by_cases p0 : x.peer = 0 <;> by_cases l0 : x.len = 0 <;> by_cases s0 : x.sum = 0 <;> (simp [g1, f0, o0, p0, l0, s0, undef]; simpa [Cap.lacks, f0, o0, p0, l0, s0] using hq)
  · by_cases f1 : x.form = 1
    · by_cases p0 : x.peer = 0 <;> by_cases l0 : x.len = 0 <;> by_cases s0 : x.sum = 0 <;> (simp [g1, f1, p0, l0, s0, undef]; simpa [Cap.lacks, f1, p0, l0, s0] using hq)
    · by_cases f2 : x.form = 2
      · by_cases l0 : x.len = 0 <;> by_cases s0 : x.sum = 0 <;> (simp [g1, f2, l0, s0, undef]; simpa [Cap.lacks, f2, l0, s0] using hq)
      · by_cases f3 : x.form = 3
        · by_cases s0 : x.sum = 0 <;> (simp [g1, f3, s0, undef]; simpa [Cap.lacks, f3, s0] using hq)
        · simp [g1, f0, f1, f2, f3]
          simpa [Cap.lacks, f0, f1, f2, f3] using hq

theorem cmay_ok (A : AHeap) (x : Cap) (Q : Value → AHeap → Prop) (hq : ∀ A', Ext NoB A A' → Q (.bool x.may) A') : wF T (.func (.func 78) #[] #[]) [.agg ⟨x.cells⟩] A Q := by
  refine wF_func (first := []) (captured := []) t78 ⟨rfl, by decide⟩ ?_
  dsimp only [c78]
  have hc : x.cells = [.int .i64 x.form, .int .i64 x.ver, .bool x.sums, .bool x.alone, .int .u64 (x.own : Nat), .int .u64 (x.peer : Nat), .int .i64 x.len, .int .u16 (x.sum : Nat)] := rfl
  simp [hc]
  generalize hA1 : A.alloc _ = A1
  obtain ⟨g1, e1, z1⟩ := alloc_facts hA1
  by_cases h1 : 0 ≤ x.form
  · by_cases h2 : x.form < 5
    · by_cases h3 : 0 ≤ x.ver
      · by_cases h4 : x.ver < 16
        · by_cases h5 : 0 ≤ x.len
          · by_cases h6 : x.len < 65536
            · simp [g1, h1, h2, h3, h4, h5, h6]
              refine lacks_ok A1 x _ fun A2 e2 => ?_
              have := hq A2 (e1.trans e2)
              simp
              simpa [Cap.may, h1, h2, h3, h4, h5, h6] using this
            · simp [g1, h1, h2, h3, h4, h5, h6, undef]; simpa [Cap.may, h6] using hq A1 e1
          · simp [g1, h1, h2, h3, h4, h5, undef]; simpa [Cap.may, h5] using hq A1 e1
        · simp [g1, h1, h2, h3, h4, undef]; simpa [Cap.may, h4] using hq A1 e1
      · simp [g1, h1, h2, h3, undef]; simpa [Cap.may, h3] using hq A1 e1
    · simp [g1, h1, h2, undef]; simpa [Cap.may, h2] using hq A1 e1
  · simp [g1, h1, undef]; simpa [Cap.may, h1] using hq A1 e1

theorem ctail_ok (A0 A : AHeap) (x : Cap) (hw : x.W) (hm : x.may = true) (q : Nat) (env : Env) (Q : Value → AHeap → Prop) (g : A.get q = some (.cells x.cells false 0)) (r1 : env.rd 1 = .pointer (some ⟨q, 0, none⟩)) (r4 : env.rd 4 = .int .i64 (x.flags : Nat)) (ex : Ext NoB A0 A)
    (hq : ∀ A', Ext NoB A0 A' → Q (.tuple ⟨[.string ⟨⟨x.body⟩⟩, .int .i64 0]⟩) A') : wC T 33 none c33t { env := env, n := 55, dfs := [], A := A } (endF [.inl 2, .inl 3] Q) := by
  have hc : x.cells = [.int .i64 x.form, .int .i64 x.ver, .bool x.sums, .bool x.alone, .int .u64 (x.own : Nat), .int .u64 (x.peer : Nat), .int .i64 x.len, .int .u16 (x.sum : Nat)] := rfl
  rw [hc] at g
  have hm' := hm
  simp only [Cap.may, Bool.and_eq_true, decide_eq_true_eq] at hm'
  obtain ⟨⟨h1, h2, h3, h4, h5, h6⟩, _⟩ := hm'
  obtain ⟨v, hv, hv2⟩ : ∃ v : Nat, x.ver = v ∧ v < 16 := ⟨x.ver.toNat, by omega, by omega⟩
  obtain ⟨l, hl, hl2⟩ : ∃ l : Nat, x.len = l ∧ l < 65536 := ⟨x.len.toNat, by omega, by omega⟩
  have hor : binA .or (.int .i64 0) (.int .i64 (v : Int)) = some (.int .i64 (v : Nat)) := by
    have := bin_or .i64 0 v (by decide) (by simp [IntKind.bits]; omega)
    rw [Nat.zero_or, IntWalk.i64_in _ (by omega)] at this
    exact this
  have hver : IntKind.u8.wrap (v : Int) = v := IntWalk.u8_in _ (by omega)
  have hlen : IntKind.u16.wrap (l : Int) = l := IntWalk.u16_in _ (by omega)
  obtain ⟨F, hF, hF2⟩ : ∃ F : Nat, x.flags = F ∧ F < 256 := ⟨_, rfl, by unfold Cap.flags; split <;> split <;> omega⟩
  have hFw : IntKind.u8.wrap (F : Int) = F := IntWalk.u8_in _ (by omega)
  rw [hF] at r4
  unfold Cap.body at hq
  rw [hv, Int.toNat_natCast, hl, Int.toNat_natCast, hF] at hq
  dsimp only [c33t]
  simp [-binA, r1, g, hv, hor, hver]
  refine Put8_ok A [] v (by omega) _ (by decide) fun A1 e1 => ?_
  simp [r4, hFw]
  refine Put8_ok A1 _ F (by omega) _ (by simp [be_len]) fun A2 e2 => ?_
  have e02 := (ex.trans e1).trans e2
  have g2 := (e1.trans e2).get g id
  by_cases f1 : 1 ≤ x.form
  · simp [r1, g2, f1]
    refine Put64_ok A2 _ x.own hw.own _ (by simp [be_len]) fun A3 e3 => ?_
    have e03 := e02.trans e3
    have g3 := e3.get g2 id
    by_cases f2 : 2 ≤ x.form
    · simp [r1, g3, f2]
      refine Put64_ok A3 _ x.peer hw.peer _ (by simp [be_len]) fun A4 e4 => ?_
      have e04 := e03.trans e4
      have g4 := e4.get g3 id
      by_cases f3 : 3 ≤ x.form
      · simp [r1, g4, f3, hl, hlen]
        refine Put16_ok A4 _ l hl2 _ (by simp [be_len]) fun A5 e5 => ?_
        have e05 := e04.trans e5
        have g5 := e5.get g4 id
        by_cases f4 : x.form = 4
        · simp [r1, g5, f4]
          refine Put16_ok A5 _ x.sum hw.sum _ (by simp [be_len]) fun A6 e6 => ?_
          have := hq A6 (e05.trans e6)
          simp
          simpa [f4] using this
        · have := hq A5 e05
          simp [r1, g5, f4]
          simpa [f1, f2, f3, f4] using this
      · have f4 : ¬ x.form = 4 := by omega
        have := hq A4 e04
        simp [r1, g4, f3, f4]
        simpa [f1, f2, f3, f4] using this
    · have f3 : ¬ 3 ≤ x.form := by omega
      have f4 : ¬ x.form = 4 := by omega
      have := hq A3 e03
      simp [r1, g3, f2, f3, f4]
      simpa [f1, f2, f3, f4] using this
  · have f2 : ¬ 2 ≤ x.form := by omega
    have f3 : ¬ 3 ≤ x.form := by omega
    have f4 : ¬ x.form = 4 := by omega
    have := hq A2 e02
    simp [r1, g2, f1, f2, f3, f4]
    simpa [f1, f2, f3, f4] using this

theorem cenc_ok (A : AHeap) (x : Cap) (hw : x.W) (Q : Value → AHeap → Prop) (hq : ∀ A', Ext NoB A A' → Q (resE x.enc) A') : wF T (.func (.func 33) #[] #[]) [.agg ⟨x.cells⟩] A Q := by
  refine wF_func (first := []) (captured := []) t33 ⟨rfl, by decide⟩ ?_
  dsimp only [c33]
  have hc : x.cells = [.int .i64 x.form, .int .i64 x.ver, .bool x.sums, .bool x.alone, .int .u64 (x.own : Nat), .int .u64 (x.peer : Nat), .int .i64 x.len, .int .u16 (x.sum : Nat)] := rfl
  simp [hc]
  generalize hA1 : A.alloc _ = A1
  obtain ⟨g1, e1, z1⟩ := alloc_facts hA1
  refine cmay_ok A1 x _ fun A2 e2 => ?_
  have e12 := e1.trans e2
  have g2 := e2.get g1 id
  cases hm : x.may with
  | false =>
    simp
    simpa [resE, Cap.enc, hm] using hq A2 e12
  | true =>
    simp only [Cap.enc, hm, if_true, resE] at hq
    have hF : x.flags = 1 + (if x.sums then 128 else 0) + (if x.alone then 32 else 0) := rfl
    cases hs : x.sums <;> cases ha : x.alone
    all_goals
      simp [hs, ha] at hF
      simp [g2, hs, ha, IntKind.bits, show IntKind.i64.wrap 129 = 129 by decide, show IntKind.i64.wrap 33 = 33 by decide, show IntKind.i64.wrap 161 = 161 by decide]
      refine ctail_ok A A2 x hw hm A.size _ Q (by rw [g2, hc, hs, ha]) (by simp) (by simp [hF]) e12 hq
end Go.Proofs.YtigknpfjhegkgaaGreat
