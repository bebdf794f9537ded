/- Addresses, and small options, laid. -/
import Derived.Test.YtigknpfjhegkgaaGreatPe
import Derived.KernelRfl
namespace Go.Proofs.YtigknpfjhegkgaaGreat
open Go Go.AS
set_option maxRecDepth 100000
set_option linter.unusedSimpArgs false
set_option linter.unusedVariables false
attribute [local irreducible] Trie.set Trie.get Env.rd
attribute [local simp ↓] wV_b2s
attribute [local simp] Nat.add_assoc wD_cons'' wD_nil' wC_seq wC_ops wC_opsD_nil wC_cond wC_skip wC_ret wC_exit wC_block wO_cons' wO_nil wantedA wV_eq lop qop ev wL_some wL_none wPut envOf rd_set rd_leaf eqA thenC blockC wB_true wB_false endF unwindA resultsA resA tupleA rdCell rdCells wrCells cl fillP lay rep binA unA get_set' AHeap.get_alloc oneCell beqd bned idxA

structure Ad where
  echo : Bool
  id : Int
  ip : List UInt8
  hasPort : Bool
  port : Int
  mac : List UInt8
  deriving DecidableEq
def Ad.cells (x : Ad) : List Value := [.bool x.echo, .int .i64 x.id, .string ⟨⟨x.ip⟩⟩, .bool x.hasPort, .int .i64 x.port, .string ⟨⟨x.mac⟩⟩]
theorem Ad.cells_eq (x : Ad) : x.cells = [.bool x.echo, .int .i64 x.id, .string ⟨⟨x.ip⟩⟩, .bool x.hasPort, .int .i64 x.port, .string ⟨⟨x.mac⟩⟩] := rfl
structure Ad.W (x : Ad) : Prop where
  ip : x.ip.length < 200000000000000
  mac : x.mac.length < 200000000000000
def Ad.may (x : Ad) : Bool := decide (0 ≤ x.id ∧ x.id ≤ 255) && decide (x.ip.length = 4 ∨ x.ip.length = 16) && decide (0 ≤ x.port ∧ x.port ≤ 65535) && (x.hasPort || decide (x.port = 0)) && decide (x.mac.length = if x.echo then 0 else 8)
def Ad.body (x : Ad) : List UInt8 := be (if x.echo then 49 else 48) 1 ++ be x.id.toNat 1 ++ x.ip ++ (if x.hasPort then be x.port.toNat 2 else []) ++ x.mac
def Ad.enc (x : Ad) : Option (List UInt8) := if x.may then some x.body else none

theorem bin_mask (n : Int) (k : Nat) (hk : k ≤ 62) : binA .and (.int .i64 n) (.int .i64 ((2 ^ k - 1 : Nat) : Int)) = some (.int .i64 (n % (2 ^ k : Nat))) := by
  have hp : 2 ^ k ≤ 2 ^ 62 := Nat.pow_le_pow_right (by decide) hk
  have hp0 : 0 < 2 ^ k := Nat.pow_pos (by decide)
  simp only [binA, ne_eq, not_true_eq_false, if_false]
  rw [BitVec.toNat_and, BitVec.ofInt_natCast, BitVec.toNat_ofNat, BitVec.toNat_ofInt]
  have e1 : (2 ^ k - 1) % 2 ^ IntKind.i64.bits = 2 ^ k - 1 := Nat.mod_eq_of_lt (by show 2 ^ k - 1 < 2 ^ 64; omega)
  rw [e1, Nat.and_two_pow_sub_one_eq_mod]
  have e2 : (((n % ((2 ^ IntKind.i64.bits : Nat) : Int)).toNat % 2 ^ k : Nat) : Int) = n % (2 ^ k : Nat) := by
    have hnn : 0 ≤ n % ((2 ^ IntKind.i64.bits : Nat) : Int) := Int.emod_nonneg _ (by decide)
    rw [Int.natCast_emod, Int.toNat_of_nonneg hnn]
    refine Int.emod_emod_of_dvd n ?_
    refine Int.natCast_dvd_natCast.2 (Nat.pow_dvd_pow 2 (by show k ≤ 64; omega))
  rw [e2]
  have h1 := Int.emod_nonneg n (show ((2 ^ k : Nat) : Int) ≠ 0 by omega)
  have h2 := Int.emod_lt_of_pos n (show 0 < ((2 ^ k : Nat) : Int) by omega)
  rw [IntWalk.i64_in _ (by omega)]
theorem mask255 (n : Int) : binA .and (.int .i64 n) (.int .i64 255) = some (.int .i64 (n % 256)) := bin_mask n 8 (by decide)
theorem mask65535 (n : Int) : binA .and (.int .i64 n) (.int .i64 65535) = some (.int .i64 (n % 65536)) := bin_mask n 16 (by decide)
theorem and255 (n : Int) : IntKind.i64.wrap (((n % 2 ^ IntKind.i64.bits).toNat &&& 255 % 2 ^ IntKind.i64.bits : Nat) : Int) = n % 256 := by
  have h := mask255 n
  simp [binA] at h
  exact h
theorem and65535 (n : Int) : IntKind.i64.wrap (((n % 2 ^ IntKind.i64.bits).toNat &&& 65535 % 2 ^ IntKind.i64.bits : Nat) : Int) = n % 65536 := by
  have h := mask65535 n
  simp [binA] at h
  exact h
theorem eqmask (n : Int) (m : Int) (hm : 0 < m) : (n = n % m) ↔ (0 ≤ n ∧ n < m) := by
  constructor
  · intro h
    have h1 := Int.emod_nonneg n (show m ≠ 0 by omega)
    have h2 := Int.emod_lt_of_pos n hm
    omega
  · intro h
    rw [Int.emod_eq_of_lt h.1 h.2]

def sh (a b : Int) : Value := .agg ⟨[.int .i64 a, .int .i64 b]⟩
def shF (k : Int) : Option Value := if k = 4 then some (sh 4 0) else if k = 6 then some (sh 4 2) else if k = 16 then some (sh 16 0) else if k = 18 then some (sh 16 2) else none
theorem shapes_ok (A : AHeap) (Q : Value → AHeap → Prop) (hq : ∀ A' m, Ext NoB A A' → MapIs A' m shF → Q (.map (some m)) A') : wF T (.func (.func 106) #[] #[]) [] A Q := by
  refine wF_func (first := []) (captured := []) t106 ⟨rfl, by decide⟩ ?_
  dsimp only [c106]
  simp [findE]
  generalize hA1 : AHeap.set (AHeap.set (AHeap.set (AHeap.set (AHeap.alloc A _) _ _) _ _) _ _) _ _ = A1
  have e1 : Ext NoB A A1 := by rw [← hA1]; exact ⟨by simp, fun b hb _ => by simp [show ¬ b = A.size by omega]⟩
  refine hq A1 A.size e1 ⟨_, _, by rw [← hA1]; simp; exact ⟨rfl, rfl⟩, by decide, fun k => ?_⟩
  unfold lookE shF sh
  by_cases h4 : k = 4
  · simp [findE, h4]
  · by_cases h6 : k = 6
    · simp [findE, h6]
    · by_cases h16 : k = 16
      · simp [findE, h16]
      · by_cases h18 : k = 18
        · simp [findE, h18]
        · simp [findE, h4, h6, h16, h18]

theorem admay_ok (A : AHeap) (x : Ad) (hw : x.W) (Q : Value → AHeap → Prop) (hq : ∀ A', Ext NoB A A' → Q (.bool x.may) A') : wF T (.func (.func 103) #[] #[]) [.agg ⟨x.cells⟩] A Q := by
  refine wF_func (first := []) (captured := []) t103 ⟨rfl, by decide⟩ ?_
  dsimp only [c103]
  have hc := Ad.cells_eq x
  simp [hc]
  generalize hA1 : A.alloc _ = A1
  obtain ⟨g1, e1, z1⟩ := alloc_facts hA1
  refine wC_opsD_chk ?_
  simp
  refine shapes_ok A1 _ fun A2 m e2 hm => ?_
  have g2 := e2.get g1 id
  have e12 := e1.trans e2
  obtain ⟨es, ck, m1, m2⟩ := hm.get (x.ip.length : Int)
  have l2 := AHeap.get_lt g2
  have z2 := e2.size
  have hip := hw.ip
  have rest : ∀ (A3 : AHeap) (env : Env) (is : Bool), A3.get A.size = some (.cells [.bool x.echo, .int .i64 x.id, .string ⟨⟨x.ip⟩⟩, .bool x.hasPort, .int .i64 x.port, .string ⟨⟨x.mac⟩⟩] false 0) → Ext NoB A A3 → (is = true ↔ x.ip.length = 4 ∨ x.ip.length = 6 ∨ x.ip.length = 16 ∨ x.ip.length = 18) → env.rd 1 = .pointer (some ⟨A.size, 0, none⟩) → env.rd 4 = .bool is → env.rd 5 = .int .i64 (if x.echo then 0 else 8) →
      wC T 103 none c103t { env := env, n := 56, dfs := [], A := A3 } (endF [.inl 2] Q) := by
    intro A3 env is g3 e3 his r1 r4 r5
    dsimp only [c103t]
    have hq3 := hq A3 e3
    have hmac : ∀ v : Int, v = (if x.echo then 0 else 8) → ((x.mac.length : Int) = v ↔ x.mac.length = if x.echo then 0 else 8) := by intro v hv; rw [hv]; split <;> omega
    have m5 := and255 x.id
    have m6 := and65535 x.port
    have q5 := eqmask x.id 256 (by decide)
    have q6 := eqmask x.port 65536 (by decide)
    have no : x.may = false → Q (.bool false) A3 := fun h => by rwa [h] at hq3
    have hmc : ((x.mac.length : Int) = if x.echo then 0 else 8) ↔ (x.mac.length = if x.echo then 0 else 8) := hmac _ rfl
    cases is
    · simp [r1, r4, r5, g3, undef]
      refine no ?_
      have : ¬ (x.ip.length = 4 ∨ x.ip.length = 16) := fun q => by have := his.2 (by omega); cases this
      simp [Ad.may, this]
    · have hl := his.1 rfl
      by_cases h2 : x.ip.length = 4 ∨ x.ip.length = 16
      · have hr : (x.ip.length : Int).tmod 4 = 0 := by rcases h2 with h | h <;> rw [h] <;> rfl
        by_cases h3 : (x.mac.length : Int) = if x.echo then 0 else 8
        · by_cases h4 : 0 ≤ x.id ∧ x.id < 256
          · have h4' : x.id % 256 = x.id := (q5.2 h4).symm
            by_cases h5 : 0 ≤ x.port ∧ x.port < 65536
            · have h5' : x.port % 65536 = x.port := (q6.2 h5).symm
              have hmay : x.may = (x.hasPort || decide (x.port = 0)) := by
                have h4d : 0 ≤ x.id ∧ x.id ≤ 255 := by omega
                have h5d : 0 ≤ x.port ∧ x.port ≤ 65535 := by omega
                simp [Ad.may, h2, h4d, h5d, hmc.1 h3]
              rw [hmay] at hq3
              cases hp : x.hasPort
              · by_cases h6 : x.port = 0
                · simp [r1, r4, r5, g3, hr, h3, m5, h4', m6, h5', hp, h6, show IntKind.i64.wrap 0 = 0 by decide]
                  simpa [hp, h6] using hq3
                · simp [r1, r4, r5, g3, hr, h3, m5, h4', m6, h5', hp, h6]
                  simpa [hp, h6] using hq3
              · simp [r1, r4, r5, g3, hr, h3, m5, h4', m6, h5', hp, undef]
                simpa [hp] using hq3
            · have h5' : ¬ x.port = x.port % 65536 := fun q => h5 (q6.1 q)
              simp [r1, r4, r5, g3, hr, h3, m5, h4', m6, h5', undef]
              exact no (by have : ¬ (0 ≤ x.port ∧ x.port ≤ 65535) := by omega
                           simp [Ad.may, this])
          · have h4' : ¬ x.id = x.id % 256 := fun q => h4 (q5.1 q)
            simp [r1, r4, r5, g3, hr, h3, m5, h4', undef]
            exact no (by have : ¬ (0 ≤ x.id ∧ x.id ≤ 255) := by omega
                         simp [Ad.may, this])
        · simp [r1, r4, r5, g3, hr, h3, undef]
          exact no (by have := fun q => h3 (hmc.2 q)
                       simp [Ad.may]; intros; exact this)
      · have hr : ¬ (x.ip.length : Int).tmod 4 = 0 := by
          have : x.ip.length = 6 ∨ x.ip.length = 18 := by omega
          rcases this with h | h <;> rw [h] <;> decide
        simp [r1, r4, r5, g3, hr, undef]
        exact no (by simp [Ad.may, h2])
  have key : ∀ v, shF (x.ip.length : Int) = some v → ∃ i, findE (x.ip.length : Int) es 0 = some (i, v) := fun v hv => by rw [hv] at m2; exact m2
  have hge : (∃ i a b, findE (x.ip.length : Int) es 0 = some (i, sh a b) ∧ (true = true ↔ x.ip.length = 4 ∨ x.ip.length = 6 ∨ x.ip.length = 16 ∨ x.ip.length = 18)) ∨ (findE (x.ip.length : Int) es 0 = none ∧ (false = true ↔ x.ip.length = 4 ∨ x.ip.length = 6 ∨ x.ip.length = 16 ∨ x.ip.length = 18)) := by
    by_cases h4 : x.ip.length = 4
    · obtain ⟨i, hi⟩ := key (sh 4 0) (by simp [shF, h4]); exact .inl ⟨i, 4, 0, hi, by simp [h4]⟩
    · by_cases h6 : x.ip.length = 6
      · obtain ⟨i, hi⟩ := key (sh 4 2) (by simp [shF, h6]); exact .inl ⟨i, 4, 2, hi, by simp [h6]⟩
      · by_cases h16 : x.ip.length = 16
        · obtain ⟨i, hi⟩ := key (sh 16 0) (by simp [shF, h16]); exact .inl ⟨i, 16, 0, hi, by simp [h16]⟩
        · by_cases h18 : x.ip.length = 18
          · obtain ⟨i, hi⟩ := key (sh 16 2) (by simp [shF, h18]); exact .inl ⟨i, 16, 2, hi, by simp [h18]⟩
          · have hn : shF (x.ip.length : Int) = none := by
              unfold shF
              rw [if_neg (by omega), if_neg (by omega), if_neg (by omega), if_neg (by omega)]
            rw [hn] at m2
            exact .inr ⟨m2, by simp [h4, h6, h16, h18]⟩
  rcases hge with ⟨i, va, vb, hi, k3⟩ | ⟨hi, k3⟩
  · simp [g2, m1, hi, getRes, sh]
    generalize hA3 : AHeap.set (AHeap.alloc A2 _) _ _ = A3
    have e23 : Ext NoB A2 A3 := by rw [← hA3]; exact ⟨by simp, fun b hb _ => by simp [show ¬ b = A2.size by omega]⟩
    have g3 := e23.get g2 id
    refine wE_intro ?_ ?_
    · simp only [List.all_cons, List.all_nil, chkOk, List.nil_append, List.cons_append, List.getElem?_cons_succ, List.getElem?_cons_zero]
      simp [Bx, g1, g2, vbeq]
    · cases he : x.echo
      · simp [g3, he]
        exact rest A3 _ true g3 (e12.trans e23) k3 (by simp) (by simp) (by simp [he])
      · simp [g3, he]
        exact rest A3 _ true g3 (e12.trans e23) k3 (by simp) (by simp) (by simp [he])
  · simp [g2, m1, hi, getRes]
    generalize hA3 : AHeap.set (AHeap.alloc A2 _) _ _ = A3
    have e23 : Ext NoB A2 A3 := by rw [← hA3]; exact ⟨by simp, fun b hb _ => by simp [show ¬ b = A2.size by omega]⟩
    have g3 := e23.get g2 id
    refine wE_intro ?_ ?_
    · simp only [List.all_cons, List.all_nil, chkOk, List.nil_append, List.cons_append, List.getElem?_cons_succ, List.getElem?_cons_zero]
      simp [Bx, g1, g2, vbeq]
    · cases he : x.echo
      · simp [g3, he]
        exact rest A3 _ false g3 (e12.trans e23) k3 (by simp) (by simp) (by simp [he])
      · simp [g3, he]
        exact rest A3 _ false g3 (e12.trans e23) k3 (by simp) (by simp) (by simp [he])
end Go.Proofs.YtigknpfjhegkgaaGreat
