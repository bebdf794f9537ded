/- Texts of this claim, one behind the other. -/
import Derived.Test.YtigknpfjhegkgaaGreatDoorNa
import Derived.KernelRfl
section
/- Data sequence signals, laid. -/
namespace Go.Proofs.YtigknpfjhegkgaaGreatDoor
open Go Go.AS
set_option maxRecDepth 100000
set_option linter.unusedSimpArgs false
set_option linter.unusedVariables false
attribute [local irreducible] Trie.set Trie.get Env.rd
attribute [local simp ↓] wV_b2s
attribute [local simp] Nat.add_assoc wD_cons'' wD_nil' wC_seq wC_ops wC_opsD_nil wC_cond wC_skip wC_ret wC_exit wC_block wO_cons' wO_nil wantedA wV_eq lop qop ev wL_some wL_none wPut envOf rd_set rd_leaf eqA thenC blockC wB_true wB_false endF unwindA resultsA resA tupleA rdCell rdCells wrCells cl fillP lay rep binA unA get_set' AHeap.get_alloc oneCell beqd bned idxA

structure Ds where
  fin : Bool
  hasAck : Bool
  longAck : Bool
  ack : Nat
  hasMap : Bool
  longDsn : Bool
  dsn : Nat
  ssn : Nat
  len : Int
  hasSum : Bool
  sum : Nat
  deriving DecidableEq
def Ds.cells (x : Ds) : List Value := [.bool x.fin, .bool x.hasAck, .bool x.longAck, .int .u64 (x.ack : Nat), .bool x.hasMap, .bool x.longDsn, .int .u64 (x.dsn : Nat), .int .u32 (x.ssn : Nat), .int .i64 x.len, .bool x.hasSum, .int .u16 (x.sum : Nat)]
theorem Ds.cells_eq (x : Ds) : x.cells = [.bool x.fin, .bool x.hasAck, .bool x.longAck, .int .u64 (x.ack : Nat), .bool x.hasMap, .bool x.longDsn, .int .u64 (x.dsn : Nat), .int .u32 (x.ssn : Nat), .int .i64 x.len, .bool x.hasSum, .int .u16 (x.sum : Nat)] := rfl
structure Ds.W (x : Ds) : Prop where
  ack : x.ack < 256 ^ 8
  dsn : x.dsn < 256 ^ 8
  ssn : x.ssn < 256 ^ 4
  sum : x.sum < 256 ^ 2
def Ds.b1 (x : Ds) : Bool := (!x.hasAck && !x.hasMap) || (!x.hasAck && (x.longAck || decide (x.ack ≠ 0))) || (!x.hasSum && decide (x.sum ≠ 0))
def Ds.b2 (x : Ds) : Bool := !x.hasMap && (x.fin || x.longDsn || decide (x.dsn ≠ 0) || decide (x.ssn ≠ 0) || decide (x.len ≠ 0) || x.hasSum)
def Ds.b3 (x : Ds) : Bool := (!x.longAck && decide (4294967296 ≤ x.ack)) || (!x.longDsn && decide (4294967296 ≤ x.dsn))
def Ds.may (x : Ds) : Bool := !x.b1 && !x.b2 && !x.b3 && decide (0 ≤ x.len ∧ x.len < 65536)
def Ds.bits (x : Ds) : Nat := (if x.hasAck then 1 else 0) + (if x.longAck then 2 else 0) + (if x.hasMap then 4 else 0) + (if x.longDsn then 8 else 0) + (if x.fin then 16 else 0)
def wide (l : Bool) : Nat := if l then 8 else 4
def Ds.body (x : Ds) : List UInt8 := [32] ++ be x.bits 1 ++ (if x.hasAck then be x.ack (wide x.longAck) else []) ++ (if x.hasMap then be x.dsn (wide x.longDsn) ++ be x.ssn 4 ++ be x.len.toNat 2 else []) ++ (if x.hasSum then be x.sum 2 else [])
def Ds.enc (x : Ds) : Option (List UInt8) := if x.may then some x.body else none

theorem shr32 (n : Nat) : (((n : Int).fdiv 4294967296) = 0) ↔ ¬ (4294967296 ≤ n) := by
  rw [Int.fdiv_eq_ediv_of_nonneg _ (by decide)]; omega
theorem dmw_ok (A : AHeap) (x : Ds) (q : Nat) (env : Env) (Q : Value → AHeap → Prop) (g : A.get q = some (.cells x.cells false 0)) (r1 : env.rd 1 = .pointer (some ⟨q, 0, none⟩)) (hq : Q (.bool (decide (0 ≤ x.len ∧ x.len < 65536))) A) :
    wC T 137 none c137w { env := env, n := 90, dfs := [], A := A } (endF [.inl 2] Q) := by
  dsimp only [c137w]
  rw [Ds.cells_eq] at g
  by_cases h1 : 0 ≤ x.len
  · by_cases h2 : x.len < 65536
    · simp [r1, g, h1, h2]; simpa [h1, h2] using hq
    · simp [r1, g, h1, h2]; simpa [h1, h2] using hq
  · simp [r1, g, h1, undef]; simpa [h1] using hq
theorem dmv_ok (A : AHeap) (x : Ds) (q : Nat) (env : Env) (K : AExit → St → Prop) (g : A.get q = some (.cells x.cells false 0)) (r1 : env.rd 1 = .pointer (some ⟨q, 0, none⟩))
    (hr : x.b3 = true → ∀ env' : Env, env'.rd 2 = .bool false → K .ret { env := env', n := 90, dfs := [], A := A }) (hn : x.b3 = false → ∀ env' : Env, env'.rd 1 = .pointer (some ⟨q, 0, none⟩) → K .normal { env := env', n := 90, dfs := [], A := A }) :
    wC T 137 none c137v { env := env, n := 90, dfs := [], A := A } K := by
  dsimp only [c137v]
  rw [Ds.cells_eq] at g
  have sa := shr32 x.ack
  have sd := shr32 x.dsn
  cases ha : x.longAck
  · by_cases h1 : 4294967296 ≤ x.ack
    · simp [r1, g, ha, IntKind.bits, sa, h1, undef]
      exact hr (by simp [Ds.b3, ha, h1]) _ (by simp)
    · cases hd : x.longDsn
      · by_cases h2 : 4294967296 ≤ x.dsn
        · simp [r1, g, ha, hd, IntKind.bits, sa, sd, h1, h2, undef]
          exact hr (by simp [Ds.b3, hd, h2]) _ (by simp)
        · simp [r1, g, ha, hd, IntKind.bits, sa, sd, h1, h2, undef]
          exact hn (by simp [Ds.b3, ha, hd, h1, h2]) _ (by simp [r1])
      · simp [r1, g, ha, hd, IntKind.bits, sa, sd, h1, undef]
        exact hn (by simp [Ds.b3, ha, hd, h1]) _ (by simp [r1])
  · cases hd : x.longDsn
    · by_cases h2 : 4294967296 ≤ x.dsn
      · simp [r1, g, ha, hd, IntKind.bits, sd, h2, undef]
        exact hr (by simp [Ds.b3, hd, h2]) _ (by simp)
      · simp [r1, g, ha, hd, IntKind.bits, sd, h2, undef]
        exact hn (by simp [Ds.b3, ha, hd, h2]) _ (by simp [r1])
    · simp [r1, g, ha, hd, undef]
      exact hn (by simp [Ds.b3, ha, hd]) _ (by simp [r1])
theorem dmu_ok (A : AHeap) (x : Ds) (q : Nat) (env : Env) (K : AExit → St → Prop) (g : A.get q = some (.cells x.cells false 0)) (r1 : env.rd 1 = .pointer (some ⟨q, 0, none⟩))
    (hr : x.b2 = true ∨ x.b3 = true → ∀ env' : Env, env'.rd 2 = .bool false → K .ret { env := env', n := 90, dfs := [], A := A }) (hn : x.b2 = false → x.b3 = false → ∀ env' : Env, env'.rd 1 = .pointer (some ⟨q, 0, none⟩) → K .normal { env := env', n := 90, dfs := [], A := A }) :
    wC T 137 none c137u { env := env, n := 90, dfs := [], A := A } K := by
  dsimp only [c137u]
  have g0 := g
  rw [Ds.cells_eq] at g
  have next : ∀ env' : Env, env'.rd 1 = .pointer (some ⟨q, 0, none⟩) → x.b2 = false → wC T 137 none c137v { env := env', n := 90, dfs := [], A := A } K := fun env' r h2 =>
    dmv_ok A x q env' K g0 r (fun h3 => hr (.inr h3)) (fun h3 => hn h2 h3)
  cases hm : x.hasMap
  · cases hf : x.fin
    · cases hl : x.longDsn
      · by_cases hd : x.dsn = 0
        · by_cases hs : x.ssn = 0
          · by_cases hle : x.len = 0
            · cases hsm : x.hasSum
              · simp [r1, g, hm, hf, hl, hd, hs, hle, hsm]
                exact next _ (by simp [r1]) (by simp [Ds.b2, hm, hf, hl, hd, hs, hle, hsm])
              · simp [r1, g, hm, hf, hl, hd, hs, hle, hsm]
                exact hr (.inl (by simp [Ds.b2, hm, hsm])) _ (by simp)
            · simp [r1, g, hm, hf, hl, hd, hs, hle, undef]
              exact hr (.inl (by simp [Ds.b2, hm, hle])) _ (by simp)
          · simp [r1, g, hm, hf, hl, hd, hs, undef]
            exact hr (.inl (by simp [Ds.b2, hm, hs])) _ (by simp)
        · simp [r1, g, hm, hf, hl, hd, undef]
          exact hr (.inl (by simp [Ds.b2, hm, hd])) _ (by simp)
      · simp [r1, g, hm, hf, hl, undef]
        exact hr (.inl (by simp [Ds.b2, hm, hl])) _ (by simp)
    · simp [r1, g, hm, hf, undef]
      exact hr (.inl (by simp [Ds.b2, hm, hf])) _ (by simp)
  · simp [r1, g, hm, undef]
    exact next _ (by simp [r1]) (by simp [Ds.b2, hm])

theorem dmay_ok (A : AHeap) (x : Ds) (Q : Value → AHeap → Prop) (hq : ∀ A', Ext NoB A A' → Q (.bool x.may) A') : wF T (.func (.func 137) #[] #[]) [.agg ⟨x.cells⟩] A Q := by
  refine wF_func (first := []) (captured := []) t137 ⟨rfl, by decide⟩ ?_
  dsimp only [c137]
  have hc := Ds.cells_eq x
  simp [hc]
  generalize hA1 : A.alloc _ = A1
  obtain ⟨g1, e1, z1⟩ := alloc_facts hA1
  have g0 : A1.get A.size = some (.cells x.cells false 0) := by rw [g1, hc]
  have no : x.may = false → ∀ A', Ext NoB A A' → Q (.bool false) A' := fun h A' e => by have := hq A' e; rwa [h] at this
  have bad : ∀ env' : Env, x.may = false → env'.rd 2 = .bool false → endF [.inl 2] Q .ret { env := env', n := 90, dfs := [], A := A1 } := fun env' h r => by
    simp [r]; exact no h A1 e1
  have main : x.b1 = false → ∀ (env : Env) (K : AExit → St → Prop), env.rd 1 = .pointer (some ⟨A.size, 0, none⟩) → (x.may = false → ∀ env' : Env, env'.rd 2 = .bool false → K .ret { env := env', n := 90, dfs := [], A := A1 }) →
      (x.b2 = false → x.b3 = false → ∀ env' : Env, env'.rd 1 = .pointer (some ⟨A.size, 0, none⟩) → K .normal { env := env', n := 90, dfs := [], A := A1 }) → wC T 137 none c137u { env := env, n := 90, dfs := [], A := A1 } K := by
    intro hb1 env K r1 hr hn
    refine dmu_ok A1 x A.size env K g0 r1 (fun h => hr ?_) hn
    unfold Ds.may
    rcases h with h | h <;> simp [h]
  have last : x.b1 = false → x.b2 = false → x.b3 = false → ∀ env' : Env, env'.rd 1 = .pointer (some ⟨A.size, 0, none⟩) → wC T 137 none c137w { env := env', n := 90, dfs := [], A := A1 } (endF [.inl 2] Q) := fun h1 h2 h3 env' r =>
    dmw_ok A1 x A.size env' Q g0 r (by have := hq A1 e1; simpa [Ds.may, h1, h2, h3] using this)
  cases ha : x.hasAck
  · cases hm : x.hasMap
    · simp [g1, ha, hm]
      exact no (by simp [Ds.may, Ds.b1, ha, hm]) A1 e1
    · cases hl : x.longAck
      · by_cases hk : x.ack = 0
        · cases hs : x.hasSum
          · by_cases hz : x.sum = 0
            · have hb : x.b1 = false := by simp [Ds.b1, ha, hm, hl, hk, hs, hz]
              simp [g1, ha, hm, hl, hk, hs, hz]
              refine main hb _ _ (by simp) (fun h env' r => ?_) (fun h2 h3 env' r => ?_)
              · simp [r]; exact no h A1 e1
              · simp; exact last hb h2 h3 env' r
            · simp [g1, ha, hm, hl, hk, hs, hz]
              exact no (by simp [Ds.may, Ds.b1, hs, hz]) A1 e1
          · have hb : x.b1 = false := by simp [Ds.b1, ha, hm, hl, hk, hs]
            simp [g1, ha, hm, hl, hk, hs, undef]
            refine main hb _ _ (by simp) (fun h env' r => ?_) (fun h2 h3 env' r => ?_)
            · simp [r]; exact no h A1 e1
            · simp; exact last hb h2 h3 env' r
        · simp [g1, ha, hm, hl, hk]
          exact no (by simp [Ds.may, Ds.b1, ha, hk]) A1 e1
      · simp [g1, ha, hm, hl, undef]
        exact no (by simp [Ds.may, Ds.b1, ha, hl]) A1 e1
  · cases hs : x.hasSum
    · by_cases hz : x.sum = 0
      · have hb : x.b1 = false := by simp [Ds.b1, ha, hs, hz]
        simp [g1, ha, hs, hz, undef]
        refine main hb _ _ (by simp) (fun h env' r => ?_) (fun h2 h3 env' r => ?_)
        · simp [r]; exact no h A1 e1
        · simp; exact last hb h2 h3 env' r
      · simp [g1, ha, hs, hz, undef]
        exact no (by simp [Ds.may, Ds.b1, hs, hz]) A1 e1
    · have hb : x.b1 = false := by simp [Ds.b1, ha, hs]
      simp [g1, ha, hs, undef]
      refine main hb _ _ (by simp) (fun h env' r => ?_) (fun h2 h3 env' r => ?_)
      · simp [r]; exact no h A1 e1
      · simp; exact last hb h2 h3 env' r

theorem dset_ok (A : AHeap) (q b bit : Nat) (is : Bool) (hb : b < 256) (hbit : bit < 256) (g : A.get q = some (.cells [.int .i64 (b : Nat)] false 0)) (Q : Value → AHeap → Prop)
    (hq : ∀ A' v, A'.get q = some (.cells [.int .i64 ((if is then b ||| bit else b : Nat) : Int)] false 0) → Ext (fun j => j = q) A A' → Q v A') :
    wF T (.func (.func 138) ⟨[]⟩ ⟨[.pointer (some ⟨q, 0, none⟩)]⟩) [.bool is, .int .i64 (bit : Nat)] A Q := by
  refine wF_func (first := []) (captured := [.pointer (some ⟨q, 0, none⟩)]) t138 ⟨rfl, by decide⟩ ?_
  dsimp only [c138]
  have l := AHeap.get_lt g
  cases is
  · simp
    exact hq A _ g Ext.refl
  · have hor := bin_or .i64 b bit (by simp [IntKind.bits]; omega) (by simp [IntKind.bits]; omega)
    have hlt : b ||| bit < 256 := Nat.or_lt_two_pow (n := 8) hb hbit
    rw [IntWalk.i64_in _ (by omega)] at hor
    simp [-binA, g, hor, l]
    generalize hA2 : AHeap.set A q _ = A2
    obtain ⟨g2, e2, z2⟩ := set_facts l hA2
    exact hq A2 _ g2 e2
theorem dnum_ok (A : AHeap) (s : List UInt8) (n : Nat) (l : Bool) (hs : s.length < 1000) (hn : n < 256 ^ 8) (hl : l = false → n < 256 ^ 4) (Q : Value → AHeap → Prop) (hq : ∀ A', Ext NoB A A' → Q (.string ⟨⟨s ++ be n (wide l)⟩⟩) A') :
    wF T (.func (.func 139) #[] #[]) [.string ⟨⟨s⟩⟩, .int .u64 (n : Nat), .bool l] A Q := by
  refine wF_func (first := []) (captured := []) t139 ⟨rfl, by decide⟩ ?_
  dsimp only [c139]
  cases l
  · have h4 := hl rfl
    have w : IntKind.u32.wrap (n : Int) = n := IntWalk.u32_in _ (by omega)
    simp [w]
    refine Put32_ok A s n h4 _ (by omega) fun A1 e1 => ?_
    simp
    exact hq A1 e1
  · simp
    refine Put64_ok A s n hn _ (by omega) fun A1 e1 => ?_
    simp
    exact hq A1 e1
def dfin (x : Ds) (s : List UInt8) : List UInt8 := s ++ (if x.hasSum then be x.sum 2 else [])
theorem dev_ok (A0 A : AHeap) (x : Ds) (hw : x.W) (s : List UInt8) (hs : s.length < 900) (q : Nat) (env : Env) (Q : Value → AHeap → Prop) (g : A.get q = some (.cells x.cells false 0)) (r1 : env.rd 1 = .pointer (some ⟨q, 0, none⟩)) (r6 : env.rd 6 = .string ⟨⟨s⟩⟩) (ex : Ext NoB A0 A)
    (hq : ∀ A', Ext NoB A0 A' → Q (.tuple ⟨[.string ⟨⟨dfin x s⟩⟩, .int .i64 0]⟩) A') : wC T 81 none c81v { env := env, n := 65, dfs := [], A := A } (endF [.inl 2, .inl 3] Q) := by
  dsimp only [c81v]
  rw [Ds.cells_eq] at g
  unfold dfin at hq
  cases h : x.hasSum
  · simp [r1, r6, g, h]
    simpa [h] using hq A ex
  · simp [r1, r6, g, h]
    refine Put16_ok A s x.sum hw.sum _ (by omega) fun A1 e1 => ?_
    simp
    simpa [h] using hq A1 (ex.trans e1)
def dmap (x : Ds) (s : List UInt8) : List UInt8 := s ++ (if x.hasMap then be x.dsn (wide x.longDsn) ++ be x.ssn 4 ++ be x.len.toNat 2 else [])
theorem wide_le (l : Bool) : wide l ≤ 8 := by cases l <;> decide
theorem deu_ok (A0 A : AHeap) (x : Ds) (hw : x.W) (hm : x.may = true) (s : List UInt8) (hs : s.length < 800) (q : Nat) (env : Env) (Q : Value → AHeap → Prop) (g : A.get q = some (.cells x.cells false 0)) (r1 : env.rd 1 = .pointer (some ⟨q, 0, none⟩)) (r6 : env.rd 6 = .string ⟨⟨s⟩⟩) (ex : Ext NoB A0 A)
    (hq : ∀ A', Ext NoB A0 A' → Q (.tuple ⟨[.string ⟨⟨dfin x (dmap x s)⟩⟩, .int .i64 0]⟩) A') : wC T 81 none c81u { env := env, n := 65, dfs := [], A := A } (endF [.inl 2, .inl 3] Q) := by
  dsimp only [c81u]
  have g0 := g
  rw [Ds.cells_eq] at g
  simp only [Ds.may, Bool.and_eq_true, decide_eq_true_eq, Bool.not_eq_true'] at hm
  obtain ⟨⟨⟨hb1, hb2⟩, hb3⟩, hl0, hl1⟩ := hm
  obtain ⟨l, hl, hl2⟩ : ∃ l : Nat, x.len = l ∧ l < 65536 := ⟨x.len.toNat, by omega, by omega⟩
  have hlw : IntKind.u16.wrap (l : Int) = l := IntWalk.u16_in _ (by omega)
  have hwd := wide_le x.longDsn
  have hd4 : x.longDsn = false → x.dsn < 256 ^ 4 := fun h => by
    simp only [Ds.b3, h, Bool.not_false, Bool.true_and, Bool.or_eq_false_iff, decide_eq_false_iff_not] at hb3
    omega
  cases h : x.hasMap
  · have hdm : dmap x s = s := by simp [dmap, h]
    rw [hdm] at hq
    simp [r1, r6, g, h]
    exact dev_ok A0 A x hw s (by omega) q _ Q g0 (by simp [r1]) (by simp [r6]) ex hq
  · have hdm : dmap x s = s ++ be x.dsn (wide x.longDsn) ++ be x.ssn 4 ++ be l 2 := by simp [dmap, h, hl]
    simp [r1, r6, g, h]
    refine wC_opsD_chk ?_
    simp [r1, r6, g]
    refine dnum_ok A s x.dsn x.longDsn (by omega) hw.dsn hd4 _ fun A1 e1 => ?_
    have g1 := e1.get g id
    simp [r1, g1]
    refine Put32_ok A1 _ x.ssn hw.ssn _ (by simp [be_len]; omega) fun A2 e2 => ?_
    have g2 := e2.get g1 id
    simp [r1, g2, hl, hlw]
    refine Put16_ok A2 _ l (by omega) _ (by simp [be_len]; omega) fun A3 e3 => ?_
    have g3 : A3.get q = some (.cells x.cells false 0) := by rw [e3.get g2 id, ← Ds.cells_eq]
    simp
    refine wE_intro ?_ ?_
    · simp only [List.all_cons, List.all_nil, chkOk, List.nil_append, List.cons_append, List.getElem?_cons_succ, List.getElem?_cons_zero]
      simp [Bx, r1, g, g1, g2, hl, vbeq]
    · simp
      refine dev_ok A0 A3 x hw _ (by rw [hdm]; simp [be_len]; omega) q _ Q g3 (by simp [r1]) (by simp [hdm]) (((ex.trans e1).trans e2).trans e3) hq
theorem ors (x : Ds) : (if x.fin then (if x.longDsn then (if x.hasMap then (if x.longAck then (if x.hasAck then 0 ||| 1 else 0) ||| 2 else (if x.hasAck then 0 ||| 1 else 0)) ||| 4 else (if x.longAck then (if x.hasAck then 0 ||| 1 else 0) ||| 2 else (if x.hasAck then 0 ||| 1 else 0))) ||| 8 else (if x.hasMap then (if x.longAck then (if x.hasAck then 0 ||| 1 else 0) ||| 2 else (if x.hasAck then 0 ||| 1 else 0)) ||| 4 else (if x.longAck then (if x.hasAck then 0 ||| 1 else 0) ||| 2 else (if x.hasAck then 0 ||| 1 else 0)))) ||| 16 else (if x.longDsn then (if x.hasMap then (if x.longAck then (if x.hasAck then 0 ||| 1 else 0) ||| 2 else (if x.hasAck then 0 ||| 1 else 0)) ||| 4 else (if x.longAck then (if x.hasAck then 0 ||| 1 else 0) ||| 2 else (if x.hasAck then 0 ||| 1 else 0))) ||| 8 else (if x.hasMap then (if x.longAck then (if x.hasAck then 0 ||| 1 else 0) ||| 2 else (if x.hasAck then 0 ||| 1 else 0)) ||| 4 else (if x.longAck then (if x.hasAck then 0 ||| 1 else 0) ||| 2 else (if x.hasAck then 0 ||| 1 else 0)))) : Nat) = x.bits := by
  unfold Ds.bits
  cases x.fin <;> cases x.longDsn <;> cases x.hasMap <;> cases x.longAck <;> cases x.hasAck <;> rfl
theorem or_lt {b bit : Nat} {is : Bool} (hb : b < 256) (hbit : bit < 256) : (if is then b ||| bit else b) < 256 := by
  cases is
  · exact hb
  · exact Nat.or_lt_two_pow (n := 8) hb hbit
theorem denc_ok (A : AHeap) (x : Ds) (hw : x.W) (Q : Value → AHeap → Prop) (hq : ∀ A', Ext NoB A A' → Q (resE x.enc) A') : wF T (.func (.func 81) #[] #[]) [.agg ⟨x.cells⟩] A Q := by
  refine wF_func (first := []) (captured := []) t81 ⟨rfl, by decide⟩ ?_
  dsimp only [c81]
  have hc := Ds.cells_eq x
  simp [hc]
  generalize hA1 : A.alloc _ = A1
  obtain ⟨g1, e1, z1⟩ := alloc_facts hA1
  refine dmay_ok A1 x _ fun A2 e2 => ?_
  have g2 := e2.get g1 id
  have l2 := AHeap.get_lt g2
  have z2 := e2.size
  cases hm : x.may
  · have := hq A2 (e1.trans e2)
    rw [Ds.enc, hm] at this
    simp
    exact this
  · have ne : ¬ A.size = A2.size := by omega
    simp [g2, ne]
    generalize hA3 : AHeap.set (AHeap.alloc A2 _) _ _ = A3
    have g3 : A3.get A2.size = some (.cells [.int .i64 ((0 : Nat) : Int)] false 0) := by rw [← hA3]; simp
    have e3 : Ext NoB A2 A3 := by rw [← hA3]; exact ⟨by simp, fun b hb _ => by simp [show ¬ b = A2.size by omega]⟩
    have gx3 := e3.get g2 id
    refine dset_ok A3 A2.size 0 1 x.hasAck (by decide) (by decide) g3 _ fun A4 v g4 e4 => ?_
    have gx4 := e4.get gx3 ne
    have h4 : (if x.hasAck then 0 ||| 1 else 0) < 256 := or_lt (by decide) (by decide)
    simp [gx4]
    refine dset_ok A4 A2.size _ 2 x.longAck h4 (by decide) g4 _ fun A5 v g5 e5 => ?_
    have gx5 := e5.get gx4 ne
    have h5 := or_lt (is := x.longAck) (bit := 2) h4 (by decide)
    simp [gx5]
    refine dset_ok A5 A2.size _ 4 x.hasMap h5 (by decide) g5 _ fun A6 v g6 e6 => ?_
    have gx6 := e6.get gx5 ne
    have h6 := or_lt (is := x.hasMap) (bit := 4) h5 (by decide)
    simp [gx6]
    refine dset_ok A6 A2.size _ 8 x.longDsn h6 (by decide) g6 _ fun A7 v g7 e7 => ?_
    have gx7 := e7.get gx6 ne
    have h7 := or_lt (is := x.longDsn) (bit := 8) h6 (by decide)
    simp [gx7]
    refine dset_ok A7 A2.size _ 16 x.fin h7 (by decide) g7 _ fun A8 v g8 e8 => ?_
    have gx8 := e8.get gx7 ne
    have gxc : A8.get A.size = some (.cells x.cells false 0) := by rw [gx8, ← hc]
    have h8 := or_lt (is := x.fin) (bit := 16) h7 (by decide)
    rw [ors] at g8 h8
    have e38 : Ext (fun j => j = A2.size) A3 A8 := (((e4.trans e5).trans e6).trans e7).trans e8
    have e08 : Ext NoB A A8 := ((e1.trans e2).trans e3).trans2 e38 fun b hb q => by omega
    have hbw : IntKind.u8.wrap ((x.bits : Nat) : Int) = x.bits := IntWalk.u8_in _ (by omega)
    simp
    dsimp only [c81t]
    simp
    refine wC_opsD_chk ?_
    simp
    refine Put8_ok A8 [] 32 (by decide) _ (by decide) fun A9 e9 => ?_
    have g9 := e9.get g8 id
    have gx9 := e9.get gx8 id
    simp [g9, hbw]
    refine Put8_ok A9 _ x.bits (by omega) _ (by simp [be_len]) fun A10 e10 => ?_
    have gx10 := e10.get gx9 id
    have gxc10 : A10.get A.size = some (.cells x.cells false 0) := by rw [gx10, ← hc]
    have e010 := (e08.trans e9).trans e10
    simp
    refine wE_intro ?_ ?_
    · simp only [List.all_cons, List.all_nil, chkOk, List.nil_append, List.cons_append, List.getElem?_cons_succ, List.getElem?_cons_zero]
      simp [Bx, g8, g9, vbeq]
    have hb : x.b1 = false ∧ x.b2 = false ∧ x.b3 = false := by
      simp only [Ds.may, Bool.and_eq_true, decide_eq_true_eq, Bool.not_eq_true'] at hm
      exact ⟨hm.1.1.1, hm.1.1.2, hm.1.2⟩
    have ha4 : x.longAck = false → x.ack < 256 ^ 4 := fun h => by
      have hb3 := hb.2.2
      simp only [Ds.b3, h, Bool.not_false, Bool.true_and, Bool.or_eq_false_iff, decide_eq_false_iff_not] at hb3
      omega
    have hq' : ∀ A', Ext NoB A A' → Q (.tuple ⟨[.string ⟨⟨x.body⟩⟩, .int .i64 0]⟩) A' := fun A' e => by
      have := hq A' e
      rwa [Ds.enc, hm] at this
    have hwa := wide_le x.longAck
    cases hak : x.hasAck
    · have hbd : x.body = dfin x (dmap x (be 32 1 ++ be x.bits 1)) := by simp [Ds.body, dfin, dmap, hak]; rfl
      rw [hbd] at hq'
      simp [gx10, hak]
      exact deu_ok A A10 x hw hm _ (by simp [be_len]) A.size _ Q gxc10 (by simp) (by simp) e010 hq'
    · simp [gx10, hak]
      refine dnum_ok A10 _ x.ack x.longAck (by simp [be_len]) hw.ack ha4 _ fun A11 e11 => ?_
      have hbd : x.body = dfin x (dmap x (be 32 1 ++ be x.bits 1 ++ be x.ack (wide x.longAck))) := by simp [Ds.body, dfin, dmap, hak]; rfl
      rw [hbd] at hq'
      simp
      exact deu_ok A A11 x hw hm _ (by simp [be_len]; omega) A.size _ Q (e11.get gxc10 id) (by simp) (by simp) (e010.trans e11) hq'
end Go.Proofs.YtigknpfjhegkgaaGreatDoor
end

section
/- Addresses, and small options, laid. -/
namespace Go.Proofs.YtigknpfjhegkgaaGreatDoor
open Go Go.AS
set_option maxRecDepth 100000
set_option linter.unusedSimpArgs false
set_option linter.unusedVariables false
attribute [local irreducible] Trie.set Trie.get Env.rd
attribute [local simp ↓] wV_b2s
attribute [local simp] Nat.add_assoc wD_cons'' wD_nil' wC_seq wC_ops wC_opsD_nil wC_cond wC_skip wC_ret wC_exit wC_block wO_cons' wO_nil wantedA wV_eq lop qop ev wL_some wL_none wPut envOf rd_set rd_leaf eqA thenC blockC wB_true wB_false endF unwindA resultsA resA tupleA rdCell rdCells wrCells cl fillP lay rep binA unA get_set' AHeap.get_alloc oneCell beqd bned idxA

structure Ad where
  echo : Bool
  id : Int
  ip : List UInt8
  hasPort : Bool
  port : Int
  mac : List UInt8
  deriving DecidableEq
def Ad.cells (x : Ad) : List Value := [.bool x.echo, .int .i64 x.id, .string ⟨⟨x.ip⟩⟩, .bool x.hasPort, .int .i64 x.port, .string ⟨⟨x.mac⟩⟩]
theorem Ad.cells_eq (x : Ad) : x.cells = [.bool x.echo, .int .i64 x.id, .string ⟨⟨x.ip⟩⟩, .bool x.hasPort, .int .i64 x.port, .string ⟨⟨x.mac⟩⟩] := rfl
structure Ad.W (x : Ad) : Prop where
  ip : x.ip.length < 100000
  mac : x.mac.length < 100000
def Ad.may (x : Ad) : Bool := decide (0 ≤ x.id ∧ x.id ≤ 255) && decide (x.ip.length = 4 ∨ x.ip.length = 16) && decide (0 ≤ x.port ∧ x.port ≤ 65535) && (x.hasPort || decide (x.port = 0)) && decide (x.mac.length = if x.echo then 0 else 8)
def Ad.body (x : Ad) : List UInt8 := be (if x.echo then 49 else 48) 1 ++ be x.id.toNat 1 ++ x.ip ++ (if x.hasPort then be x.port.toNat 2 else []) ++ x.mac
def Ad.enc (x : Ad) : Option (List UInt8) := if x.may then some x.body else none

theorem bin_mask (n : Int) (k : Nat) (hk : k ≤ 62) : binA .and (.int .i64 n) (.int .i64 ((2 ^ k - 1 : Nat) : Int)) = some (.int .i64 (n % (2 ^ k : Nat))) := by
  have hp : 2 ^ k ≤ 2 ^ 62 := Nat.pow_le_pow_right (by decide) hk
  have hp0 : 0 < 2 ^ k := Nat.pow_pos (by decide)
  simp only [binA, ne_eq, not_true_eq_false, if_false]
  rw [BitVec.toNat_and, BitVec.ofInt_natCast, BitVec.toNat_ofNat, BitVec.toNat_ofInt]
  have e1 : (2 ^ k - 1) % 2 ^ IntKind.i64.bits = 2 ^ k - 1 := Nat.mod_eq_of_lt (by show 2 ^ k - 1 < 2 ^ 64; omega)
  rw [e1, Nat.and_two_pow_sub_one_eq_mod]
  have e2 : (((n % ((2 ^ IntKind.i64.bits : Nat) : Int)).toNat % 2 ^ k : Nat) : Int) = n % (2 ^ k : Nat) := by
    have hnn : 0 ≤ n % ((2 ^ IntKind.i64.bits : Nat) : Int) := Int.emod_nonneg _ (by decide)
    rw [Int.natCast_emod, Int.toNat_of_nonneg hnn]
    refine Int.emod_emod_of_dvd n ?_
    refine Int.natCast_dvd_natCast.2 (Nat.pow_dvd_pow 2 (by show k ≤ 64; omega))
  rw [e2]
  have h1 := Int.emod_nonneg n (show ((2 ^ k : Nat) : Int) ≠ 0 by omega)
  have h2 := Int.emod_lt_of_pos n (show 0 < ((2 ^ k : Nat) : Int) by omega)
  rw [IntWalk.i64_in _ (by omega)]
theorem mask255 (n : Int) : binA .and (.int .i64 n) (.int .i64 255) = some (.int .i64 (n % 256)) := bin_mask n 8 (by decide)
theorem mask65535 (n : Int) : binA .and (.int .i64 n) (.int .i64 65535) = some (.int .i64 (n % 65536)) := bin_mask n 16 (by decide)
theorem and255 (n : Int) : IntKind.i64.wrap (((n % 2 ^ IntKind.i64.bits).toNat &&& 255 % 2 ^ IntKind.i64.bits : Nat) : Int) = n % 256 := by
  have h := mask255 n
  simp [binA] at h
  exact h
theorem and65535 (n : Int) : IntKind.i64.wrap (((n % 2 ^ IntKind.i64.bits).toNat &&& 65535 % 2 ^ IntKind.i64.bits : Nat) : Int) = n % 65536 := by
  have h := mask65535 n
  simp [binA] at h
  exact h
theorem eqmask (n : Int) (m : Int) (hm : 0 < m) : (n = n % m) ↔ (0 ≤ n ∧ n < m) := by
  constructor
  · intro h
    have h1 := Int.emod_nonneg n (show m ≠ 0 by omega)
    have h2 := Int.emod_lt_of_pos n hm
    omega
  · intro h
    rw [Int.emod_eq_of_lt h.1 h.2]

def sh (a b : Int) : Value := .agg ⟨[.int .i64 a, .int .i64 b]⟩
def shF (k : Int) : Option Value := if k = 4 then some (sh 4 0) else if k = 6 then some (sh 4 2) else if k = 16 then some (sh 16 0) else if k = 18 then some (sh 16 2) else none
theorem shapes_ok (A : AHeap) (Q : Value → AHeap → Prop) (hq : ∀ A' m, Ext NoB A A' → MapIs A' m shF → Q (.map (some m)) A') : wF T (.func (.func 147) #[] #[]) [] A Q := by
  refine wF_func (first := []) (captured := []) t147 ⟨rfl, by decide⟩ ?_
  dsimp only [c147]
  simp [findE]
  generalize hA1 : AHeap.set (AHeap.set (AHeap.set (AHeap.set (AHeap.alloc A _) _ _) _ _) _ _) _ _ = A1
  have e1 : Ext NoB A A1 := by rw [← hA1]; exact ⟨by simp, fun b hb _ => by simp [show ¬ b = A.size by omega]⟩
  refine hq A1 A.size e1 ⟨_, _, by rw [← hA1]; simp; exact ⟨rfl, rfl⟩, by decide, fun k => ?_⟩
  unfold lookE shF sh
  by_cases h4 : k = 4
  · simp [findE, h4]
  · by_cases h6 : k = 6
    · simp [findE, h6]
    · by_cases h16 : k = 16
      · simp [findE, h16]
      · by_cases h18 : k = 18
        · simp [findE, h18]
        · simp [findE, h4, h6, h16, h18]

theorem admay_ok (A : AHeap) (x : Ad) (hw : x.W) (Q : Value → AHeap → Prop) (hq : ∀ A', Ext NoB A A' → Q (.bool x.may) A') : wF T (.func (.func 144) #[] #[]) [.agg ⟨x.cells⟩] A Q := by
  refine wF_func (first := []) (captured := []) t144 ⟨rfl, by decide⟩ ?_
  dsimp only [c144]
  have hc := Ad.cells_eq x
  simp [hc]
  generalize hA1 : A.alloc _ = A1
  obtain ⟨g1, e1, z1⟩ := alloc_facts hA1
  refine wC_opsD_chk ?_
  simp
  refine shapes_ok A1 _ fun A2 m e2 hm => ?_
  have g2 := e2.get g1 id
  have e12 := e1.trans e2
  obtain ⟨es, ck, m1, m2⟩ := hm.get (x.ip.length : Int)
  have l2 := AHeap.get_lt g2
  have z2 := e2.size
  have hip := hw.ip
  have rest : ∀ (A3 : AHeap) (env : Env) (is : Bool), A3.get A.size = some (.cells [.bool x.echo, .int .i64 x.id, .string ⟨⟨x.ip⟩⟩, .bool x.hasPort, .int .i64 x.port, .string ⟨⟨x.mac⟩⟩] false 0) → Ext NoB A A3 → (is = true ↔ x.ip.length = 4 ∨ x.ip.length = 6 ∨ x.ip.length = 16 ∨ x.ip.length = 18) → env.rd 1 = .pointer (some ⟨A.size, 0, none⟩) → env.rd 4 = .bool is → env.rd 5 = .int .i64 (if x.echo then 0 else 8) →
      wC T 144 none c144t { env := env, n := 56, dfs := [], A := A3 } (endF [.inl 2] Q) := by
    intro A3 env is g3 e3 his r1 r4 r5
    dsimp only [c144t]
    have hq3 := hq A3 e3
    have hmac : ∀ v : Int, v = (if x.echo then 0 else 8) → ((x.mac.length : Int) = v ↔ x.mac.length = if x.echo then 0 else 8) := by intro v hv; rw [hv]; split <;> omega
    have m5 := and255 x.id
    have m6 := and65535 x.port
    have q5 := eqmask x.id 256 (by decide)
    have q6 := eqmask x.port 65536 (by decide)
    have no : x.may = false → Q (.bool false) A3 := fun h => by rwa [h] at hq3
    have hmc : ((x.mac.length : Int) = if x.echo then 0 else 8) ↔ (x.mac.length = if x.echo then 0 else 8) := hmac _ rfl
    cases is
    · simp [r1, r4, r5, g3, undef]
      refine no ?_
      have : ¬ (x.ip.length = 4 ∨ x.ip.length = 16) := fun q => by have := his.2 (by omega); cases this
      simp [Ad.may, this]
    · have hl := his.1 rfl
      by_cases h2 : x.ip.length = 4 ∨ x.ip.length = 16
      · have hr : (x.ip.length : Int).tmod 4 = 0 := by rcases h2 with h | h <;> rw [h] <;> rfl
        by_cases h3 : (x.mac.length : Int) = if x.echo then 0 else 8
        · by_cases h4 : 0 ≤ x.id ∧ x.id < 256
          · have h4' : x.id % 256 = x.id := (q5.2 h4).symm
            by_cases h5 : 0 ≤ x.port ∧ x.port < 65536
            · have h5' : x.port % 65536 = x.port := (q6.2 h5).symm
              have hmay : x.may = (x.hasPort || decide (x.port = 0)) := by
                have h4d : 0 ≤ x.id ∧ x.id ≤ 255 := by omega
                have h5d : 0 ≤ x.port ∧ x.port ≤ 65535 := by omega
                simp [Ad.may, h2, h4d, h5d, hmc.1 h3]
              rw [hmay] at hq3
              cases hp : x.hasPort
              · by_cases h6 : x.port = 0
                · simp [r1, r4, r5, g3, hr, h3, m5, h4', m6, h5', hp, h6, show IntKind.i64.wrap 0 = 0 by decide]
                  simpa [hp, h6] using hq3
                · simp [r1, r4, r5, g3, hr, h3, m5, h4', m6, h5', hp, h6]
                  simpa [hp, h6] using hq3
              · simp [r1, r4, r5, g3, hr, h3, m5, h4', m6, h5', hp, undef]
                simpa [hp] using hq3
            · have h5' : ¬ x.port = x.port % 65536 := fun q => h5 (q6.1 q)
              simp [r1, r4, r5, g3, hr, h3, m5, h4', m6, h5', undef]
              exact no (by have : ¬ (0 ≤ x.port ∧ x.port ≤ 65535) := by omega
                           simp [Ad.may, this])
          · have h4' : ¬ x.id = x.id % 256 := fun q => h4 (q5.1 q)
            simp [r1, r4, r5, g3, hr, h3, m5, h4', undef]
            exact no (by have : ¬ (0 ≤ x.id ∧ x.id ≤ 255) := by omega
                         simp [Ad.may, this])
        · simp [r1, r4, r5, g3, hr, h3, undef]
          exact no (by have := fun q => h3 (hmc.2 q)
                       simp [Ad.may]; intros; exact this)
      · have hr : ¬ (x.ip.length : Int).tmod 4 = 0 := by
          have : x.ip.length = 6 ∨ x.ip.length = 18 := by omega
          rcases this with h | h <;> rw [h] <;> decide
        simp [r1, r4, r5, g3, hr, undef]
        exact no (by simp [Ad.may, h2])
  have key : ∀ v, shF (x.ip.length : Int) = some v → ∃ i, findE (x.ip.length : Int) es 0 = some (i, v) := fun v hv => by rw [hv] at m2; exact m2
  have hge : (∃ i a b, findE (x.ip.length : Int) es 0 = some (i, sh a b) ∧ (true = true ↔ x.ip.length = 4 ∨ x.ip.length = 6 ∨ x.ip.length = 16 ∨ x.ip.length = 18)) ∨ (findE (x.ip.length : Int) es 0 = none ∧ (false = true ↔ x.ip.length = 4 ∨ x.ip.length = 6 ∨ x.ip.length = 16 ∨ x.ip.length = 18)) := by
    by_cases h4 : x.ip.length = 4
    · obtain ⟨i, hi⟩ := key (sh 4 0) (by simp [shF, h4]); exact .inl ⟨i, 4, 0, hi, by simp [h4]⟩
    · by_cases h6 : x.ip.length = 6
      · obtain ⟨i, hi⟩ := key (sh 4 2) (by simp [shF, h6]); exact .inl ⟨i, 4, 2, hi, by simp [h6]⟩
      · by_cases h16 : x.ip.length = 16
        · obtain ⟨i, hi⟩ := key (sh 16 0) (by simp [shF, h16]); exact .inl ⟨i, 16, 0, hi, by simp [h16]⟩
        · by_cases h18 : x.ip.length = 18
          · obtain ⟨i, hi⟩ := key (sh 16 2) (by simp [shF, h18]); exact .inl ⟨i, 16, 2, hi, by simp [h18]⟩
          · have hn : shF (x.ip.length : Int) = none := by
              unfold shF
              rw [if_neg (by omega), if_neg (by omega), if_neg (by omega), if_neg (by omega)]
            rw [hn] at m2
            exact .inr ⟨m2, by simp [h4, h6, h16, h18]⟩
  rcases hge with ⟨i, va, vb, hi, k3⟩ | ⟨hi, k3⟩
  · simp [g2, m1, hi, getRes, sh]
    generalize hA3 : AHeap.set (AHeap.alloc A2 _) _ _ = A3
    have e23 : Ext NoB A2 A3 := by rw [← hA3]; exact ⟨by simp, fun b hb _ => by simp [show ¬ b = A2.size by omega]⟩
    have g3 := e23.get g2 id
    refine wE_intro ?_ ?_
    · simp only [List.all_cons, List.all_nil, chkOk, List.nil_append, List.cons_append, List.getElem?_cons_succ, List.getElem?_cons_zero]
      simp [Bx, g1, g2, vbeq]
    · cases he : x.echo
      · simp [g3, he]
        exact rest A3 _ true g3 (e12.trans e23) k3 (by simp) (by simp) (by simp [he])
      · simp [g3, he]
        exact rest A3 _ true g3 (e12.trans e23) k3 (by simp) (by simp) (by simp [he])
  · simp [g2, m1, hi, getRes]
    generalize hA3 : AHeap.set (AHeap.alloc A2 _) _ _ = A3
    have e23 : Ext NoB A2 A3 := by rw [← hA3]; exact ⟨by simp, fun b hb _ => by simp [show ¬ b = A2.size by omega]⟩
    have g3 := e23.get g2 id
    refine wE_intro ?_ ?_
    · simp only [List.all_cons, List.all_nil, chkOk, List.nil_append, List.cons_append, List.getElem?_cons_succ, List.getElem?_cons_zero]
      simp [Bx, g1, g2, vbeq]
    · cases he : x.echo
      · simp [g3, he]
        exact rest A3 _ false g3 (e12.trans e23) k3 (by simp) (by simp) (by simp [he])
      · simp [g3, he]
        exact rest A3 _ false g3 (e12.trans e23) k3 (by simp) (by simp) (by simp [he])
end Go.Proofs.YtigknpfjhegkgaaGreatDoor
end

section
/- Addresses, and small options, laid. -/
namespace Go.Proofs.YtigknpfjhegkgaaGreatDoor
open Go Go.AS
set_option maxRecDepth 100000
set_option linter.unusedSimpArgs false
set_option linter.unusedVariables false
attribute [local irreducible] Trie.set Trie.get Env.rd
attribute [local simp ↓] wV_b2s
attribute [local simp] Nat.add_assoc wD_cons'' wD_nil' wC_seq wC_ops wC_opsD_nil wC_cond wC_skip wC_ret wC_exit wC_block wO_cons' wO_nil wantedA wV_eq lop qop ev wL_some wL_none wPut envOf rd_set rd_leaf eqA thenC blockC wB_true wB_false endF unwindA resultsA resA tupleA rdCell rdCells wrCells cl fillP lay rep binA unA get_set' AHeap.get_alloc oneCell beqd bned idxA

theorem catA_map (xs : List (List UInt8)) : catA (xs.map fun l => Value.string ⟨⟨l⟩⟩) = some xs.flatten := by
  induction xs with
  | nil => rfl
  | cons x xs ih => simp only [List.map_cons, catA, ih]; rfl
theorem together_ok (A : AHeap) (xs : List (List UInt8)) (b : Nat) (hb : A.get b = some (.cells (xs.map fun l => Value.string ⟨⟨l⟩⟩) false 0)) (hn : xs.length ≤ 64) (hl : xs.flatten.length ≤ 140737488355328) (Q : Value → AHeap → Prop) (hq : Q (.string ⟨⟨xs.flatten⟩⟩) A) :
    wF T (.func (.func 145) #[] #[]) [.slice (some ⟨b, 0, none⟩) xs.length xs.length] A Q := by
  refine wF_func (first := []) (captured := []) t145 ⟨rfl, by decide⟩ ?_
  dsimp only [c145]
  simp
  refine wF_func (first := []) (captured := []) t170 ⟨rfl, by decide⟩ ?_
  dsimp only [specFn]
  have hc : (xs.length < OPEN) = True := eq_true (Nat.lt_of_le_of_lt hn (by decide))
  have ht : (xs.map fun l => Value.string ⟨⟨l⟩⟩).take xs.length = xs.map fun l => Value.string ⟨⟨l⟩⟩ := List.take_of_length_le (by simp)
  have hl' : (List.map List.length xs).sum ≤ 140737488355328 := by rwa [List.length_flatten] at hl
  simp [specA, hc, hn, hb, ht, catA_map, hl']
  simpa using hq
theorem aenc_ok (A : AHeap) (x : Ad) (hw : x.W) (Q : Value → AHeap → Prop) (hq : ∀ A', Ext NoB A A' → Q (resE x.enc) A') : wF T (.func (.func 85) #[] #[]) [.agg ⟨x.cells⟩] A Q := by
  refine wF_func (first := []) (captured := []) t85 ⟨rfl, by decide⟩ ?_
  dsimp only [c85]
  have hc := Ad.cells_eq x
  simp [hc]
  generalize hA1 : A.alloc _ = A1
  obtain ⟨g1, e1, z1⟩ := alloc_facts hA1
  refine admay_ok A1 x hw _ fun A2 e2 => ?_
  have g2 := e2.get g1 id
  have e12 := e1.trans e2
  cases hm : x.may
  · have := hq A2 e12
    rw [Ad.enc, hm] at this
    simp
    exact this
  have hq' : ∀ A', Ext NoB A A' → Q (.tuple ⟨[.string ⟨⟨x.body⟩⟩, .int .i64 0]⟩) A' := fun A' e => by
    have := hq A' e
    rwa [Ad.enc, hm] at this
  have hm' := hm
  simp only [Ad.may, Bool.and_eq_true, Bool.or_eq_true, decide_eq_true_eq] at hm'
  obtain ⟨⟨⟨⟨h1, h2⟩, h3⟩, h4⟩, h5⟩ := hm'
  obtain ⟨n, hn, hn2⟩ : ∃ n : Nat, x.id = n ∧ n < 256 := ⟨x.id.toNat, by omega, by omega⟩
  obtain ⟨p, hp, hp2⟩ : ∃ n : Nat, x.port = n ∧ n < 65536 := ⟨x.port.toNat, by omega, by omega⟩
  have hnw : IntKind.u8.wrap (n : Int) = n := IntWalk.u8_in _ (by omega)
  have hpw : IntKind.u16.wrap (p : Int) = p := IntWalk.u16_in _ (by omega)
  have hml : x.mac.length ≤ 8 := by rw [h5]; split <;> omega
  have last : ∀ (A3 : AHeap) (env : Env) (pt : List UInt8), A3.get A.size = some (.cells [.bool x.echo, .int .i64 x.id, .string ⟨⟨x.ip⟩⟩, .bool x.hasPort, .int .i64 x.port, .string ⟨⟨x.mac⟩⟩] false 0) → Ext NoB A A3 → pt = (if x.hasPort then be x.port.toNat 2 else []) → env.rd 1 = .pointer (some ⟨A.size, 0, none⟩) → env.rd 4 = .int .u8 ((if x.echo then 49 else 48 : Nat) : Int) → env.rd 5 = .string ⟨⟨pt⟩⟩ →
      wC T 85 none c85t { env := env, n := 32, dfs := [], A := A3 } (endF [.inl 2, .inl 3] Q) := by
    intro A3 env pt g3 e3 hpt r1 r4 r5
    dsimp only [c85t]
    have hptl : pt.length ≤ 2 := by rw [hpt]; split <;> simp [be_len]
    simp
    refine wC_opsD_chk ?_
    simp [r1, r4, r5, g3]
    refine Put8_ok A3 [] (if x.echo then 49 else 48) (by split <;> omega) _ (by decide) fun A4 e4 => ?_
    have g4 := e4.get g3 id
    simp [r1, r4, r5, g4, hn, hnw]
    refine Put8_ok A4 [] n (by omega) _ (by decide) fun A5 e5 => ?_
    have g5 := e5.get g4 id
    simp [r1, r5, g5]
    generalize hA6 : AHeap.alloc A5 _ = A6
    obtain ⟨g6, e6, z6⟩ := alloc_facts hA6
    have gx6 := e6.get g5 id
    refine together_ok A6 [be (if x.echo then 49 else 48) 1, be n 1, x.ip, pt, x.mac] A5.size (by rw [g6]; simp) (by simp) (by simp [be_len]; omega) _ ?_
    simp
    refine wE_intro ?_ ?_
    · simp only [List.all_cons, List.all_nil, chkOk, List.nil_append, List.cons_append, List.getElem?_cons_succ, List.getElem?_cons_zero]
      simp [Bx, r1, r4, r5, g3, g4, g5, hn, vbeq]
    · have := hq' A6 (((e3.trans e4).trans e5).trans e6)
      have hbd : x.body = be (if x.echo then 49 else 48) 1 ++ be n 1 ++ x.ip ++ pt ++ x.mac := by simp [Ad.body, hn, hpt]
      rw [hbd] at this
      simp
      simpa using this
  cases hpp : x.hasPort
  · cases he : x.echo
    · simp [g2, he, hpp]
      exact last A2 _ [] (by rw [g2]) e12 (by simp [hpp]) (by simp) (by simp [he]) (by simp)
    · simp [g2, he, hpp, IntKind.bits, show IntKind.u8.wrap 49 = 49 by decide]
      exact last A2 _ [] (by rw [g2]) e12 (by simp [hpp]) (by simp) (by simp [he]) (by simp)
  · cases he : x.echo
    · simp [g2, he, hpp, hp, hpw]
      refine Put16_ok A2 [] p (by omega) _ (by decide) fun A3 e3 => ?_
      simp
      exact last A3 _ (be p 2) (e3.get g2 id) (e12.trans e3) (by simp [hpp, hp]) (by simp) (by simp [he]) (by simp)
    · simp [g2, he, hpp, hp, hpw, IntKind.bits, show IntKind.u8.wrap 49 = 49 by decide]
      refine Put16_ok A2 [] p (by omega) _ (by decide) fun A3 e3 => ?_
      simp
      exact last A3 _ (be p 2) (e3.get g2 id) (e12.trans e3) (by simp [hpp, hp]) (by simp) (by simp [he]) (by simp)

def remE (l : List UInt8) : Option (List UInt8) := if 1 ≤ l.length ∧ l.length ≤ 37 then some (64 :: l) else none
theorem renc_ok (A : AHeap) (l : List UInt8) (hl : l.length < 100000) (Q : Value → AHeap → Prop) (hq : ∀ A', Ext NoB A A' → Q (resE (remE l)) A') : wF T (.func (.func 89) #[] #[]) [.agg ⟨[.string ⟨⟨l⟩⟩]⟩] A Q := by
  refine wF_func (first := []) (captured := []) t89 ⟨rfl, by decide⟩ ?_
  dsimp only [c89]
  simp
  generalize hA1 : A.alloc _ = A1
  obtain ⟨g1, e1, z1⟩ := alloc_facts hA1
  by_cases h0 : l.length = 0
  · have h0' : l = [] := List.length_eq_zero_iff.1 h0
    have := hq A1 e1
    rw [remE, if_neg (by omega)] at this
    simp [g1, h0, h0', undef]
    exact this
  · have h0' : ¬ l = [] := fun q => h0 (by rw [q]; rfl)
    by_cases h1 : 37 < l.length
    · have := hq A1 e1
      rw [remE, if_neg (by omega)] at this
      simp [g1, h0, h0', h1, show (37 : Int) < (l.length : Int) by omega]
      exact this
    · have hq' : ∀ A', Ext NoB A A' → Q (.tuple ⟨[.string ⟨⟨64 :: l⟩⟩, .int .i64 0]⟩) A' := fun A' e => by
        have := hq A' e
        rwa [remE, if_pos (by omega)] at this
      simp [g1, h0, h0', show ¬ (37 : Int) < (l.length : Int) by omega]
      refine wC_opsD_chk ?_
      simp
      refine Put8_ok A1 [] 64 (by decide) _ (by decide) fun A2 e2 => ?_
      have g2 := e2.get g1 id
      simp [g2]
      generalize hA3 : AHeap.alloc A2 _ = A3
      obtain ⟨g3, e3, z3⟩ := alloc_facts hA3
      refine together_ok A3 [be 64 1, l] A2.size (by rw [g3]; simp) (by simp) (by simp [be_len]; omega) _ ?_
      simp
      refine wE_intro ?_ ?_
      · simp only [List.all_cons, List.all_nil, chkOk, List.nil_append, List.cons_append, List.getElem?_cons_succ, List.getElem?_cons_zero]
        simp [Bx, g1, g2, vbeq]
      · have := hq' A3 ((e1.trans e2).trans e3)
        simp
        exact this
def prioE (b : Bool) : List UInt8 := be (if b then 81 else 80) 1
theorem penc_ok (A : AHeap) (b : Bool) (Q : Value → AHeap → Prop) (hq : ∀ A', Ext NoB A A' → Q (resE (some (prioE b))) A') : wF T (.func (.func 93) #[] #[]) [.agg ⟨[.bool b]⟩] A Q := by
  refine wF_func (first := []) (captured := []) t93 ⟨rfl, by decide⟩ ?_
  dsimp only [c93]
  simp
  generalize hA1 : A.alloc _ = A1
  obtain ⟨g1, e1, z1⟩ := alloc_facts hA1
  cases b
  · simp [g1]
    refine Put8_ok A1 [] 80 (by decide) _ (by decide) fun A2 e2 => ?_
    simp
    exact hq A2 (e1.trans e2)
  · simp [g1, IntKind.bits, show IntKind.u8.wrap 81 = 81 by decide]
    refine Put8_ok A1 [] 81 (by decide) _ (by decide) fun A2 e2 => ?_
    simp
    exact hq A2 (e1.trans e2)
theorem front_ok (A : AHeap) (s : Nat) (hs : s < 16) (Q : Value → AHeap → Prop) (hq : ∀ A', Ext NoB A A' → Q (.string ⟨⟨be (s * 4096) 2⟩⟩) A') : wF T (.func (.func 151) #[] #[]) [.int .i64 (s : Nat)] A Q := by
  refine wF_func (first := []) (captured := []) t151 ⟨rfl, by decide⟩ ?_
  dsimp only [c151]
  obtain ⟨m, hm⟩ : ∃ m : Nat, s * 4096 = m := ⟨_, rfl⟩
  rw [hm] at hq
  have h1 : IntKind.i64.wrap ((s : Int) * 4096) = (m : Int) := by rw [IntWalk.i64_in _ (by omega)]; omega
  have h2 : IntKind.u16.wrap (m : Int) = (m : Int) := IntWalk.u16_in _ (by omega)
  simp [IntKind.bits, h1, h2]
  refine Put16_ok A [] m (by omega) _ (by decide) fun A1 e1 => ?_
  simp
  exact hq A1 e1
def bigE (s n : Nat) : List UInt8 := be (s * 4096) 2 ++ be n 8
theorem fenc_ok (A : AHeap) (n : Nat) (hn : n < 256 ^ 8) (Q : Value → AHeap → Prop) (hq : ∀ A', Ext NoB A A' → Q (resE (some (bigE 6 n))) A') : wF T (.func (.func 97) #[] #[]) [.agg ⟨[.int .u64 (n : Nat)]⟩] A Q := by
  refine wF_func (first := []) (captured := []) t97 ⟨rfl, by decide⟩ ?_
  dsimp only [c97]
  simp
  generalize hA1 : A.alloc _ = A1
  obtain ⟨g1, e1, z1⟩ := alloc_facts hA1
  refine wC_opsD_chk ?_
  simp
  refine front_ok A1 6 (by decide) _ fun A2 e2 => ?_
  have g2 := e2.get g1 id
  simp [g2]
  refine Put64_ok A2 _ n hn _ (by simp [be_len]) fun A3 e3 => ?_
  simp
  refine wE_intro ?_ ?_
  · simp only [List.all_cons, List.all_nil, chkOk, List.nil_append, List.cons_append, List.getElem?_cons_succ, List.getElem?_cons_zero]
    simp [Bx, g1, g2, vbeq]
  · simp
    exact hq A3 ((e1.trans e2).trans e3)
theorem kenc_ok (A : AHeap) (n : Nat) (hn : n < 256 ^ 8) (Q : Value → AHeap → Prop) (hq : ∀ A', Ext NoB A A' → Q (resE (some (bigE 7 n))) A') : wF T (.func (.func 101) #[] #[]) [.agg ⟨[.int .u64 (n : Nat)]⟩] A Q := by
  refine wF_func (first := []) (captured := []) t101 ⟨rfl, by decide⟩ ?_
  dsimp only [c101]
  simp
  generalize hA1 : A.alloc _ = A1
  obtain ⟨g1, e1, z1⟩ := alloc_facts hA1
  refine wC_opsD_chk ?_
  simp
  refine front_ok A1 7 (by decide) _ fun A2 e2 => ?_
  have g2 := e2.get g1 id
  simp [g2]
  refine Put64_ok A2 _ n hn _ (by simp [be_len]) fun A3 e3 => ?_
  simp
  refine wE_intro ?_ ?_
  · simp only [List.all_cons, List.all_nil, chkOk, List.nil_append, List.cons_append, List.getElem?_cons_succ, List.getElem?_cons_zero]
    simp [Bx, g1, g2, vbeq]
  · simp
    exact hq A3 ((e1.trans e2).trans e3)
def rstE (f r : Int) : Option (List UInt8) := if 0 ≤ f ∧ f < 16 ∧ 0 ≤ r ∧ r < 256 then some (be (32768 + f.toNat * 256 + r.toNat) 2) else none
theorem shrI (n : Int) (m : Int) (hm : 0 < m) : (n.fdiv m = 0) ↔ (0 ≤ n ∧ n < m) := by
  rw [Int.fdiv_eq_ediv_of_nonneg _ (by omega)]
  constructor
  · intro h
    have h1 := Int.emod_add_mul_ediv n m
    have h2 := Int.emod_nonneg n (show m ≠ 0 by omega)
    have h3 := Int.emod_lt_of_pos n hm
    rw [h, Int.mul_zero] at h1
    omega
  · intro h
    exact Int.ediv_eq_zero_of_lt h.1 h.2
theorem tenc_ok (A : AHeap) (f r : Int) (Q : Value → AHeap → Prop) (hq : ∀ A', Ext NoB A A' → Q (resE (rstE f r)) A') : wF T (.func (.func 105) #[] #[]) [.agg ⟨[.int .i64 f, .int .i64 r]⟩] A Q := by
  refine wF_func (first := []) (captured := []) t105 ⟨rfl, by decide⟩ ?_
  dsimp only [c105]
  simp
  generalize hA1 : A.alloc _ = A1
  obtain ⟨g1, e1', z1⟩ := alloc_facts hA1
  have s1 := shrI f 16 (by decide)
  have s2 := shrI r 256 (by decide)
  by_cases h1 : 0 ≤ f ∧ f < 16
  · have s1' : f.fdiv 16 = 0 := s1.2 h1
    by_cases h2 : 0 ≤ r ∧ r < 256
    · have s2' : r.fdiv 256 = 0 := s2.2 h2
      obtain ⟨n, rfl, hn⟩ : ∃ n : Nat, f = n ∧ n < 16 := ⟨f.toNat, by omega, by omega⟩
      obtain ⟨m, rfl, hm⟩ : ∃ m : Nat, r = m ∧ m < 256 := ⟨r.toNat, by omega, by omega⟩
      have hq' : ∀ A', Ext NoB A A' → Q (.tuple ⟨[.string ⟨⟨be (32768 + n * 256 + m) 2⟩⟩, .int .i64 0]⟩) A' := fun A' e => by
        have := hq A' e
        rwa [rstE, if_pos (by omega), Int.toNat_natCast, Int.toNat_natCast] at this
      obtain ⟨a, ha⟩ : ∃ a : Nat, n * 256 = a := ⟨_, rfl⟩
      obtain ⟨b, hb⟩ : ∃ b : Nat, 32768 + a = b := ⟨_, rfl⟩
      obtain ⟨c, hc⟩ : ∃ c : Nat, b + m = c := ⟨_, rfl⟩
      rw [ha, hb, hc] at hq'
      have e1 : IntKind.i64.wrap ((n : Int) * 256) = (a : Nat) := by rw [IntWalk.i64_in _ (by omega)]; omega
      have e2 : ((32768#64 : BitVec 64) ||| BitVec.ofNat 64 a).toNat = b := by
        rw [BitVec.toNat_or, BitVec.toNat_ofNat, BitVec.toNat_ofNat, Nat.mod_eq_of_lt (by omega), Nat.mod_eq_of_lt (by omega)]
        have := Nat.two_pow_add_eq_or_of_lt (i := 15) (b := a) (by omega) 1
        rw [show 2 ^ 15 * 1 = 32768 from rfl] at this
        omega
      have e3 : (BitVec.ofNat 64 b ||| BitVec.ofNat 64 m).toNat = c := by
        rw [BitVec.toNat_or, BitVec.toNat_ofNat, BitVec.toNat_ofNat, Nat.mod_eq_of_lt (by omega), Nat.mod_eq_of_lt (by omega)]
        have := Nat.two_pow_add_eq_or_of_lt (i := 8) (b := m) (by omega) (128 + n)
        have e2 : 2 ^ 8 * (128 + n) = b := by omega
        rw [e2] at this
        omega
      simp [IntKind.bits, s1', s2', g1]
      generalize hz : IntKind.u16.wrap _ = z
      have hzc : z = (c : Nat) := by
        rw [← hz]
        show IntKind.u16.wrap (IntKind.i64.wrap (((BitVec.ofInt 64 (IntKind.i64.wrap ((((32768#64 : BitVec 64) ||| BitVec.ofInt 64 (IntKind.i64.wrap ((n : Int) * 256))).toNat : Nat) : Int)) ||| BitVec.ofNat 64 m).toNat : Nat) : Int)) = (c : Nat)
        rw [e1, BitVec.ofInt_natCast, e2, IntWalk.i64_in (b : Int) (by omega), BitVec.ofInt_natCast, e3, IntWalk.i64_in (c : Int) (by omega), IntWalk.u16_in (c : Int) (by omega)]
      subst hzc
      refine Put16_ok A1 [] c (by omega) _ (by decide) fun A2 e2 => ?_
      simp
      exact hq' A2 (e1'.trans e2)
    · have s2' : ¬ r.fdiv 256 = 0 := fun q => h2 (s2.1 q)
      have := hq A1 e1'
      rw [rstE, if_neg (by omega)] at this
      simp [g1, IntKind.bits, s1', s2']
      exact this
  · have s1' : ¬ f.fdiv 16 = 0 := fun q => h1 (s1.1 q)
    have := hq A1 e1'
    rw [rstE, if_neg (by omega)] at this
    simp [g1, IntKind.bits, s1', undef]
    exact this
end Go.Proofs.YtigknpfjhegkgaaGreatDoor
end
