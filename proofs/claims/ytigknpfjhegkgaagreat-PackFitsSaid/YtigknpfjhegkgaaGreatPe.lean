/- Data sequence signals, laid. -/
import Derived.Test.YtigknpfjhegkgaaGreatPd
import Derived.KernelRfl
namespace Go.Proofs.YtigknpfjhegkgaaGreat
open Go Go.AS
set_option maxRecDepth 100000
set_option linter.unusedSimpArgs false
set_option linter.unusedVariables false
attribute [local irreducible] Trie.set Trie.get Env.rd
attribute [local simp ↓] wV_b2s
attribute [local simp] Nat.add_assoc wD_cons'' wD_nil' wC_seq wC_ops wC_opsD_nil wC_cond wC_skip wC_ret wC_exit wC_block wO_cons' wO_nil wantedA wV_eq lop qop ev wL_some wL_none wPut envOf rd_set rd_leaf eqA thenC blockC wB_true wB_false endF unwindA resultsA resA tupleA rdCell rdCells wrCells cl fillP lay rep binA unA get_set' AHeap.get_alloc oneCell beqd bned idxA

structure Ds where
  fin : Bool
  hasAck : Bool
  longAck : Bool
  ack : Nat
  hasMap : Bool
  longDsn : Bool
  dsn : Nat
  ssn : Nat
  len : Int
  hasSum : Bool
  sum : Nat
  deriving DecidableEq
def Ds.cells (x : Ds) : List Value := [.bool x.fin, .bool x.hasAck, .bool x.longAck, .int .u64 (x.ack : Nat), .bool x.hasMap, .bool x.longDsn, .int .u64 (x.dsn : Nat), .int .u32 (x.ssn : Nat), .int .i64 x.len, .bool x.hasSum, .int .u16 (x.sum : Nat)]
theorem Ds.cells_eq (x : Ds) : x.cells = [.bool x.fin, .bool x.hasAck, .bool x.longAck, .int .u64 (x.ack : Nat), .bool x.hasMap, .bool x.longDsn, .int .u64 (x.dsn : Nat), .int .u32 (x.ssn : Nat), .int .i64 x.len, .bool x.hasSum, .int .u16 (x.sum : Nat)] := rfl
structure Ds.W (x : Ds) : Prop where
  ack : x.ack < 256 ^ 8
  dsn : x.dsn < 256 ^ 8
  ssn : x.ssn < 256 ^ 4
  sum : x.sum < 256 ^ 2
def Ds.b1 (x : Ds) : Bool := (!x.hasAck && !x.hasMap) || (!x.hasAck && (x.longAck || decide (x.ack ≠ 0))) || (!x.hasSum && decide (x.sum ≠ 0))
def Ds.b2 (x : Ds) : Bool := !x.hasMap && (x.fin || x.longDsn || decide (x.dsn ≠ 0) || decide (x.ssn ≠ 0) || decide (x.len ≠ 0) || x.hasSum)
def Ds.b3 (x : Ds) : Bool := (!x.longAck && decide (4294967296 ≤ x.ack)) || (!x.longDsn && decide (4294967296 ≤ x.dsn))
def Ds.may (x : Ds) : Bool := !x.b1 && !x.b2 && !x.b3 && decide (0 ≤ x.len ∧ x.len < 65536)
def Ds.bits (x : Ds) : Nat := (if x.hasAck then 1 else 0) + (if x.longAck then 2 else 0) + (if x.hasMap then 4 else 0) + (if x.longDsn then 8 else 0) + (if x.fin then 16 else 0)
def wide (l : Bool) : Nat := if l then 8 else 4
def Ds.body (x : Ds) : List UInt8 := [32] ++ be x.bits 1 ++ (if x.hasAck then be x.ack (wide x.longAck) else []) ++ (if x.hasMap then be x.dsn (wide x.longDsn) ++ be x.ssn 4 ++ be x.len.toNat 2 else []) ++ (if x.hasSum then be x.sum 2 else [])
def Ds.enc (x : Ds) : Option (List UInt8) := if x.may then some x.body else none

theorem shr32 (n : Nat) : (((n : Int).fdiv 4294967296) = 0) ↔ ¬ (4294967296 ≤ n) := by
  rw [Int.fdiv_eq_ediv_of_nonneg _ (by decide)]; omega
theorem dmw_ok (A : AHeap) (x : Ds) (q : Nat) (env : Env) (Q : Value → AHeap → Prop) (g : A.get q = some (.cells x.cells false 0)) (r1 : env.rd 1 = .pointer (some ⟨q, 0, none⟩)) (hq : Q (.bool (decide (0 ≤ x.len ∧ x.len < 65536))) A) :
    wC T 96 none c96w { env := env, n := 90, dfs := [], A := A } (endF [.inl 2] Q) := by
  dsimp only [c96w]
  rw [Ds.cells_eq] at g
  by_cases h1 : 0 ≤ x.len
  · by_cases h2 : x.len < 65536
    · simp [r1, g, h1, h2]; simpa [h1, h2] using hq
    · simp [r1, g, h1, h2]; simpa [h1, h2] using hq
  · simp [r1, g, h1, undef]; simpa [h1] using hq
theorem dmv_ok (A : AHeap) (x : Ds) (q : Nat) (env : Env) (K : AExit → St → Prop) (g : A.get q = some (.cells x.cells false 0)) (r1 : env.rd 1 = .pointer (some ⟨q, 0, none⟩))
    (hr : x.b3 = true → ∀ env' : Env, env'.rd 2 = .bool false → K .ret { env := env', n := 90, dfs := [], A := A }) (hn : x.b3 = false → ∀ env' : Env, env'.rd 1 = .pointer (some ⟨q, 0, none⟩) → K .normal { env := env', n := 90, dfs := [], A := A }) :
    wC T 96 none c96v { env := env, n := 90, dfs := [], A := A } K := by
  dsimp only [c96v]
  rw [Ds.cells_eq] at g
  have sa := shr32 x.ack
  have sd := shr32 x.dsn
  cases ha : x.longAck
  · by_cases h1 : 4294967296 ≤ x.ack
    · simp [r1, g, ha, IntKind.bits, sa, h1, undef]
      exact hr (by simp [Ds.b3, ha, h1]) _ (by simp)
    · cases hd : x.longDsn
      · by_cases h2 : 4294967296 ≤ x.dsn
        · simp [r1, g, ha, hd, IntKind.bits, sa, sd, h1, h2, undef]
          exact hr (by simp [Ds.b3, hd, h2]) _ (by simp)
        · simp [r1, g, ha, hd, IntKind.bits, sa, sd, h1, h2, undef]
          exact hn (by simp [Ds.b3, ha, hd, h1, h2]) _ (by simp [r1])
      · simp [r1, g, ha, hd, IntKind.bits, sa, sd, h1, undef]
        exact hn (by simp [Ds.b3, ha, hd, h1]) _ (by simp [r1])
  · cases hd : x.longDsn
    · by_cases h2 : 4294967296 ≤ x.dsn
      · simp [r1, g, ha, hd, IntKind.bits, sd, h2, undef]
        exact hr (by simp [Ds.b3, hd, h2]) _ (by simp)
      · simp [r1, g, ha, hd, IntKind.bits, sd, h2, undef]
        exact hn (by simp [Ds.b3, ha, hd, h2]) _ (by simp [r1])
    · simp [r1, g, ha, hd, undef]
      exact hn (by simp [Ds.b3, ha, hd]) _ (by simp [r1])
theorem dmu_ok (A : AHeap) (x : Ds) (q : Nat) (env : Env) (K : AExit → St → Prop) (g : A.get q = some (.cells x.cells false 0)) (r1 : env.rd 1 = .pointer (some ⟨q, 0, none⟩))
    (hr : x.b2 = true ∨ x.b3 = true → ∀ env' : Env, env'.rd 2 = .bool false → K .ret { env := env', n := 90, dfs := [], A := A }) (hn : x.b2 = false → x.b3 = false → ∀ env' : Env, env'.rd 1 = .pointer (some ⟨q, 0, none⟩) → K .normal { env := env', n := 90, dfs := [], A := A }) :
    wC T 96 none c96u { env := env, n := 90, dfs := [], A := A } K := by
  dsimp only [c96u]
  have g0 := g
  rw [Ds.cells_eq] at g
  have next : ∀ env' : Env, env'.rd 1 = .pointer (some ⟨q, 0, none⟩) → x.b2 = false → wC T 96 none c96v { env := env', n := 90, dfs := [], A := A } K := fun env' r h2 =>
    dmv_ok A x q env' K g0 r (fun h3 => hr (.inr h3)) (fun h3 => hn h2 h3)
  cases hm : x.hasMap
  · cases hf : x.fin
    · cases hl : x.longDsn
      · by_cases hd : x.dsn = 0
        · by_cases hs : x.ssn = 0
          · by_cases hle : x.len = 0
            · cases hsm : x.hasSum
              · simp [r1, g, hm, hf, hl, hd, hs, hle, hsm]
                exact next _ (by simp [r1]) (by simp [Ds.b2, hm, hf, hl, hd, hs, hle, hsm])
              · simp [r1, g, hm, hf, hl, hd, hs, hle, hsm]
                exact hr (.inl (by simp [Ds.b2, hm, hsm])) _ (by simp)
            · simp [r1, g, hm, hf, hl, hd, hs, hle, undef]
              exact hr (.inl (by simp [Ds.b2, hm, hle])) _ (by simp)
          · simp [r1, g, hm, hf, hl, hd, hs, undef]
            exact hr (.inl (by simp [Ds.b2, hm, hs])) _ (by simp)
        · simp [r1, g, hm, hf, hl, hd, undef]
          exact hr (.inl (by simp [Ds.b2, hm, hd])) _ (by simp)
      · simp [r1, g, hm, hf, hl, undef]
        exact hr (.inl (by simp [Ds.b2, hm, hl])) _ (by simp)
    · simp [r1, g, hm, hf, undef]
      exact hr (.inl (by simp [Ds.b2, hm, hf])) _ (by simp)
  · simp [r1, g, hm, undef]
    exact next _ (by simp [r1]) (by simp [Ds.b2, hm])

theorem dmay_ok (A : AHeap) (x : Ds) (Q : Value → AHeap → Prop) (hq : ∀ A', Ext NoB A A' → Q (.bool x.may) A') : wF T (.func (.func 96) #[] #[]) [.agg ⟨x.cells⟩] A Q := by
  refine wF_func (first := []) (captured := []) t96 ⟨rfl, by decide⟩ ?_
  dsimp only [c96]
  have hc := Ds.cells_eq x
  simp [hc]
  generalize hA1 : A.alloc _ = A1
  obtain ⟨g1, e1, z1⟩ := alloc_facts hA1
  have g0 : A1.get A.size = some (.cells x.cells false 0) := by rw [g1, hc]
  have no : x.may = false → ∀ A', Ext NoB A A' → Q (.bool false) A' := fun h A' e => by have := hq A' e; rwa [h] at this
  have bad : ∀ env' : Env, x.may = false → env'.rd 2 = .bool false → endF [.inl 2] Q .ret { env := env', n := 90, dfs := [], A := A1 } := fun env' h r => by
    simp [r]; exact no h A1 e1
  have main : x.b1 = false → ∀ (env : Env) (K : AExit → St → Prop), env.rd 1 = .pointer (some ⟨A.size, 0, none⟩) → (x.may = false → ∀ env' : Env, env'.rd 2 = .bool false → K .ret { env := env', n := 90, dfs := [], A := A1 }) →
      (x.b2 = false → x.b3 = false → ∀ env' : Env, env'.rd 1 = .pointer (some ⟨A.size, 0, none⟩) → K .normal { env := env', n := 90, dfs := [], A := A1 }) → wC T 96 none c96u { env := env, n := 90, dfs := [], A := A1 } K := by
    intro hb1 env K r1 hr hn
    refine dmu_ok A1 x A.size env K g0 r1 (fun h => hr ?_) hn
    unfold Ds.may
    rcases h with h | h <;> simp [h]
  have last : x.b1 = false → x.b2 = false → x.b3 = false → ∀ env' : Env, env'.rd 1 = .pointer (some ⟨A.size, 0, none⟩) → wC T 96 none c96w { env := env', n := 90, dfs := [], A := A1 } (endF [.inl 2] Q) := fun h1 h2 h3 env' r =>
    dmw_ok A1 x A.size env' Q g0 r (by have := hq A1 e1; simpa [Ds.may, h1, h2, h3] using this)
  cases ha : x.hasAck
  · cases hm : x.hasMap
    · simp [g1, ha, hm]
      exact no (by simp [Ds.may, Ds.b1, ha, hm]) A1 e1
    · cases hl : x.longAck
      · by_cases hk : x.ack = 0
        · cases hs : x.hasSum
          · by_cases hz : x.sum = 0
            · have hb : x.b1 = false := by simp [Ds.b1, ha, hm, hl, hk, hs, hz]
              simp [g1, ha, hm, hl, hk, hs, hz]
              refine main hb _ _ (by simp) (fun h env' r => ?_) (fun h2 h3 env' r => ?_)
              · simp [r]; exact no h A1 e1
              · simp; exact last hb h2 h3 env' r
            · simp [g1, ha, hm, hl, hk, hs, hz]
              exact no (by simp [Ds.may, Ds.b1, hs, hz]) A1 e1
          · have hb : x.b1 = false := by simp [Ds.b1, ha, hm, hl, hk, hs]
            simp [g1, ha, hm, hl, hk, hs, undef]
            refine main hb _ _ (by simp) (fun h env' r => ?_) (fun h2 h3 env' r => ?_)
            · simp [r]; exact no h A1 e1
            · simp; exact last hb h2 h3 env' r
        · simp [g1, ha, hm, hl, hk]
          exact no (by simp [Ds.may, Ds.b1, ha, hk]) A1 e1
      · simp [g1, ha, hm, hl, undef]
        exact no (by simp [Ds.may, Ds.b1, ha, hl]) A1 e1
  · cases hs : x.hasSum
    · by_cases hz : x.sum = 0
      · have hb : x.b1 = false := by simp [Ds.b1, ha, hs, hz]
        simp [g1, ha, hs, hz, undef]
        refine main hb _ _ (by simp) (fun h env' r => ?_) (fun h2 h3 env' r => ?_)
        · simp [r]; exact no h A1 e1
        · simp; exact last hb h2 h3 env' r
      · simp [g1, ha, hs, hz, undef]
        exact no (by simp [Ds.may, Ds.b1, hs, hz]) A1 e1
    · have hb : x.b1 = false := by simp [Ds.b1, ha, hs]
      simp [g1, ha, hs, undef]
      refine main hb _ _ (by simp) (fun h env' r => ?_) (fun h2 h3 env' r => ?_)
      · simp [r]; exact no h A1 e1
      · simp; exact last hb h2 h3 env' r

theorem dset_ok (A : AHeap) (q b bit : Nat) (is : Bool) (hb : b < 256) (hbit : bit < 256) (g : A.get q = some (.cells [.int .i64 (b : Nat)] false 0)) (Q : Value → AHeap → Prop)
    (hq : ∀ A' v, A'.get q = some (.cells [.int .i64 ((if is then b ||| bit else b : Nat) : Int)] false 0) → Ext (fun j => j = q) A A' → Q v A') :
    wF T (.func (.func 97) ⟨[]⟩ ⟨[.pointer (some ⟨q, 0, none⟩)]⟩) [.bool is, .int .i64 (bit : Nat)] A Q := by
  refine wF_func (first := []) (captured := [.pointer (some ⟨q, 0, none⟩)]) t97 ⟨rfl, by decide⟩ ?_
  dsimp only [c97]
  have l := AHeap.get_lt g
  cases is
  · simp
    exact hq A _ g Ext.refl
  · have hor := bin_or .i64 b bit (by simp [IntKind.bits]; omega) (by simp [IntKind.bits]; omega)
    have hlt : b ||| bit < 256 := Nat.or_lt_two_pow (n := 8) hb hbit
    rw [IntWalk.i64_in _ (by omega)] at hor
    simp [-binA, g, hor, l]
    generalize hA2 : AHeap.set A q _ = A2
    obtain ⟨g2, e2, z2⟩ := set_facts l hA2
    exact hq A2 _ g2 e2
theorem dnum_ok (A : AHeap) (s : List UInt8) (n : Nat) (l : Bool) (hs : s.length < 1000) (hn : n < 256 ^ 8) (hl : l = false → n < 256 ^ 4) (Q : Value → AHeap → Prop) (hq : ∀ A', Ext NoB A A' → Q (.string ⟨⟨s ++ be n (wide l)⟩⟩) A') :
    wF T (.func (.func 98) #[] #[]) [.string ⟨⟨s⟩⟩, .int .u64 (n : Nat), .bool l] A Q := by
  refine wF_func (first := []) (captured := []) t98 ⟨rfl, by decide⟩ ?_
  dsimp only [c98]
  cases l
  · have h4 := hl rfl
    have w : IntKind.u32.wrap (n : Int) = n := IntWalk.u32_in _ (by omega)
    simp [w]
    refine Put32_ok A s n h4 _ (by omega) fun A1 e1 => ?_
    simp
    exact hq A1 e1
  · simp
    refine Put64_ok A s n hn _ (by omega) fun A1 e1 => ?_
    simp
    exact hq A1 e1
def dfin (x : Ds) (s : List UInt8) : List UInt8 := s ++ (if x.hasSum then be x.sum 2 else [])
theorem dev_ok (A0 A : AHeap) (x : Ds) (hw : x.W) (s : List UInt8) (hs : s.length < 900) (q : Nat) (env : Env) (Q : Value → AHeap → Prop) (g : A.get q = some (.cells x.cells false 0)) (r1 : env.rd 1 = .pointer (some ⟨q, 0, none⟩)) (r6 : env.rd 6 = .string ⟨⟨s⟩⟩) (ex : Ext NoB A0 A)
    (hq : ∀ A', Ext NoB A0 A' → Q (.tuple ⟨[.string ⟨⟨dfin x s⟩⟩, .int .i64 0]⟩) A') : wC T 41 none c41v { env := env, n := 65, dfs := [], A := A } (endF [.inl 2, .inl 3] Q) := by
  dsimp only [c41v]
  rw [Ds.cells_eq] at g
  unfold dfin at hq
  cases h : x.hasSum
  · simp [r1, r6, g, h]
    simpa [h] using hq A ex
  · simp [r1, r6, g, h]
    refine Put16_ok A s x.sum hw.sum _ (by omega) fun A1 e1 => ?_
    simp
    simpa [h] using hq A1 (ex.trans e1)
def dmap (x : Ds) (s : List UInt8) : List UInt8 := s ++ (if x.hasMap then be x.dsn (wide x.longDsn) ++ be x.ssn 4 ++ be x.len.toNat 2 else [])
theorem wide_le (l : Bool) : wide l ≤ 8 := by cases l <;> decide
theorem deu_ok (A0 A : AHeap) (x : Ds) (hw : x.W) (hm : x.may = true) (s : List UInt8) (hs : s.length < 800) (q : Nat) (env : Env) (Q : Value → AHeap → Prop) (g : A.get q = some (.cells x.cells false 0)) (r1 : env.rd 1 = .pointer (some ⟨q, 0, none⟩)) (r6 : env.rd 6 = .string ⟨⟨s⟩⟩) (ex : Ext NoB A0 A)
    (hq : ∀ A', Ext NoB A0 A' → Q (.tuple ⟨[.string ⟨⟨dfin x (dmap x s)⟩⟩, .int .i64 0]⟩) A') : wC T 41 none c41u { env := env, n := 65, dfs := [], A := A } (endF [.inl 2, .inl 3] Q) := by
  dsimp only [c41u]
  have g0 := g
  rw [Ds.cells_eq] at g
  simp only [Ds.may, Bool.and_eq_true, decide_eq_true_eq, Bool.not_eq_true'] at hm
  obtain ⟨⟨⟨hb1, hb2⟩, hb3⟩, hl0, hl1⟩ := hm
  obtain ⟨l, hl, hl2⟩ : ∃ l : Nat, x.len = l ∧ l < 65536 := ⟨x.len.toNat, by omega, by omega⟩
  have hlw : IntKind.u16.wrap (l : Int) = l := IntWalk.u16_in _ (by omega)
  have hwd := wide_le x.longDsn
  have hd4 : x.longDsn = false → x.dsn < 256 ^ 4 := fun h => by
    simp only [Ds.b3, h, Bool.not_false, Bool.true_and, Bool.or_eq_false_iff, decide_eq_false_iff_not] at hb3
    omega
  cases h : x.hasMap
  · have hdm : dmap x s = s := by simp [dmap, h]
    rw [hdm] at hq
    simp [r1, r6, g, h]
    exact dev_ok A0 A x hw s (by omega) q _ Q g0 (by simp [r1]) (by simp [r6]) ex hq
  · have hdm : dmap x s = s ++ be x.dsn (wide x.longDsn) ++ be x.ssn 4 ++ be l 2 := by simp [dmap, h, hl]
    simp [r1, r6, g, h]
    refine wC_opsD_chk ?_
    simp [r1, r6, g]
    refine dnum_ok A s x.dsn x.longDsn (by omega) hw.dsn hd4 _ fun A1 e1 => ?_
    have g1 := e1.get g id
    simp [r1, g1]
    refine Put32_ok A1 _ x.ssn hw.ssn _ (by simp [be_len]; omega) fun A2 e2 => ?_
    have g2 := e2.get g1 id
    simp [r1, g2, hl, hlw]
    refine Put16_ok A2 _ l (by omega) _ (by simp [be_len]; omega) fun A3 e3 => ?_
    have g3 : A3.get q = some (.cells x.cells false 0) := by rw [e3.get g2 id, ← Ds.cells_eq]
    simp
    refine wE_intro ?_ ?_
    · simp only [List.all_cons, List.all_nil, chkOk, List.nil_append, List.cons_append, List.getElem?_cons_succ, List.getElem?_cons_zero]
      simp [Bx, r1, g, g1, g2, hl, vbeq]
    · simp
      refine dev_ok A0 A3 x hw _ (by rw [hdm]; simp [be_len]; omega) q _ Q g3 (by simp [r1]) (by simp [hdm]) (((ex.trans e1).trans e2).trans e3) hq
theorem ors (x : Ds) : (if x.fin then (if x.longDsn then (if x.hasMap then (if x.longAck then (if x.hasAck then 0 ||| 1 else 0) ||| 2 else (if x.hasAck then 0 ||| 1 else 0)) ||| 4 else (if x.longAck then (if x.hasAck then 0 ||| 1 else 0) ||| 2 else (if x.hasAck then 0 ||| 1 else 0))) ||| 8 else (if x.hasMap then (if x.longAck then (if x.hasAck then 0 ||| 1 else 0) ||| 2 else (if x.hasAck then 0 ||| 1 else 0)) ||| 4 else (if x.longAck then (if x.hasAck then 0 ||| 1 else 0) ||| 2 else (if x.hasAck then 0 ||| 1 else 0)))) ||| 16 else (if x.longDsn then (if x.hasMap then (if x.longAck then (if x.hasAck then 0 ||| 1 else 0) ||| 2 else (if x.hasAck then 0 ||| 1 else 0)) ||| 4 else (if x.longAck then (if x.hasAck then 0 ||| 1 else 0) ||| 2 else (if x.hasAck then 0 ||| 1 else 0))) ||| 8 else (if x.hasMap then (if x.longAck then (if x.hasAck then 0 ||| 1 else 0) ||| 2 else (if x.hasAck then 0 ||| 1 else 0)) ||| 4 else (if x.longAck then (if x.hasAck then 0 ||| 1 else 0) ||| 2 else (if x.hasAck then 0 ||| 1 else 0)))) : Nat) = x.bits := by
  unfold Ds.bits
  cases x.fin <;> cases x.longDsn <;> cases x.hasMap <;> cases x.longAck <;> cases x.hasAck <;> rfl
theorem or_lt {b bit : Nat} {is : Bool} (hb : b < 256) (hbit : bit < 256) : (if is then b ||| bit else b) < 256 := by
  cases is
  · exact hb
  · exact Nat.or_lt_two_pow (n := 8) hb hbit
theorem denc_ok (A : AHeap) (x : Ds) (hw : x.W) (Q : Value → AHeap → Prop) (hq : ∀ A', Ext NoB A A' → Q (resE x.enc) A') : wF T (.func (.func 41) #[] #[]) [.agg ⟨x.cells⟩] A Q := by
  refine wF_func (first := []) (captured := []) t41 ⟨rfl, by decide⟩ ?_
  dsimp only [c41]
  have hc := Ds.cells_eq x
  simp [hc]
  generalize hA1 : A.alloc _ = A1
  obtain ⟨g1, e1, z1⟩ := alloc_facts hA1
  refine dmay_ok A1 x _ fun A2 e2 => ?_
  have g2 := e2.get g1 id
  have l2 := AHeap.get_lt g2
  have z2 := e2.size
  cases hm : x.may
  · have := hq A2 (e1.trans e2)
    rw [Ds.enc, hm] at this
    simp
    exact this
  · have ne : ¬ A.size = A2.size := by omega
    simp [g2, ne]
    generalize hA3 : AHeap.set (AHeap.alloc A2 _) _ _ = A3
    have g3 : A3.get A2.size = some (.cells [.int .i64 ((0 : Nat) : Int)] false 0) := by rw [← hA3]; simp
    have e3 : Ext NoB A2 A3 := by rw [← hA3]; exact ⟨by simp, fun b hb _ => by simp [show ¬ b = A2.size by omega]⟩
    have gx3 := e3.get g2 id
    refine dset_ok A3 A2.size 0 1 x.hasAck (by decide) (by decide) g3 _ fun A4 v g4 e4 => ?_
    have gx4 := e4.get gx3 ne
    have h4 : (if x.hasAck then 0 ||| 1 else 0) < 256 := or_lt (by decide) (by decide)
    simp [gx4]
    refine dset_ok A4 A2.size _ 2 x.longAck h4 (by decide) g4 _ fun A5 v g5 e5 => ?_
    have gx5 := e5.get gx4 ne
    have h5 := or_lt (is := x.longAck) (bit := 2) h4 (by decide)
    simp [gx5]
    refine dset_ok A5 A2.size _ 4 x.hasMap h5 (by decide) g5 _ fun A6 v g6 e6 => ?_
    have gx6 := e6.get gx5 ne
    have h6 := or_lt (is := x.hasMap) (bit := 4) h5 (by decide)
    simp [gx6]
    refine dset_ok A6 A2.size _ 8 x.longDsn h6 (by decide) g6 _ fun A7 v g7 e7 => ?_
    have gx7 := e7.get gx6 ne
    have h7 := or_lt (is := x.longDsn) (bit := 8) h6 (by decide)
    simp [gx7]
    refine dset_ok A7 A2.size _ 16 x.fin h7 (by decide) g7 _ fun A8 v g8 e8 => ?_
    have gx8 := e8.get gx7 ne
    have gxc : A8.get A.size = some (.cells x.cells false 0) := by rw [gx8, ← hc]
    have h8 := or_lt (is := x.fin) (bit := 16) h7 (by decide)
    rw [ors] at g8 h8
    have e38 : Ext (fun j => j = A2.size) A3 A8 := (((e4.trans e5).trans e6).trans e7).trans e8
    have e08 : Ext NoB A A8 := ((e1.trans e2).trans e3).trans2 e38 fun b hb q => by omega
    have hbw : IntKind.u8.wrap ((x.bits : Nat) : Int) = x.bits := IntWalk.u8_in _ (by omega)
    simp
    dsimp only [c41t]
    simp
    refine wC_opsD_chk ?_
    simp
    refine Put8_ok A8 [] 32 (by decide) _ (by decide) fun A9 e9 => ?_
    have g9 := e9.get g8 id
    have gx9 := e9.get gx8 id
    simp [g9, hbw]
    refine Put8_ok A9 _ x.bits (by omega) _ (by simp [be_len]) fun A10 e10 => ?_
    have gx10 := e10.get gx9 id
    have gxc10 : A10.get A.size = some (.cells x.cells false 0) := by rw [gx10, ← hc]
    have e010 := (e08.trans e9).trans e10
    simp
    refine wE_intro ?_ ?_
    · simp only [List.all_cons, List.all_nil, chkOk, List.nil_append, List.cons_append, List.getElem?_cons_succ, List.getElem?_cons_zero]
      simp [Bx, g8, g9, vbeq]
    have hb : x.b1 = false ∧ x.b2 = false ∧ x.b3 = false := by
      simp only [Ds.may, Bool.and_eq_true, decide_eq_true_eq, Bool.not_eq_true'] at hm
      exact ⟨hm.1.1.1, hm.1.1.2, hm.1.2⟩
    have ha4 : x.longAck = false → x.ack < 256 ^ 4 := fun h => by
      have hb3 := hb.2.2
      simp only [Ds.b3, h, Bool.not_false, Bool.true_and, Bool.or_eq_false_iff, decide_eq_false_iff_not] at hb3
      omega
    have hq' : ∀ A', Ext NoB A A' → Q (.tuple ⟨[.string ⟨⟨x.body⟩⟩, .int .i64 0]⟩) A' := fun A' e => by
      have := hq A' e
      rwa [Ds.enc, hm] at this
    have hwa := wide_le x.longAck
    cases hak : x.hasAck
    · have hbd : x.body = dfin x (dmap x (be 32 1 ++ be x.bits 1)) := by simp [Ds.body, dfin, dmap, hak]; rfl
      rw [hbd] at hq'
      simp [gx10, hak]
      exact deu_ok A A10 x hw hm _ (by simp [be_len]) A.size _ Q gxc10 (by simp) (by simp) e010 hq'
    · simp [gx10, hak]
      refine dnum_ok A10 _ x.ack x.longAck (by simp [be_len]) hw.ack ha4 _ fun A11 e11 => ?_
      have hbd : x.body = dfin x (dmap x (be 32 1 ++ be x.bits 1 ++ be x.ack (wide x.longAck))) := by simp [Ds.body, dfin, dmap, hak]; rfl
      rw [hbd] at hq'
      simp
      exact deu_ok A A11 x hw hm _ (by simp [be_len]; omega) A.size _ Q (e11.get gxc10 id) (by simp) (by simp) (e010.trans e11) hq'
end Go.Proofs.YtigknpfjhegkgaaGreat
