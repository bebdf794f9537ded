/- The option by which a path joins, laid. -/
import Derived.Test.YtigknpfjhegkgaaGreatPc
import Derived.KernelRfl
namespace Go.Proofs.YtigknpfjhegkgaaGreat
open Go Go.AS
set_option maxRecDepth 100000
set_option linter.unusedSimpArgs false
set_option linter.unusedVariables false
attribute [local irreducible] Trie.set Trie.get Env.rd
attribute [local simp ↓] wV_b2s
attribute [local simp] Nat.add_assoc wD_cons'' wD_nil' wC_seq wC_ops wC_opsD_nil wC_cond wC_skip wC_ret wC_exit wC_block wO_cons' wO_nil wantedA wV_eq lop qop ev wL_some wL_none wPut envOf rd_set rd_leaf eqA thenC blockC wB_true wB_false endF unwindA resultsA resA tupleA rdCell rdCells wrCells cl fillP lay rep binA unA get_set' AHeap.get_alloc oneCell beqd bned idxA

structure Jn where
  form : Int
  backup : Bool
  id : Int
  token : Nat
  nonce : Nat
  mac : List UInt8
  deriving DecidableEq
def Jn.cells (x : Jn) : List Value := [.int .i64 x.form, .bool x.backup, .int .i64 x.id, .int .u32 (x.token : Nat), .int .u32 (x.nonce : Nat), .string ⟨⟨x.mac⟩⟩]
structure Jn.W (x : Jn) : Prop where
  token : x.token < 256 ^ 4
  nonce : x.nonce < 256 ^ 4
  mac : x.mac.length < 200000000000000
def Jn.bytes (f : Int) : Int := if f = 0 then 10 else if f = 1 then 14 else if f = 2 then 22 else 0
def Jn.may (x : Jn) : Bool := decide (0 ≤ x.id ∧ x.id ≤ 255 ∧ ((x.form = 0 ∧ x.mac = []) ∨ (x.form = 1 ∧ x.mac.length = 8 ∧ x.token = 0) ∨ (x.form = 2 ∧ x.mac.length = 20 ∧ x.backup = false ∧ x.id = 0 ∧ x.token = 0 ∧ x.nonce = 0)))
def Jn.first (x : Jn) : Nat := if x.backup then 17 else 16
def Jn.head (x : Jn) : List UInt8 := be x.first 1 ++ be x.id.toNat 1
def Jn.body (x : Jn) : List UInt8 := if x.form = 0 then x.head ++ be x.token 4 ++ be x.nonce 4 else if x.form = 1 then x.head ++ x.mac ++ be x.nonce 4 else x.head ++ x.mac
def Jn.enc (x : Jn) : Option (List UInt8) := if x.may then some x.body else none
/-- What is left of it behind its form's body. -/
def Jn.rest (x : Jn) : Jn := if x.form = 0 then { x with backup := false, id := 0, token := 0, nonce := 0 } else if x.form = 1 then { x with backup := false, id := 0, mac := [], nonce := 0 } else { x with mac := [] }
theorem Jn.cells_eq (x : Jn) : x.cells = [.int .i64 x.form, .bool x.backup, .int .i64 x.id, .int .u32 (x.token : Nat), .int .u32 (x.nonce : Nat), .string ⟨⟨x.mac⟩⟩] := rfl

theorem ext_p {A : AHeap} {p : Nat} {x : ABlk} : Ext (fun j => j = p) A (A.set p x) := Ext.set rfl
theorem bytes_ok (A : AHeap) (f : Int) (Q : Value → AHeap → Prop) (hq : Q (.int .i64 (Jn.bytes f)) A) : wF T (.func (.func 89) #[] #[]) [.int .i64 f] A Q := by
  refine wF_func (first := []) (captured := []) t89 ⟨rfl, by decide⟩ ?_
  dsimp only [c89]
  by_cases f0 : f = 0
  · simp [f0]; simpa [Jn.bytes, f0] using hq
  · by_cases f1 : f = 1
    · simp [f1]; simpa [Jn.bytes, f1] using hq
    · by_cases f2 : f = 2
      · simp [f2]; simpa [Jn.bytes, f2] using hq
      · simp [f0, f1, f2]; simpa [Jn.bytes, f0, f1, f2] using hq

theorem jlay0_ok (A : AHeap) (x : Jn) (hw : x.W) (p q : Nat) (h : List UInt8) (hh : h.length = 2) (g : A.get p = some (.cells x.cells false 0)) (gq : A.get q = some (.cells [.string ⟨⟨h⟩⟩] false 0)) (hpq : p ≠ q) (Q : Value → AHeap → Prop)
    (hq : ∀ A', A'.get p = some (.cells ({ x with backup := false, id := 0, token := 0, nonce := 0 } : Jn).cells false 0) → Ext (fun j => j = p) A A' → Q (.string ⟨⟨h ++ be x.token 4 ++ be x.nonce 4⟩⟩) A') :
    wF T (.func (.func 90) ⟨[]⟩ ⟨[.pointer (some ⟨q, 0, none⟩)]⟩) [.pointer (some ⟨p, 0, none⟩)] A Q := by
  refine wF_func (first := []) (captured := [.pointer (some ⟨q, 0, none⟩)]) t90 ⟨rfl, by decide⟩ ?_
  dsimp only [c90]
  rw [Jn.cells_eq] at g
  simp
  refine wC_opsD_chk ?_
  simp [g, gq]
  refine Put32_ok A h x.token hw.token _ (by omega) fun A1 e1 => ?_
  have g1 := e1.get g id
  simp [g1]
  refine Put32_ok A1 _ x.nonce hw.nonce _ (by simp [be_len]; omega) fun A2 e2 => ?_
  have g2 := e2.get g1 id
  have l2 := AHeap.get_lt g2
  simp
  refine wE_intro ?_ ?_
  · simp only [List.all_cons, List.all_nil, chkOk, List.nil_append, List.cons_append, List.getElem?_cons_succ, List.getElem?_cons_zero]
    simp [Bx, g, g1, vbeq]
  · simp [g2, l2]
    generalize hA3 : AHeap.set (AHeap.set (AHeap.set (AHeap.set A2 _ _) _ _) _ _) _ _ = A3
    have e3 : Ext (fun j => j = p) A2 A3 := by rw [← hA3]; exact ((((ext_p).trans (ext_p)).trans (ext_p)).trans (ext_p))
    have g3 : A3.get p = some (.cells ({ x with backup := false, id := 0, token := 0, nonce := 0 } : Jn).cells false 0) := by rw [← hA3]; simp [l2, Jn.cells]
    have := hq A3 g3 (((e1.trans e2).mono fun _ _ z => z.elim).trans e3)
    simpa using this
theorem jlay1_ok (A : AHeap) (x : Jn) (hw : x.W) (p q : Nat) (h : List UInt8) (hh : h.length = 2) (g : A.get p = some (.cells x.cells false 0)) (gq : A.get q = some (.cells [.string ⟨⟨h⟩⟩] false 0)) (hpq : p ≠ q) (Q : Value → AHeap → Prop)
    (hq : ∀ A', A'.get p = some (.cells ({ x with backup := false, id := 0, mac := [], nonce := 0 } : Jn).cells false 0) → Ext (fun j => j = p) A A' → Q (.string ⟨⟨h ++ x.mac ++ be x.nonce 4⟩⟩) A') :
    wF T (.func (.func 92) ⟨[]⟩ ⟨[.pointer (some ⟨q, 0, none⟩)]⟩) [.pointer (some ⟨p, 0, none⟩)] A Q := by
  refine wF_func (first := []) (captured := [.pointer (some ⟨q, 0, none⟩)]) t92 ⟨rfl, by decide⟩ ?_
  dsimp only [c92]
  rw [Jn.cells_eq] at g
  have hm := hw.mac
  simp [g, gq, show ¬ (9223372036854775807 : Int) < (h.length : Int) + (x.mac.length : Int) by omega]
  refine Put32_ok A _ x.nonce hw.nonce _ (by simp; omega) fun A2 e2 => ?_
  have g2 := e2.get g id
  have l2 := AHeap.get_lt g2
  simp [g2, l2]
  generalize hA3 : AHeap.set (AHeap.set (AHeap.set (AHeap.set A2 _ _) _ _) _ _) _ _ = A3
  have e3 : Ext (fun j => j = p) A2 A3 := by rw [← hA3]; exact ((((ext_p).trans (ext_p)).trans (ext_p)).trans (ext_p))
  have g3 : A3.get p = some (.cells ({ x with backup := false, id := 0, mac := [], nonce := 0 } : Jn).cells false 0) := by rw [← hA3]; simp [l2, Jn.cells]
  have := hq A3 g3 ((e2.mono fun _ _ z => z.elim).trans e3)
  simpa using this
theorem jlay2_ok (A : AHeap) (x : Jn) (hw : x.W) (p q : Nat) (h : List UInt8) (hh : h.length = 2) (g : A.get p = some (.cells x.cells false 0)) (gq : A.get q = some (.cells [.string ⟨⟨h⟩⟩] false 0)) (hpq : p ≠ q) (Q : Value → AHeap → Prop)
    (hq : ∀ A', A'.get p = some (.cells ({ x with mac := [] } : Jn).cells false 0) → Ext (fun j => j = p) A A' → Q (.string ⟨⟨h ++ x.mac⟩⟩) A') :
    wF T (.func (.func 93) ⟨[]⟩ ⟨[.pointer (some ⟨q, 0, none⟩)]⟩) [.pointer (some ⟨p, 0, none⟩)] A Q := by
  refine wF_func (first := []) (captured := [.pointer (some ⟨q, 0, none⟩)]) t93 ⟨rfl, by decide⟩ ?_
  dsimp only [c93]
  rw [Jn.cells_eq] at g
  have hm := hw.mac
  have l2 := AHeap.get_lt g
  simp [g, gq, l2, show ¬ (9223372036854775807 : Int) < (h.length : Int) + (x.mac.length : Int) by omega]
  generalize hA3 : AHeap.set A _ _ = A3
  obtain ⟨g3, e3, z3⟩ := set_facts l2 hA3
  exact hq A3 g3 e3

theorem eqJ (a b : Jn) : eqL [(0, .i), (1, .b), (2, .i), (3, .i), (4, .i), (5, .s)] a.cells b.cells = some (decide (a = b)) := by
  simp only [eqL, Jn.cells, leafEq, List.getElem?_cons_zero, List.getElem?_cons_succ, if_true]
  congr 1
  rw [Bool.eq_iff_iff]
  obtain ⟨a1, a2, a3, a4, a5, a6⟩ := a
  obtain ⟨b1, b2, b3, b4, b5, b6⟩ := b
  simp [and_assoc, Int.natCast_inj]
theorem jtail_ok (A0 A : AHeap) (x r : Jn) (s : List UInt8) (q7 q1 : Nat) (env : Env) (Q : Value → AHeap → Prop) (g1 : A.get q1 = some (.cells x.cells false 0)) (g7 : A.get q7 = some (.cells r.cells false 0)) (r1 : env.rd 1 = .pointer (some ⟨q1, 0, none⟩)) (r7 : env.rd 7 = .pointer (some ⟨q7, 0, none⟩)) (r8 : env.rd 8 = .string ⟨⟨s⟩⟩) (ex : Ext NoB A0 A)
    (hq : ∀ A', Ext NoB A0 A' → Q (resE (if r = ⟨x.form, false, 0, 0, 0, []⟩ ∧ (s.length : Int) = Jn.bytes x.form then some s else none)) A') : wC T 37 none c37t { env := env, n := 57, dfs := [], A := A } (endF [.inl 2, .inl 3] Q) := by
  dsimp only [c37t]
  have hl : r.cells.length = 6 := rfl
  have hz : ([.int .i64 x.form, .bool false, .int .i64 0, .int .u32 0, .int .u32 0, .string ⟨⟨[]⟩⟩] : List Value) = (⟨x.form, false, 0, 0, 0, []⟩ : Jn).cells := rfl
  have he := eqJ r ⟨x.form, false, 0, 0, 0, []⟩
  rw [Jn.cells_eq x] at g1
  rw [← hz] at he
  have ht : r.cells.take 6 = r.cells := rfl
  by_cases h1 : r = ⟨x.form, false, 0, 0, 0, []⟩
  · rw [decide_eq_true h1] at he
    simp [r1, r7, r8, g1, g7, hl, ht, he]
    refine bytes_ok A x.form _ ?_
    by_cases h2 : (s.length : Int) = Jn.bytes x.form
    · simp [r8, h2]
      rw [if_pos ⟨h1, h2⟩] at hq
      exact hq A ex
    · simp [r8, h2]
      rw [if_neg (fun q => h2 q.2)] at hq
      exact hq A ex
  · rw [decide_eq_false h1] at he
    simp [r1, r7, r8, g1, g7, hl, ht, he, undef]
    rw [if_neg (fun q => h1 q.1)] at hq
    exact hq A ex

theorem head_len (x : Jn) : x.head.length = 2 := by simp [Jn.head, be_len]
theorem jn0 (x : Jn) (f : x.form = 0) (h0 : 0 ≤ x.id) (h1 : x.id ≤ 255) : x.enc = (if (⟨x.form, false, 0, 0, 0, x.mac⟩ : Jn) = ⟨x.form, false, 0, 0, 0, []⟩ ∧ ((x.head ++ (be x.token 4 ++ be x.nonce 4)).length : Int) = Jn.bytes x.form then some (x.head ++ (be x.token 4 ++ be x.nonce 4)) else none) := by
  unfold Jn.enc Jn.may Jn.body Jn.bytes
  by_cases hm : x.mac = [] <;> simp [f, h0, h1, hm, be_len, head_len]
theorem jn1 (x : Jn) (f : x.form = 1) (h0 : 0 ≤ x.id) (h1 : x.id ≤ 255) : x.enc = (if (⟨x.form, false, 0, x.token, 0, []⟩ : Jn) = ⟨x.form, false, 0, 0, 0, []⟩ ∧ ((x.head ++ (x.mac ++ be x.nonce 4)).length : Int) = Jn.bytes x.form then some (x.head ++ (x.mac ++ be x.nonce 4)) else none) := by
  unfold Jn.enc Jn.may Jn.body Jn.bytes
  have : (2 + ((x.mac.length : Int) + 4) = 14) ↔ x.mac.length = 8 := by omega
  by_cases hm : x.mac.length = 8 <;> by_cases ht : x.token = 0 <;> simp [f, h0, h1, hm, ht, be_len, head_len] <;> omega
theorem jn2 (x : Jn) (f : x.form = 2) (h0 : 0 ≤ x.id) (h1 : x.id ≤ 255) : x.enc = (if (⟨x.form, x.backup, x.id, x.token, x.nonce, []⟩ : Jn) = ⟨x.form, false, 0, 0, 0, []⟩ ∧ ((x.head ++ x.mac).length : Int) = Jn.bytes x.form then some (x.head ++ x.mac) else none) := by
  unfold Jn.enc Jn.may Jn.body Jn.bytes
  by_cases hm : x.mac.length = 20 <;> by_cases ht : x.token = 0 <;> by_cases hn : x.nonce = 0 <;> by_cases hi : x.id = 0 <;> cases hb : x.backup <;> simp [f, h0, h1, hm, ht, hn, hi, hb, be_len, head_len] <;> omega
theorem jenc_ok (A : AHeap) (x : Jn) (hw : x.W) (Q : Value → AHeap → Prop) (hq : ∀ A', Ext NoB A A' → Q (resE x.enc) A') : wF T (.func (.func 37) #[] #[]) [.agg ⟨x.cells⟩] A Q := by
  refine wF_func (first := []) (captured := []) t37 ⟨rfl, by decide⟩ ?_
  dsimp only [c37]
  have hc := Jn.cells_eq x
  simp [hc]
  generalize hA1 : A.alloc _ = A1
  obtain ⟨g1, e1, z1⟩ := alloc_facts hA1
  refine bytes_ok A1 x.form _ ?_
  have hmay : x.may = false → ∀ A', Ext NoB A A' → Q (.tuple ⟨[.string ⟨⟨[]⟩⟩, .int .i64 2]⟩) A' := fun hm A' e => by
    have := hq A' e
    rwa [Jn.enc, hm] at this
  by_cases f3 : ¬ (x.form = 0 ∨ x.form = 1 ∨ x.form = 2)
  · have hb : Jn.bytes x.form = 0 := by unfold Jn.bytes; rw [if_neg (by omega), if_neg (by omega), if_neg (by omega)]
    have hm : x.may = false := by
      unfold Jn.may
      exact decide_eq_false fun q => by omega
    simp [hb, undef]
    exact hmay hm A1 e1
  have f3 := Classical.not_not.1 f3
  have hb : ¬ Jn.bytes x.form = 0 := by
    unfold Jn.bytes
    rcases f3 with f | f | f <;> simp [f]
  by_cases i0 : x.id < 0
  · simp [hb, g1, i0, undef]
    exact hmay (decide_eq_false fun q => by omega) A1 e1
  by_cases i1 : 255 < x.id
  · simp [hb, g1, i0, i1, undef]
    exact hmay (decide_eq_false fun q => by omega) A1 e1
  obtain ⟨n, hn, hn2⟩ : ∃ n : Nat, x.id = n ∧ n < 256 := ⟨x.id.toNat, by omega, by omega⟩
  have hnw : IntKind.u8.wrap (n : Int) = n := IntWalk.u8_in _ (by omega)
  have main : ∀ (env : Env), env.rd 1 = .pointer (some ⟨A.size, 0, none⟩) → env.rd 4 = .int .u8 (x.first : Nat) → wC T 37 none c37s { env := env, n := 57, dfs := [], A := A1 } (endF [.inl 2, .inl 3] Q) := by
    intro env r1 r4
    dsimp only [c37s]
    have hf : x.first < 256 := by unfold Jn.first; split <;> omega
    simp
    refine wC_opsD_chk ?_
    simp [r1, r4, g1, hn, hnw]
    refine Put8_ok A1 [] x.first (by omega) _ (by decide) fun A2 e2 => ?_
    have g2 := e2.get g1 id
    simp [r1, g2, hn, hnw]
    refine Put8_ok A2 _ n (by omega) _ (by simp [be_len]) fun A3 e3 => ?_
    have g3 := e3.get g2 id
    have g3' : A3.get A.size = some (.cells x.cells false 0) := by rw [g3, ← Jn.cells_eq]
    have e13 := (e1.trans e2).trans e3
    have z3 := e13.size
    have zq := AHeap.get_lt g3
    have hhead : be x.first 1 ++ be n 1 = x.head := by unfold Jn.head; rw [hn, Int.toNat_natCast]
    simp [hhead]
    generalize hA4 : AHeap.alloc A3 _ = A4
    obtain ⟨g4, e4, z4⟩ := alloc_facts hA4
    have l4 := AHeap.get_lt g4
    simp [g4, l4]
    generalize hA5 : AHeap.set A4 _ _ = A5
    obtain ⟨g5, e5, z5⟩ := set_facts l4 hA5
    refine wE_intro ?_ ?_
    · simp only [List.all_cons, List.all_nil, chkOk, List.nil_append, List.cons_append, List.getElem?_cons_succ, List.getElem?_cons_zero]
      simp [Bx, r1, r4, g1, g2, hn, vbeq]
    have e15 : Ext NoB A A5 := (e13.trans e4).trans2 e5 fun b hb q => by omega
    have gx5 : A5.get A.size = some (.cells x.cells false 0) := e5.get (e4.get g3' id) (by omega)
    rcases f3 with f | f | f
    · have gx5' := gx5
      rw [Jn.cells_eq] at gx5'
      simp [r1, gx5', f, show ¬ A.size = A5.size by omega, show ¬ A.size = A5.size + 1 by omega]
      generalize hA9 : AHeap.set (AHeap.alloc (AHeap.set (AHeap.alloc A5 _) _ _) _) _ _ = A9
      have g9 : A9.get (A5.size + 1) = some (.cells x.cells false 0) := by rw [← hA9]; simp [Jn.cells_eq, f]
      have e59 : Ext NoB A5 A9 := by rw [← hA9]; exact ⟨by simp, fun b hb _ => by simp [show ¬ b = A5.size by omega, show ¬ b = A5.size + 1 by omega]⟩
      have gx9 := e59.get gx5 id
      have gh9 := e59.get g5 id
      have e19 := e15.trans e59
      have z9 := e59.size
      have z8 := AHeap.get_lt g9
      have hh : x.head.length = 2 := by simp [Jn.head, be_len]
      refine jlay0_ok A9 x hw (A5.size + 1) A3.size x.head hh g9 gh9 (by omega) _ fun A10 g10 e10 => ?_
      have e110 : Ext NoB A A10 := e19.trans2 e10 fun b hb q => by omega
      simp
      refine jtail_ok A A10 x _ _ (A5.size + 1) A.size _ Q (e10.get gx9 (by omega)) g10 (by simp [r1]) (by simp) (by simp; rfl) e110 fun A11 e11 => ?_
      have := hq A11 e11
      rw [jn0 x f (by omega) (by omega)] at this
      simpa using this
    · have gx5' := gx5
      rw [Jn.cells_eq] at gx5'
      simp [r1, gx5', f, show ¬ A.size = A5.size by omega, show ¬ A.size = A5.size + 1 by omega]
      generalize hA9 : AHeap.set (AHeap.alloc (AHeap.set (AHeap.alloc A5 _) _ _) _) _ _ = A9
      have g9 : A9.get (A5.size + 1) = some (.cells x.cells false 0) := by rw [← hA9]; simp [Jn.cells_eq, f]
      have e59 : Ext NoB A5 A9 := by rw [← hA9]; exact ⟨by simp, fun b hb _ => by simp [show ¬ b = A5.size by omega, show ¬ b = A5.size + 1 by omega]⟩
      have gx9 := e59.get gx5 id
      have gh9 := e59.get g5 id
      have e19 := e15.trans e59
      have z9 := e59.size
      have z8 := AHeap.get_lt g9
      have hh : x.head.length = 2 := by simp [Jn.head, be_len]
      refine jlay1_ok A9 x hw (A5.size + 1) A3.size x.head hh g9 gh9 (by omega) _ fun A10 g10 e10 => ?_
      have e110 : Ext NoB A A10 := e19.trans2 e10 fun b hb q => by omega
      simp
      refine jtail_ok A A10 x _ _ (A5.size + 1) A.size _ Q (e10.get gx9 (by omega)) g10 (by simp [r1]) (by simp) (by simp; rfl) e110 fun A11 e11 => ?_
      have := hq A11 e11
      rw [jn1 x f (by omega) (by omega)] at this
      simpa using this
    · have gx5' := gx5
      rw [Jn.cells_eq] at gx5'
      simp [r1, gx5', f, show ¬ A.size = A5.size by omega, show ¬ A.size = A5.size + 1 by omega]
      generalize hA9 : AHeap.set (AHeap.alloc (AHeap.set (AHeap.alloc A5 _) _ _) _) _ _ = A9
      have g9 : A9.get (A5.size + 1) = some (.cells x.cells false 0) := by rw [← hA9]; simp [Jn.cells_eq, f]
      have e59 : Ext NoB A5 A9 := by rw [← hA9]; exact ⟨by simp, fun b hb _ => by simp [show ¬ b = A5.size by omega, show ¬ b = A5.size + 1 by omega]⟩
      have gx9 := e59.get gx5 id
      have gh9 := e59.get g5 id
      have e19 := e15.trans e59
      have z9 := e59.size
      have z8 := AHeap.get_lt g9
      have hh : x.head.length = 2 := by simp [Jn.head, be_len]
      refine jlay2_ok A9 x hw (A5.size + 1) A3.size x.head hh g9 gh9 (by omega) _ fun A10 g10 e10 => ?_
      have e110 : Ext NoB A A10 := e19.trans2 e10 fun b hb q => by omega
      simp
      refine jtail_ok A A10 x _ _ (A5.size + 1) A.size _ Q (e10.get gx9 (by omega)) g10 (by simp [r1]) (by simp) (by simp; rfl) e110 fun A11 e11 => ?_
      have := hq A11 e11
      rw [jn2 x f (by omega) (by omega)] at this
      simpa using this
  cases hbk : x.backup with
  | true =>
    simp [hb, g1, i0, i1, hbk, IntKind.bits, show IntKind.u8.wrap 17 = 17 by decide]
    exact main _ (by simp) (by simp [Jn.first, hbk])
  | false =>
    simp [hb, g1, i0, i1, hbk]
    exact main _ (by simp) (by simp [Jn.first, hbk])
end Go.Proofs.YtigknpfjhegkgaaGreat
