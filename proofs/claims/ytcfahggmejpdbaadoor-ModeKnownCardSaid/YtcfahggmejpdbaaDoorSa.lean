/- The states of an end, and what a turn does. -/
import Derived.Test.YtcfahggmejpdbaaDoorKa
import Derived.KernelRfl
namespace Go.Proofs.YtcfahggmejpdbaaDoor
open Go Go.AS
set_option maxRecDepth 100000
set_option linter.unusedSimpArgs false
set_option linter.unusedVariables false
theorem beqd (a b : Int) : (a == b) = decide (a = b) := by
  by_cases h : a = b <;> simp [h]
theorem bned (a b : Int) : (a != b) = !decide (a = b) := by
  rw [bne, beqd]
attribute [local irreducible] Trie.set Trie.get Env.rd
attribute [local simp] Nat.add_assoc wD_cons'' wD_nil' wC_seq wC_ops wC_opsD_nil wC_cond wC_skip wC_ret wC_exit wC_block wO_cons' wO_nil wantedA wV_eq lop qop ev wL_some wL_none wPut envOf rd_set rd_leaf eqA thenC blockC wB_true wB_false endF unwindA resultsA resA tupleA rdCell rdCells wrCells cl fillP lay rep binA unA get_set' AHeap.get_alloc oneCell beqd bned idxA

/-- A state. -/
structure MS where
  en : Int
  md : Int
  so : Bool
  p0 : Bool
  p1 : Bool
  p2 : Bool
  p3 : Bool
  u0 : Bool
  u1 : Bool
  u2 : Bool
  u3 : Bool
  g0 : Bool
  g1 : Bool
  g2 : Bool
  g3 : Bool
  deriving DecidableEq
def MS.cells (s : MS) : List Value := [.int .i64 s.en, .int .i64 s.md, .bool s.so, .bool s.p0, .bool s.p1, .bool s.p2, .bool s.p3, .bool s.u0, .bool s.u1, .bool s.u2, .bool s.u3, .bool s.g0, .bool s.g1, .bool s.g2, .bool s.g3]
def at4 (a b c d : Bool) (p : Int) : Bool := if p = 0 then a else if p = 1 then b else if p = 2 then c else d
def MS.pre (s : MS) (p : Int) : Bool := at4 s.p0 s.p1 s.p2 s.p3 p
def MS.up (s : MS) (p : Int) : Bool := at4 s.u0 s.u1 s.u2 s.u3 p
def MS.gone (s : MS) (p : Int) : Bool := at4 s.g0 s.g1 s.g2 s.g3 p
def MS.setPre (s : MS) (p : Int) (b : Bool) : MS := if p = 0 then { s with p0 := b } else if p = 1 then { s with p1 := b } else if p = 2 then { s with p2 := b } else { s with p3 := b }
def MS.setUp (s : MS) (p : Int) (b : Bool) : MS := if p = 0 then { s with u0 := b } else if p = 1 then { s with u1 := b } else if p = 2 then { s with u2 := b } else { s with u3 := b }
def MS.setGone (s : MS) (p : Int) (b : Bool) : MS := if p = 0 then { s with g0 := b } else if p = 1 then { s with g1 := b } else if p = 2 then { s with g2 := b } else { s with g3 := b }
def ms0 (e : Int) : MS := ⟨e, 0, true, false, false, false, false, false, false, false, false, false, false, false, false⟩
/-- A turn. -/
structure Tn where
  c : Int
  p : Int
  m : Int
  deriving DecidableEq
def Tn.cells (t : Tn) : List Value := [.int .i64 t.c, .int .i64 t.p, .int .i64 t.m]

theorem path4 {p : Int} (h0 : 0 ≤ p) (h4 : p < 4) : p = 0 ∨ p = 1 ∨ p = 2 ∨ p = 3 := by omega
theorem MS.len (s : MS) : s.cells.length = 15 := rfl
theorem MS.one (s : MS) : s.cells.all oneCell = true := rfl
theorem MS.take (s : MS) : s.cells.take 15 = s.cells := rfl
theorem MS.at0 (s : MS) : s.cells[0]? = some (.int .i64 s.en) := rfl
theorem MS.at1 (s : MS) : s.cells[1]? = some (.int .i64 s.md) := rfl
theorem MS.at2 (s : MS) : s.cells[2]? = some (.bool s.so) := rfl
theorem MS.at7 (s : MS) : s.cells[7]? = some (.bool s.u0) := rfl
theorem MS.atPre (s : MS) {p : Int} (h0 : 0 ≤ p) (h4 : p < 4) : s.cells[3 + p.toNat]? = some (.bool (s.pre p)) := by rcases path4 h0 h4 with rfl | rfl | rfl | rfl <;> rfl
theorem MS.atUp (s : MS) {p : Int} (h0 : 0 ≤ p) (h4 : p < 4) : s.cells[7 + p.toNat]? = some (.bool (s.up p)) := by rcases path4 h0 h4 with rfl | rfl | rfl | rfl <;> rfl
theorem MS.atGone (s : MS) {p : Int} (h0 : 0 ≤ p) (h4 : p < 4) : s.cells[11 + p.toNat]? = some (.bool (s.gone p)) := by rcases path4 h0 h4 with rfl | rfl | rfl | rfl <;> rfl
theorem MS.putEn (s : MS) (e : Int) : s.cells.set 0 (.int .i64 e) = ({ s with en := e } : MS).cells := rfl
theorem MS.putMd (s : MS) (e : Int) : s.cells.set 1 (.int .i64 e) = ({ s with md := e } : MS).cells := rfl
theorem MS.putSo (s : MS) (b : Bool) : s.cells.set 2 (.bool b) = ({ s with so := b } : MS).cells := rfl
theorem MS.putU0 (s : MS) (b : Bool) : s.cells.set 7 (.bool b) = ({ s with u0 := b } : MS).cells := rfl
theorem MS.putPre (s : MS) {p : Int} (b : Bool) (h0 : 0 ≤ p) (h4 : p < 4) : s.cells.set (3 + p.toNat) (.bool b) = (s.setPre p b).cells := by rcases path4 h0 h4 with rfl | rfl | rfl | rfl <;> rfl
theorem MS.putUp (s : MS) {p : Int} (b : Bool) (h0 : 0 ≤ p) (h4 : p < 4) : s.cells.set (7 + p.toNat) (.bool b) = (s.setUp p b).cells := by rcases path4 h0 h4 with rfl | rfl | rfl | rfl <;> rfl
theorem MS.putGone (s : MS) {p : Int} (b : Bool) (h0 : 0 ≤ p) (h4 : p < 4) : s.cells.set (11 + p.toNat) (.bool b) = (s.setGone p b).cells := by rcases path4 h0 h4 with rfl | rfl | rfl | rfl <;> rfl
theorem lay_len : ∀ (v : List Value) (cs : List Value) (o : Nat), (AS.lay cs o v).length = cs.length
  | [], _, _ => rfl
  | x :: v, cs, o => by rw [AS.lay, lay_len v]; simp
theorem lay_whole {cs : List Value} {s : MS} (h : cs.length = 15) : AS.lay cs 0 s.cells = s.cells := by
  match cs, h with
  | [_, _, _, _, _, _, _, _, _, _, _, _, _, _, _], _ => rfl
theorem lay_ms (s t : MS) : AS.lay s.cells 0 t.cells = t.cells := lay_whole rfl
theorem lay_tt (s t : Tn) : AS.lay s.cells 0 t.cells = t.cells := rfl
theorem lay_turn {cs : List Value} {t : Tn} (h : cs.length = 3) : AS.lay cs 0 t.cells = t.cells := by
  match cs, h with
  | [_, _, _], _ => rfl
theorem Tn.len (t : Tn) : t.cells.length = 3 := rfl
theorem Tn.one (t : Tn) : t.cells.all oneCell = true := rfl
theorem Tn.take (t : Tn) : t.cells.take 3 = t.cells := rfl
theorem Tn.at0 (t : Tn) : t.cells[0]? = some (.int .i64 t.c) := rfl
theorem Tn.at1 (t : Tn) : t.cells[1]? = some (.int .i64 t.p) := rfl
theorem Tn.at2 (t : Tn) : t.cells[2]? = some (.int .i64 t.m) := rfl

/-! ## What may come -/
def fresh (s : MS) (p : Int) : Bool := s.md == 3 && decide (0 < p) && !s.up p && !s.gone p
def solo (s : MS) (p : Int) : Bool := s.so && s.u0 && (s.md == 3 && p == 0)
def mayM (s : MS) (c p : Int) : Bool :=
  if c = 0 then s.en == 0 && (s.md == 0 && p == 0)
  else if c = 1 then s.en == 1 && (s.md == 0 && p == 0)
  else if c = 2 then s.en == 1 && (s.md == 0 && p == 0)
  else if c = 3 then s.md == 1 && p == 0
  else if c = 4 then s.md == 1 && p == 0
  else if c = 5 then s.md == 2 && p == 0
  else if c = 6 then s.md == 2 && p == 0
  else if c = 7 then s.en == 0 && fresh s p && !s.pre p
  else if c = 8 then fresh s p && (s.pre p || s.en != 0)
  else if c = 9 then s.md == 3 && s.up p
  else if c = 10 then solo s p
  else if c = 11 then solo s p
  else if c = 12 then solo s p
  else if c = 13 then solo s p
  else if c = 14 then (s.md == 3 || s.md == 4) && p == 0
  else if c = 15 then p == 0 && s.md != 0 && s.md != 5 && s.md != 6
  else if c = 16 then s.md == 3
  else if c = 17 then (s.md == 3 && (!s.u0 && !s.u1 && !s.u2 && !s.u3) && s.gone p) || (s.md == 1 || s.md == 2 || s.md == 4) && p == 0
  else false
def thenM (c : Int) : Int :=
  if c = 0 then 1 else if c = 1 then 2 else if c = 2 then 4 else if c = 3 then 2 else if c = 4 then 4 else if c = 5 then 3 else if c = 6 then 4
  else if c = 7 then 3 else if c = 8 then 3 else if c = 9 then 3 else if c = 10 then 4 else if c = 11 then 4 else if c = 12 then 4 else if c = 13 then 4
  else if c = 14 then 5 else if c = 15 then 6 else if c = 16 then 6 else 6
def effM (s : MS) (c p : Int) : MS :=
  if c = 5 then s.setUp p true
  else if c = 7 then { s.setPre p true with so := false }
  else if c = 8 then { s.setUp p true with so := false }
  else if c = 9 then (s.setUp p false).setGone p true
  else s
/-- May a turn come? -/
def okT (s : MS) (t : Tn) : Bool := decide (0 ≤ t.c) && decide (t.c < 18) && decide (0 ≤ t.p) && decide (t.p < 4) && t.m == thenM t.c && mayM s t.c t.p
/-- The state behind a turn. -/
def nx (s : MS) (t : Tn) : MS := if okT s t = true then effM { s with md := thenM t.c } t.c t.p else s

/-! ## The rows' functions -/
def IsFn (fv : Value) (A : AHeap) (g : MS → Int → Bool) : Prop := ∀ (A2 : AHeap) (s : MS) (p : Int) (Q : Value → AHeap → Prop), Ext NoB A A2 → 0 ≤ p → p < 4 → (∀ A3, Ext NoB A2 A3 → Q (.bool (g s p)) A3) → wF T fv [.agg ⟨s.cells⟩, .int .i64 p] A2 Q
theorem IsFn.ext {fv : Value} {A A' : AHeap} {g : MS → Int → Bool} (h : IsFn fv A g) (e : Ext NoB A A') : IsFn fv A' g := fun A2 s p Q e2 h0 h4 hq => h A2 s p Q (e.trans e2) h0 h4 hq
theorem IsFn.congr {fv : Value} {A : AHeap} {g g' : MS → Int → Bool} (h : IsFn fv A g) (e : ∀ s p, 0 ≤ p → p < 4 → g s p = g' s p) : IsFn fv A g' := fun A2 s p Q e2 h0 h4 hq => h A2 s p Q e2 h0 h4 (by rw [e s p h0 h4]; exact hq)
end Go.Proofs.YtcfahggmejpdbaaDoor
