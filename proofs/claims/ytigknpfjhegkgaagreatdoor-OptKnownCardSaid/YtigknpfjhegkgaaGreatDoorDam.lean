/- Drafts: options that may be, by numbers. -/
import Derived.Test.YtigknpfjhegkgaaGreatDoorPim
import Derived.Test.YtigknpfjhegkgaaGreatDoorNk
import Derived.Test.YtigknpfjhegkgaaGreatDoorKd
import Derived.KernelRfl
namespace Go.Proofs.YtigknpfjhegkgaaGreatDoor
open Go Go.AS
set_option maxRecDepth 100000
set_option linter.unusedSimpArgs false
set_option linter.unusedVariables false
attribute [local irreducible] Trie.set Trie.get Env.rd
attribute [local simp ↓] wV_b2s
attribute [local simp] Nat.add_assoc wD_cons'' wD_nil' wC_seq wC_ops wC_opsD_nil wC_cond wC_skip wC_ret wC_exit wC_block wO_cons' wO_nil wantedA wV_eq lop qop ev wL_some wL_none wPut envOf rd_set rd_leaf eqA thenC blockC wB_true wB_false endF unwindA resultsA resA tupleA rdCell rdCells wrCells cl fillP lay rep binA unA get_set' AHeap.get_alloc oneCell beqd bned idxA

structure Dr where
  sub : Nat
  what : Nat
  id : Nat
  f0 : Bool
  f1 : Bool
  f2 : Bool
  a : Nat
  b : Nat
  n : Nat
  m : Nat
  bytes : List UInt8
def Dr.cells (d : Dr) : List Value := .int .u8 (d.sub : Nat) :: .int .u8 (d.what : Nat) :: .int .u8 (d.id : Nat) :: .bool d.f0 :: .bool d.f1 :: .bool d.f2 :: .int .u64 (d.a : Nat) :: .int .u64 (d.b : Nat) :: .int .u16 (d.n : Nat) :: .int .u16 (d.m : Nat) :: bcells d.bytes
structure Dr.W (d : Dr) : Prop where
  sub : d.sub < 256
  what : d.what < 256
  id : d.id < 256
  a : d.a < 256 ^ 8
  b : d.b < 256 ^ 8
  n : d.n < 65536
  m : d.m < 65536
  bytes : d.bytes.length = 24
def Dr.cap (d : Dr) : Cap := ⟨(d.what % 5 : Nat), (d.id % 16 : Nat), d.f0, d.f1, if 1 ≤ d.what % 5 then d.a else 0, if 2 ≤ d.what % 5 then d.b else 0, if 3 ≤ d.what % 5 then (d.n : Nat) else 0, if d.what % 5 = 4 then d.m else 0⟩
def Dr.jn (d : Dr) : Jn := if d.what % 3 = 0 then ⟨0, d.f0, (d.id : Nat), d.a % 4294967296, d.b % 4294967296, []⟩ else if d.what % 3 = 1 then ⟨1, d.f0, (d.id : Nat), 0, d.b % 4294967296, d.bytes.take 8⟩ else ⟨2, false, 0, 0, 0, d.bytes.take 20⟩
def Dr.ds (d : Dr) : Ds := ⟨decide (d.what % 3 ≠ 0) && d.f1, decide (d.what % 3 ≠ 1), decide (d.what % 3 ≠ 1) && d.f0, if d.what % 3 ≠ 1 then (if d.f0 then d.a else d.a % 4294967296) else 0, decide (d.what % 3 ≠ 0), decide (d.what % 3 ≠ 0) && d.f2,
  if d.what % 3 ≠ 0 then (if d.f2 then d.b else d.b % 4294967296) else 0, if d.what % 3 ≠ 0 then d.a / 4294967296 else 0, if d.what % 3 ≠ 0 then (d.n : Nat) else 0, decide (d.what % 3 ≠ 0) && decide (d.id % 2 = 1), if d.what % 3 ≠ 0 ∧ d.id % 2 = 1 then d.m else 0⟩
def Dr.ad (d : Dr) : Ad := ⟨d.f0, (d.id : Nat), if d.f1 then d.bytes.take 16 else d.bytes.take 4, d.f2, if d.f2 then (d.n : Nat) else 0, if d.f0 then [] else d.bytes.drop 16⟩
def Dr.opt (d : Dr) : Op :=
  if d.sub % 9 = 0 then { Op.only 0 with cap := d.cap } else if d.sub % 9 = 1 then { Op.only 1 with jn := d.jn } else if d.sub % 9 = 2 then { Op.only 2 with ds := d.ds } else if d.sub % 9 = 3 then { Op.only 3 with ad := d.ad }
  else if d.sub % 9 = 4 then { Op.only 4 with ids := d.bytes.take (1 + d.what % 24) } else if d.sub % 9 = 5 then { Op.only 5 with prio := d.f0 } else if d.sub % 9 = 6 then { Op.only 6 with fail := d.a } else if d.sub % 9 = 7 then { Op.only 7 with fast := d.a }
  else { Op.only 8 with rf := (d.id % 16 : Nat), rr := (d.what : Nat) }
theorem Dr.len (d : Dr) (h : d.bytes.length = 24) : d.cells.length = 34 := by simp [Dr.cells, bcells, h]
theorem Dr.take (d : Dr) (h : d.bytes.length = 24) : d.cells.take 34 = d.cells := List.take_of_length_le (by rw [d.len h]; exact Nat.le_refl _)
theorem Dr.g0 (d : Dr) : d.cells[0]? = some (.int .u8 (d.sub : Nat)) := rfl
theorem Dr.hd (d : Dr) : d.cells.head? = some (.int .u8 (d.sub : Nat)) := rfl
theorem Dr.g1 (d : Dr) : d.cells[1]? = some (.int .u8 (d.what : Nat)) := rfl
theorem Dr.g2 (d : Dr) : d.cells[2]? = some (.int .u8 (d.id : Nat)) := rfl
theorem Dr.g3 (d : Dr) : d.cells[3]? = some (.bool d.f0) := rfl
theorem Dr.g4 (d : Dr) : d.cells[4]? = some (.bool d.f1) := rfl
theorem Dr.g5 (d : Dr) : d.cells[5]? = some (.bool d.f2) := rfl
theorem Dr.g6 (d : Dr) : d.cells[6]? = some (.int .u64 (d.a : Nat)) := rfl
theorem Dr.g7 (d : Dr) : d.cells[7]? = some (.int .u64 (d.b : Nat)) := rfl
theorem Dr.g8 (d : Dr) : d.cells[8]? = some (.int .u16 (d.n : Nat)) := rfl
theorem Dr.g9 (d : Dr) : d.cells[9]? = some (.int .u16 (d.m : Nat)) := rfl
theorem Dr.e0 (d : Dr) (h : 0 < d.cells.length) : d.cells[0]'h = .int .u8 (d.sub : Nat) := rfl
theorem Dr.e1 (d : Dr) (h : 1 < d.cells.length) : d.cells[1]'h = .int .u8 (d.what : Nat) := rfl
theorem Dr.e2 (d : Dr) (h : 2 < d.cells.length) : d.cells[2]'h = .int .u8 (d.id : Nat) := rfl
theorem Dr.e3 (d : Dr) (h : 3 < d.cells.length) : d.cells[3]'h = .bool d.f0 := rfl
theorem Dr.e4 (d : Dr) (h : 4 < d.cells.length) : d.cells[4]'h = .bool d.f1 := rfl
theorem Dr.e5 (d : Dr) (h : 5 < d.cells.length) : d.cells[5]'h = .bool d.f2 := rfl
theorem Dr.e6 (d : Dr) (h : 6 < d.cells.length) : d.cells[6]'h = .int .u64 (d.a : Nat) := rfl
theorem Dr.e7 (d : Dr) (h : 7 < d.cells.length) : d.cells[7]'h = .int .u64 (d.b : Nat) := rfl
theorem Dr.e8 (d : Dr) (h : 8 < d.cells.length) : d.cells[8]'h = .int .u16 (d.n : Nat) := rfl
theorem Dr.e9 (d : Dr) (h : 9 < d.cells.length) : d.cells[9]'h = .int .u16 (d.m : Nat) := rfl
theorem Dr.b2s (d : Dr) (hd : d.bytes.length = 24) {A : AHeap} {p : Nat} (g : A.get p = some (.cells d.cells false 0)) (i j c : Nat) (hij : i + j ≤ 24) (hc : c ≤ 24) : Go.AS.b2s A (.slice (some ⟨p, 10 + i, none⟩) j c) = some (.string ⟨⟨(d.bytes.drop i).take j⟩⟩) := by
  have hl : ((d.bytes.drop i).take j).length = j := by simp [hd]; omega
  have he : bcells ((d.bytes.drop i).take j) = (d.cells.drop (10 + i)).take j := by
    have : d.cells.drop (10 + i) = (bcells d.bytes).drop i := by rw [Nat.add_comm]; rfl
    rw [this, bcells, bcells, List.map_take, List.map_drop]
  have := b2s_ok (A := A) (v := .slice (some ⟨p, 10 + i, none⟩) ((d.bytes.drop i).take j).length c) (l := (d.bytes.drop i).take j) (.inr (.inl ⟨p, 10 + i, c, _, false, 0, rfl, g, by rw [hl, d.len hd]; omega, by rw [hl, he, Nat.mul_one], fun z => absurd z (by unfold ENDCAP; omega)⟩))
  rwa [hl] at this
theorem wr0 : IntKind.i64.wrap 0 = 0 := by decide
theorem wr1 : IntKind.i64.wrap 1 = 1 := by decide
theorem wr2 : IntKind.i64.wrap 2 = 2 := by decide
theorem wr3 : IntKind.i64.wrap 3 = 3 := by decide
theorem wr4 : IntKind.i64.wrap 4 = 4 := by decide
theorem wr5 : IntKind.i64.wrap 5 = 5 := by decide
theorem wr6 : IntKind.i64.wrap 6 = 6 := by decide
theorem wr7 : IntKind.i64.wrap 7 = 7 := by decide
theorem wr8 : IntKind.i64.wrap 8 = 8 := by decide
theorem wr9 : IntKind.i64.wrap 9 = 9 := by decide
theorem wr10 : IntKind.i64.wrap 10 = 10 := by decide
theorem wr11 : IntKind.i64.wrap 11 = 11 := by decide
theorem wr12 : IntKind.i64.wrap 12 = 12 := by decide
theorem wr13 : IntKind.i64.wrap 13 = 13 := by decide
theorem wr14 : IntKind.i64.wrap 14 = 14 := by decide
theorem wr15 : IntKind.i64.wrap 15 = 15 := by decide
theorem wr16 : IntKind.i64.wrap 16 = 16 := by decide
theorem wr17 : IntKind.i64.wrap 17 = 17 := by decide
theorem wr18 : IntKind.i64.wrap 18 = 18 := by decide
theorem wr19 : IntKind.i64.wrap 19 = 19 := by decide
theorem wr20 : IntKind.i64.wrap 20 = 20 := by decide
theorem wr21 : IntKind.i64.wrap 21 = 21 := by decide
theorem wr22 : IntKind.i64.wrap 22 = 22 := by decide
theorem wr23 : IntKind.i64.wrap 23 = 23 := by decide
theorem wr24 : IntKind.i64.wrap 24 = 24 := by decide
attribute [local simp] wr0 wr1 wr2 wr3 wr4 wr5 wr6 wr7 wr8 wr9 wr10 wr11 wr12 wr13 wr14 wr15 wr16 wr17 wr18 wr19 wr20 wr21 wr22 wr23 wr24
attribute [local simp] Dr.e0 Dr.e1 Dr.e2 Dr.e3 Dr.e4 Dr.e5 Dr.e6 Dr.e7 Dr.e8 Dr.e9 Dr.g0 Dr.hd Dr.g1 Dr.g2 Dr.g3 Dr.g4 Dr.g5 Dr.g6 Dr.g7 Dr.g8 Dr.g9
theorem tmodN (a k : Nat) : (a : Int).tmod (k : Int) = ((a % k : Nat) : Int) := by rw [Int.tmod_eq_emod_of_nonneg (by omega)]; omega
theorem dcap_ok (A : AHeap) (d : Dr) (hw : d.W) (Q : Value → AHeap → Prop) (hq : ∀ A', Ext NoB A A' → Q (.agg ⟨d.cap.cells⟩) A') : wF T (.func (.func 30) #[] #[]) [.agg ⟨d.cells⟩] A Q := by
  refine wF_func (first := []) (captured := []) t30 ⟨rfl, by decide⟩ ?_
  dsimp only [c30]
  have hl := d.len hw.bytes
  have y1 : (d.what : Int).tmod 5 = ((d.what % 5 : Nat) : Int) := tmodN _ 5
  have y2 : (d.id : Int).tmod 16 = ((d.id % 16 : Nat) : Int) := tmodN _ 16
  obtain ⟨v, hv⟩ : ∃ v, v = d.id % 16 := ⟨_, rfl⟩
  rw [← hv] at y2
  have y3 : IntKind.i64.wrap (v : Int) = v := IntWalk.i64_in _ (by omega)
  have y4 : IntKind.i64.wrap (d.n : Int) = d.n := IntWalk.i64_in _ (by have := hw.n; omega)
  have hf : d.what % 5 = 0 ∨ d.what % 5 = 1 ∨ d.what % 5 = 2 ∨ d.what % 5 = 3 ∨ d.what % 5 = 4 := by omega
  rcases hf with f | f | f | f | f
  · have hc : d.cap = ⟨0, (v : Nat), d.f0, d.f1, 0, 0, 0, 0⟩ := by simp [Dr.cap, f, ← hv]
    rw [hc] at hq
    rw [f] at y1
    simp [hl, y1, y2, y3, y4]
    exact hq _ (by (repeat first | exact Ext.refl | assumption | refine Ext.allocN ?_ | refine Ext.setN ?_ (by first | omega | (simp; done) | (simp; omega))))
  · have hc : d.cap = ⟨1, (v : Nat), d.f0, d.f1, d.a, 0, 0, 0⟩ := by simp [Dr.cap, f, ← hv]
    rw [hc] at hq
    rw [f] at y1
    simp [hl, y1, y2, y3, y4]
    exact hq _ (by (repeat first | exact Ext.refl | assumption | refine Ext.allocN ?_ | refine Ext.setN ?_ (by first | omega | (simp; done) | (simp; omega))))
  · have hc : d.cap = ⟨2, (v : Nat), d.f0, d.f1, d.a, d.b, 0, 0⟩ := by simp [Dr.cap, f, ← hv]
    rw [hc] at hq
    rw [f] at y1
    simp [hl, y1, y2, y3, y4]
    exact hq _ (by (repeat first | exact Ext.refl | assumption | refine Ext.allocN ?_ | refine Ext.setN ?_ (by first | omega | (simp; done) | (simp; omega))))
  · have hc : d.cap = ⟨3, (v : Nat), d.f0, d.f1, d.a, d.b, (d.n : Nat), 0⟩ := by simp [Dr.cap, f, ← hv]
    rw [hc] at hq
    rw [f] at y1
    simp [hl, y1, y2, y3, y4]
    exact hq _ (by (repeat first | exact Ext.refl | assumption | refine Ext.allocN ?_ | refine Ext.setN ?_ (by first | omega | (simp; done) | (simp; omega))))
  · have hc : d.cap = ⟨4, (v : Nat), d.f0, d.f1, d.a, d.b, (d.n : Nat), d.m⟩ := by simp [Dr.cap, f, ← hv]
    rw [hc] at hq
    rw [f] at y1
    simp [hl, y1, y2, y3, y4]
    exact hq _ (by (repeat first | exact Ext.refl | assumption | refine Ext.allocN ?_ | refine Ext.setN ?_ (by first | omega | (simp; done) | (simp; omega))))
theorem slA (p i j : Nat) (k : IntKind) (hj : j ≤ 24) : sliceAA 24 1 (.pointer (some ⟨p, i, none⟩)) none (some (.int k (j : Int))) none = some (.slice (some ⟨p, i, none⟩) j 24) := by
  have hb : bnd (.int k (j : Int)) 24 = some j := bnd_nat k j _ hj
  unfold sliceAA; delta bndsA; simp [hb, OPEN]
theorem slB (p i j : Nat) (k : IntKind) (hj : j < 24) : sliceAA 24 1 (.pointer (some ⟨p, i, none⟩)) (some (.int k (j : Int))) none none = some (.slice (some ⟨p, i + j, none⟩) (24 - j) (24 - j)) := by
  have hb : bnd (.int k (j : Int)) 24 = some j := bnd_nat k j _ (by omega)
  unfold sliceAA; delta bndsA; simp [hb, OPEN]
  omega
theorem djn_ok (A : AHeap) (d : Dr) (hw : d.W) (Q : Value → AHeap → Prop) (hq : ∀ A', Ext NoB A A' → Q (.agg ⟨d.jn.cells⟩) A') : wF T (.func (.func 31) #[] #[]) [.agg ⟨d.cells⟩] A Q := by
  refine wF_func (first := []) (captured := []) t31 ⟨rfl, by decide⟩ ?_
  dsimp only [c31]
  have hl := d.len hw.bytes
  have y1 : (d.what : Int).tmod 3 = ((d.what % 3 : Nat) : Int) := tmodN _ 3
  have y3 : IntKind.i64.wrap (d.id : Int) = d.id := IntWalk.i64_in _ (by have := hw.id; omega)
  obtain ⟨a, ha⟩ : ∃ a, a = d.a % 4294967296 := ⟨_, rfl⟩
  obtain ⟨b, hb⟩ : ∃ b, b = d.b % 4294967296 := ⟨_, rfl⟩
  have y4 : IntKind.u32.wrap (d.a : Int) = (a : Nat) := by rw [IntKind.wrap_u32]; omega
  have y5 : IntKind.u32.wrap (d.b : Int) = (b : Nat) := by rw [IntKind.wrap_u32]; omega
  have bs : ∀ (B : AHeap) (j : Nat), B.get A.size = some (.cells d.cells false 0) → j ≤ 24 → b2s B (.slice (some ⟨A.size, 10, none⟩) j 24) = some (.string ⟨⟨d.bytes.take j⟩⟩) := fun B j g hj => d.b2s hw.bytes g 0 j 24 (by omega) (by omega)
  generalize hA2 : (A.alloc (ABlk.cells d.cells false 0)).alloc (ABlk.cells [.int .i64 0, .bool false, .int .i64 0, .int .u32 0, .int .u32 0, .string ⟨⟨[]⟩⟩] false 0) = A2
  have g1 : A2.get A.size = some (.cells d.cells false 0) := by subst hA2; simp
  have g2 : A2.get (A.size + 1) = some (.cells [.int .i64 0, .bool false, .int .i64 0, .int .u32 0, .int .u32 0, .string ⟨⟨[]⟩⟩] false 0) := by subst hA2; simp
  have l2 := AHeap.get_lt g2
  have e2 : Ext NoB A A2 := by subst hA2; (repeat first | exact Ext.refl | assumption | refine Ext.allocN ?_ | refine Ext.setN ?_ (by first | omega | (simp; done) | (simp; omega)))
  have hf : d.what % 3 = 0 ∨ d.what % 3 = 1 ∨ d.what % 3 = 2 := by omega
  rcases hf with f | f | f
  · have hc : d.jn = ⟨0, d.f0, (d.id : Nat), a, b, []⟩ := by simp [Dr.jn, f, ← ha, ← hb]
    rw [hc] at hq
    rw [f] at y1
    simp [hl, y1]
    rw [hA2]
    simp [hl, y1, y3, y4, y5, g1, g2, l2]
    exact hq _ (by (repeat first | exact Ext.refl | assumption | refine Ext.allocN ?_ | refine Ext.setN ?_ (by first | omega | (simp; done) | (simp; omega))))
  · have hc : d.jn = ⟨1, d.f0, (d.id : Nat), 0, b, d.bytes.take 8⟩ := by simp [Dr.jn, f, ← hb]
    rw [hc] at hq
    rw [f] at y1
    have s8 : sliceAA 24 1 (.pointer (some ⟨A.size, 10, none⟩)) none (some (.int .i64 8)) none = some (.slice (some ⟨A.size, 10, none⟩) 8 24) := slA A.size 10 8 .i64 (by decide)
    have b8 := bs A2 8 g1 (by decide)
    simp [hl, y1]
    rw [hA2]
    simp [hl, y1, y3, y4, y5, g1, g2, l2, s8, b8]
    exact hq _ (by (repeat first | exact Ext.refl | assumption | refine Ext.allocN ?_ | refine Ext.setN ?_ (by first | omega | (simp; done) | (simp; omega))))
  · have hc : d.jn = ⟨2, false, 0, 0, 0, d.bytes.take 20⟩ := by simp [Dr.jn, f]
    rw [hc] at hq
    rw [f] at y1
    have s8 : sliceAA 24 1 (.pointer (some ⟨A.size, 10, none⟩)) none (some (.int .i64 20)) none = some (.slice (some ⟨A.size, 10, none⟩) 20 24) := slA A.size 10 20 .i64 (by decide)
    have b8 := bs A2 20 g1 (by decide)
    simp [hl, y1]
    rw [hA2]
    simp [hl, y1, g1, g2, l2, s8, b8]
    exact hq _ (by (repeat first | exact Ext.refl | assumption | refine Ext.allocN ?_ | refine Ext.setN ?_ (by first | omega | (simp; done) | (simp; omega))))
theorem dsmap_ok (A0 A : AHeap) (d : Dr) (hw : d.W) (ha la hm : Bool) (ak : Nat) (env : Env) (Q : Value → AHeap → Prop) (g1 : A.get A0.size = some (.cells d.cells false 0)) (g2 : A.get (A0.size + 1) = some (.cells [.bool false, .bool false, .bool false, .int .u64 0, .bool false, .bool false, .int .u64 0, .int .u32 0, .int .i64 0, .bool false, .int .u16 0] false 0))
    (g3 : A.get (A0.size + 2) = some (.cells [.bool false, .bool ha, .bool la, .int .u64 (ak : Nat), .bool hm, .bool false, .int .u64 0, .int .u32 0, .int .i64 0, .bool false, .int .u16 0] false 0)) (ex : Ext NoB A0 A)
    (r1 : env.rd 1 = .pointer (some ⟨A0.size, 0, none⟩)) (r2 : env.rd 2 = .pointer (some ⟨A0.size + 1, 0, none⟩)) (r3 : env.rd 3 = .pointer (some ⟨A0.size + 2, 0, none⟩))
    (hq : ∀ A', Ext NoB A0 A' → Q (.agg ⟨(⟨hm && d.f1, ha, la, ak, hm, hm && d.f2, if hm then (if d.f2 then d.b else d.b % 4294967296) else 0, if hm then d.a / 4294967296 else 0, if hm then (d.n : Nat) else 0, hm && decide (d.id % 2 = 1), if hm = true ∧ d.id % 2 = 1 then d.m else 0⟩ : Ds).cells⟩) A') :
    wC T 32 none c32t { env := env, n := 69, dfs := [], A := A } (endF [.inr (2, 11, true)] Q) := by
  have hl := d.len hw.bytes
  have l2 := AHeap.get_lt g2
  have l3 := AHeap.get_lt g3
  dsimp only [c32t]
  cases hm
  · simp only [Bool.false_and, Bool.false_eq_true, if_false, false_and] at hq
    simp [r1, r2, r3, g1, g2, g3, l2, l3]
    exact hq _ (by (repeat first | exact Ext.refl | assumption | refine Ext.allocN ?_ | refine Ext.setN ?_ (by first | omega | (simp; done) | (simp; omega))))
  simp only [Bool.true_and, if_true, true_and] at hq
  have y1 : (d.id : Int).tmod 2 = ((d.id % 2 : Nat) : Int) := tmodN _ 2
  obtain ⟨a, ha'⟩ : ∃ a, a = d.a / 4294967296 := ⟨_, rfl⟩
  obtain ⟨b, hb⟩ : ∃ b, b = d.b % 4294967296 := ⟨_, rfl⟩
  have hal : a < 4294967296 := by have := hw.a; omega
  have y4 : (d.a : Int).fdiv 4294967296 = (a : Nat) := by rw [Int.fdiv_eq_ediv_of_nonneg _ (by omega)]; omega
  have y5 : IntKind.u32.wrap (a : Int) = (a : Nat) := IntWalk.u32_in _ (by omega)
  have y6 : IntKind.i64.wrap (d.n : Int) = d.n := IntWalk.i64_in _ (by have := hw.n; omega)
  have y7 : (d.b : Int).tmod 4294967296 = (b : Nat) := by rw [show (4294967296 : Int) = ((4294967296 : Nat) : Int) from rfl, tmodN, hb]
  rw [← ha', ← hb] at hq
  have he : d.id % 2 = 0 ∨ d.id % 2 = 1 := by omega
  cases h2 : d.f2 <;> rcases he with e | e <;> rw [e] at y1 <;> simp only [h2, e, Bool.false_eq_true, if_false, if_true] at hq
  · simp [r1, r2, r3, g3]
    refine wC_opsD_chk ?_
    simp [r1, r2, r3, g1, g3, hl, l3, y1, h2]
    refine wE_intro ?_ ?_
    · simp only [List.all_cons, List.all_nil, chkOk, List.nil_append, List.cons_append, List.getElem?_cons_succ, List.getElem?_cons_zero]
      simp [Bx, r1, r2, r3, g1, g3, hl, vbeq, l3, h2]
    · generalize hB : AHeap.set _ _ _ = B
      have b1 : B.get A0.size = some (.cells d.cells false 0) := by subst hB; simp [g1]
      have b2 : B.get (A0.size + 1) = some (.cells [.bool false, .bool false, .bool false, .int .u64 0, .bool false, .bool false, .int .u64 0, .int .u32 0, .int .i64 0, .bool false, .int .u16 0] false 0) := by subst hB; simp [g2]
      have b3 : B.get (A0.size + 2) = some (.cells [.bool d.f1, .bool ha, .bool la, .int .u64 (ak : Nat), .bool true, .bool false, .int .u64 0, .int .u32 0, .int .i64 0, .bool false, .int .u16 0] false 0) := by subst hB; simp [l3]
      have eb : Ext NoB A0 B := by subst hB; (repeat first | exact Ext.refl | assumption | refine Ext.allocN ?_ | refine Ext.setN ?_ (by first | omega | (simp; done) | (simp; omega)))
      have lb := AHeap.get_lt b3
      simp
      refine wC_opsD_chk ?_
      simp [r1, r2, r3, b1, b3, hl, lb, y4, y5, y6, IntKind.bits]
      refine wE_intro ?_ ?_
      · simp only [List.all_cons, List.all_nil, chkOk, List.nil_append, List.cons_append, List.getElem?_cons_succ, List.getElem?_cons_zero]
        simp [Bx, r1, r2, r3, b1, b3, hl, vbeq, lb]
      · generalize hC : AHeap.set _ _ _ = C
        have c1 : C.get A0.size = some (.cells d.cells false 0) := by subst hC; simp [b1]
        have c2 : C.get (A0.size + 1) = some (.cells [.bool false, .bool false, .bool false, .int .u64 0, .bool false, .bool false, .int .u64 0, .int .u32 0, .int .i64 0, .bool false, .int .u16 0] false 0) := by subst hC; simp [b2]
        have c3 : C.get (A0.size + 2) = some (.cells [.bool d.f1, .bool ha, .bool la, .int .u64 (ak : Nat), .bool true, .bool false, .int .u64 (d.b : Nat), .int .u32 (a : Nat), .int .i64 (d.n : Nat), .bool false, .int .u16 0] false 0) := by subst hC; simp [lb]
        have ec : Ext NoB A0 C := by subst hC; (repeat first | exact Ext.refl | assumption | refine Ext.allocN ?_ | refine Ext.setN ?_ (by first | omega | (simp; done) | (simp; omega)))
        have lc := AHeap.get_lt c3
        have lc2 := AHeap.get_lt c2
        simp [r1, r2, r3, c1, c2, c3, hl, lc, lc2, y7]
        exact hq _ (by (repeat first | exact Ext.refl | assumption | refine Ext.allocN ?_ | refine Ext.setN ?_ (by first | omega | (simp; done) | (simp; omega))))
  · simp [r1, r2, r3, g3]
    refine wC_opsD_chk ?_
    simp [r1, r2, r3, g1, g3, hl, l3, y1, h2]
    refine wE_intro ?_ ?_
    · simp only [List.all_cons, List.all_nil, chkOk, List.nil_append, List.cons_append, List.getElem?_cons_succ, List.getElem?_cons_zero]
      simp [Bx, r1, r2, r3, g1, g3, hl, vbeq, l3, h2]
    · generalize hB : AHeap.set _ _ _ = B
      have b1 : B.get A0.size = some (.cells d.cells false 0) := by subst hB; simp [g1]
      have b2 : B.get (A0.size + 1) = some (.cells [.bool false, .bool false, .bool false, .int .u64 0, .bool false, .bool false, .int .u64 0, .int .u32 0, .int .i64 0, .bool false, .int .u16 0] false 0) := by subst hB; simp [g2]
      have b3 : B.get (A0.size + 2) = some (.cells [.bool d.f1, .bool ha, .bool la, .int .u64 (ak : Nat), .bool true, .bool false, .int .u64 0, .int .u32 0, .int .i64 0, .bool true, .int .u16 0] false 0) := by subst hB; simp [l3]
      have eb : Ext NoB A0 B := by subst hB; (repeat first | exact Ext.refl | assumption | refine Ext.allocN ?_ | refine Ext.setN ?_ (by first | omega | (simp; done) | (simp; omega)))
      have lb := AHeap.get_lt b3
      simp
      refine wC_opsD_chk ?_
      simp [r1, r2, r3, b1, b3, hl, lb, y4, y5, y6, IntKind.bits]
      refine wE_intro ?_ ?_
      · simp only [List.all_cons, List.all_nil, chkOk, List.nil_append, List.cons_append, List.getElem?_cons_succ, List.getElem?_cons_zero]
        simp [Bx, r1, r2, r3, b1, b3, hl, vbeq, lb]
      · generalize hC : AHeap.set _ _ _ = C
        have c1 : C.get A0.size = some (.cells d.cells false 0) := by subst hC; simp [b1]
        have c2 : C.get (A0.size + 1) = some (.cells [.bool false, .bool false, .bool false, .int .u64 0, .bool false, .bool false, .int .u64 0, .int .u32 0, .int .i64 0, .bool false, .int .u16 0] false 0) := by subst hC; simp [b2]
        have c3 : C.get (A0.size + 2) = some (.cells [.bool d.f1, .bool ha, .bool la, .int .u64 (ak : Nat), .bool true, .bool false, .int .u64 (d.b : Nat), .int .u32 (a : Nat), .int .i64 (d.n : Nat), .bool true, .int .u16 0] false 0) := by subst hC; simp [lb]
        have ec : Ext NoB A0 C := by subst hC; (repeat first | exact Ext.refl | assumption | refine Ext.allocN ?_ | refine Ext.setN ?_ (by first | omega | (simp; done) | (simp; omega)))
        have lc := AHeap.get_lt c3
        have lc2 := AHeap.get_lt c2
        simp [r1, r2, r3, c1, c2, c3, hl, lc, lc2, y7]
        exact hq _ (by (repeat first | exact Ext.refl | assumption | refine Ext.allocN ?_ | refine Ext.setN ?_ (by first | omega | (simp; done) | (simp; omega))))
  · simp [r1, r2, r3, g3]
    refine wC_opsD_chk ?_
    simp [r1, r2, r3, g1, g3, hl, l3, y1, h2]
    refine wE_intro ?_ ?_
    · simp only [List.all_cons, List.all_nil, chkOk, List.nil_append, List.cons_append, List.getElem?_cons_succ, List.getElem?_cons_zero]
      simp [Bx, r1, r2, r3, g1, g3, hl, vbeq, l3, h2]
    · generalize hB : AHeap.set _ _ _ = B
      have b1 : B.get A0.size = some (.cells d.cells false 0) := by subst hB; simp [g1]
      have b2 : B.get (A0.size + 1) = some (.cells [.bool false, .bool false, .bool false, .int .u64 0, .bool false, .bool false, .int .u64 0, .int .u32 0, .int .i64 0, .bool false, .int .u16 0] false 0) := by subst hB; simp [g2]
      have b3 : B.get (A0.size + 2) = some (.cells [.bool d.f1, .bool ha, .bool la, .int .u64 (ak : Nat), .bool true, .bool true, .int .u64 0, .int .u32 0, .int .i64 0, .bool false, .int .u16 0] false 0) := by subst hB; simp [l3]
      have eb : Ext NoB A0 B := by subst hB; (repeat first | exact Ext.refl | assumption | refine Ext.allocN ?_ | refine Ext.setN ?_ (by first | omega | (simp; done) | (simp; omega)))
      have lb := AHeap.get_lt b3
      simp
      refine wC_opsD_chk ?_
      simp [r1, r2, r3, b1, b3, hl, lb, y4, y5, y6, IntKind.bits]
      refine wE_intro ?_ ?_
      · simp only [List.all_cons, List.all_nil, chkOk, List.nil_append, List.cons_append, List.getElem?_cons_succ, List.getElem?_cons_zero]
        simp [Bx, r1, r2, r3, b1, b3, hl, vbeq, lb]
      · generalize hC : AHeap.set _ _ _ = C
        have c1 : C.get A0.size = some (.cells d.cells false 0) := by subst hC; simp [b1]
        have c2 : C.get (A0.size + 1) = some (.cells [.bool false, .bool false, .bool false, .int .u64 0, .bool false, .bool false, .int .u64 0, .int .u32 0, .int .i64 0, .bool false, .int .u16 0] false 0) := by subst hC; simp [b2]
        have c3 : C.get (A0.size + 2) = some (.cells [.bool d.f1, .bool ha, .bool la, .int .u64 (ak : Nat), .bool true, .bool true, .int .u64 (d.b : Nat), .int .u32 (a : Nat), .int .i64 (d.n : Nat), .bool false, .int .u16 0] false 0) := by subst hC; simp [lb]
        have ec : Ext NoB A0 C := by subst hC; (repeat first | exact Ext.refl | assumption | refine Ext.allocN ?_ | refine Ext.setN ?_ (by first | omega | (simp; done) | (simp; omega)))
        have lc := AHeap.get_lt c3
        have lc2 := AHeap.get_lt c2
        simp [r1, r2, r3, c1, c2, c3, hl, lc, lc2, y7]
        exact hq _ (by (repeat first | exact Ext.refl | assumption | refine Ext.allocN ?_ | refine Ext.setN ?_ (by first | omega | (simp; done) | (simp; omega))))
  · simp [r1, r2, r3, g3]
    refine wC_opsD_chk ?_
    simp [r1, r2, r3, g1, g3, hl, l3, y1, h2]
    refine wE_intro ?_ ?_
    · simp only [List.all_cons, List.all_nil, chkOk, List.nil_append, List.cons_append, List.getElem?_cons_succ, List.getElem?_cons_zero]
      simp [Bx, r1, r2, r3, g1, g3, hl, vbeq, l3, h2]
    · generalize hB : AHeap.set _ _ _ = B
      have b1 : B.get A0.size = some (.cells d.cells false 0) := by subst hB; simp [g1]
      have b2 : B.get (A0.size + 1) = some (.cells [.bool false, .bool false, .bool false, .int .u64 0, .bool false, .bool false, .int .u64 0, .int .u32 0, .int .i64 0, .bool false, .int .u16 0] false 0) := by subst hB; simp [g2]
      have b3 : B.get (A0.size + 2) = some (.cells [.bool d.f1, .bool ha, .bool la, .int .u64 (ak : Nat), .bool true, .bool true, .int .u64 0, .int .u32 0, .int .i64 0, .bool true, .int .u16 0] false 0) := by subst hB; simp [l3]
      have eb : Ext NoB A0 B := by subst hB; (repeat first | exact Ext.refl | assumption | refine Ext.allocN ?_ | refine Ext.setN ?_ (by first | omega | (simp; done) | (simp; omega)))
      have lb := AHeap.get_lt b3
      simp
      refine wC_opsD_chk ?_
      simp [r1, r2, r3, b1, b3, hl, lb, y4, y5, y6, IntKind.bits]
      refine wE_intro ?_ ?_
      · simp only [List.all_cons, List.all_nil, chkOk, List.nil_append, List.cons_append, List.getElem?_cons_succ, List.getElem?_cons_zero]
        simp [Bx, r1, r2, r3, b1, b3, hl, vbeq, lb]
      · generalize hC : AHeap.set _ _ _ = C
        have c1 : C.get A0.size = some (.cells d.cells false 0) := by subst hC; simp [b1]
        have c2 : C.get (A0.size + 1) = some (.cells [.bool false, .bool false, .bool false, .int .u64 0, .bool false, .bool false, .int .u64 0, .int .u32 0, .int .i64 0, .bool false, .int .u16 0] false 0) := by subst hC; simp [b2]
        have c3 : C.get (A0.size + 2) = some (.cells [.bool d.f1, .bool ha, .bool la, .int .u64 (ak : Nat), .bool true, .bool true, .int .u64 (d.b : Nat), .int .u32 (a : Nat), .int .i64 (d.n : Nat), .bool true, .int .u16 0] false 0) := by subst hC; simp [lb]
        have ec : Ext NoB A0 C := by subst hC; (repeat first | exact Ext.refl | assumption | refine Ext.allocN ?_ | refine Ext.setN ?_ (by first | omega | (simp; done) | (simp; omega)))
        have lc := AHeap.get_lt c3
        have lc2 := AHeap.get_lt c2
        simp [r1, r2, r3, c1, c2, c3, hl, lc, lc2, y7]
        exact hq _ (by (repeat first | exact Ext.refl | assumption | refine Ext.allocN ?_ | refine Ext.setN ?_ (by first | omega | (simp; done) | (simp; omega))))
theorem dds_ok (A : AHeap) (d : Dr) (hw : d.W) (Q : Value → AHeap → Prop) (hq : ∀ A', Ext NoB A A' → Q (.agg ⟨d.ds.cells⟩) A') : wF T (.func (.func 32) #[] #[]) [.agg ⟨d.cells⟩] A Q := by
  refine wF_func (first := []) (captured := []) t32 ⟨rfl, by decide⟩ ?_
  dsimp only [c32]
  have hl := d.len hw.bytes
  have y1 : (d.what : Int).tmod 3 = ((d.what % 3 : Nat) : Int) := tmodN _ 3
  obtain ⟨a, ha⟩ : ∃ a, a = d.a % 4294967296 := ⟨_, rfl⟩
  have y4 : (d.a : Int).tmod 4294967296 = (a : Nat) := by rw [show (4294967296 : Int) = ((4294967296 : Nat) : Int) from rfl, tmodN, ha]
  have hf : d.what % 3 = 0 ∨ d.what % 3 = 1 ∨ d.what % 3 = 2 := by omega
  have go : ∀ (B : AHeap) (env : Env) (x y z : Bool) (n : Nat), (x = decide (d.what % 3 ≠ 1)) → (y = (decide (d.what % 3 ≠ 1) && d.f0)) → (z = decide (d.what % 3 ≠ 0)) → (n = if d.what % 3 ≠ 1 then (if d.f0 then d.a else d.a % 4294967296) else 0) →
      B.get A.size = some (.cells d.cells false 0) → B.get (A.size + 1) = some (.cells [.bool false, .bool false, .bool false, .int .u64 0, .bool false, .bool false, .int .u64 0, .int .u32 0, .int .i64 0, .bool false, .int .u16 0] false 0) → B.get (A.size + 2) = some (.cells [.bool false, .bool x, .bool y, .int .u64 (n : Nat), .bool z, .bool false, .int .u64 0, .int .u32 0, .int .i64 0, .bool false, .int .u16 0] false 0) → Ext NoB A B →
      env.rd 1 = .pointer (some ⟨A.size, 0, none⟩) → env.rd 2 = .pointer (some ⟨A.size + 1, 0, none⟩) → env.rd 3 = .pointer (some ⟨A.size + 2, 0, none⟩) →
      wC T 32 none c32t { env := env, n := 69, dfs := [], A := B } (endF [.inr (2, 11, true)] Q) := by
    intro B env x y z n hx hy hz hn b1 b2 b3 eb r1 r2 r3
    refine dsmap_ok A B d hw x y z n env Q b1 b2 b3 eb r1 r2 r3 fun A' e => ?_
    subst hx; subst hy; subst hn
    by_cases h0 : d.what % 3 = 0
    · have : z = false := by rw [hz]; simp [h0]
      subst this
      simpa [Dr.ds, h0] using hq A' e
    · have : z = true := by rw [hz]; simp [h0]
      subst this
      simpa [Dr.ds, h0] using hq A' e
  rcases hf with f | f | f
  · rw [f] at y1
    simp [hl, y1]
    generalize hB : AHeap.set _ _ _ = B
    have b1 : B.get A.size = some (.cells d.cells false 0) := by subst hB; simp
    have b2 : B.get (A.size + 1) = some (.cells [.bool false, .bool false, .bool false, .int .u64 0, .bool false, .bool false, .int .u64 0, .int .u32 0, .int .i64 0, .bool false, .int .u16 0] false 0) := by subst hB; simp
    have b3 : B.get (A.size + 2) = some (.cells [.bool false, .bool true, .bool d.f0, .int .u64 (d.a : Nat), .bool false, .bool false, .int .u64 0, .int .u32 0, .int .i64 0, .bool false, .int .u16 0] false 0) := by subst hB; simp
    have eb : Ext NoB A B := by subst hB; (repeat first | exact Ext.refl | assumption | refine Ext.allocN ?_ | refine Ext.setN ?_ (by first | omega | (simp; done) | (simp; omega)))
    have lb := AHeap.get_lt b3
    cases h0 : d.f0
    · rw [h0] at b3
      simp [b1, b3, hl, lb, h0, y4]
      generalize hC : AHeap.set _ _ _ = C
      refine go C _ true false false a (by simp [f]) (by simp [f, h0]) (by simp [f]) (by simp [f, h0, ha]) (by subst hC; simp [b1]) (by subst hC; simp [b2]) (by subst hC; simp [lb]) (by subst hC; (repeat first | exact Ext.refl | assumption | refine Ext.allocN ?_ | refine Ext.setN ?_ (by first | omega | (simp; done) | (simp; omega)))) (by simp) (by simp) (by simp)
    · rw [h0] at b3
      simp [b3, h0]
      exact go B _ true true false d.a (by simp [f]) (by simp [f, h0]) (by simp [f]) (by simp [f, h0]) b1 b2 b3 eb (by simp) (by simp) (by simp)
  · rw [f] at y1
    simp [hl, y1]
    generalize hB : AHeap.set _ _ _ = B
    have b1 : B.get A.size = some (.cells d.cells false 0) := by subst hB; simp
    have b2 : B.get (A.size + 1) = some (.cells [.bool false, .bool false, .bool false, .int .u64 0, .bool false, .bool false, .int .u64 0, .int .u32 0, .int .i64 0, .bool false, .int .u16 0] false 0) := by subst hB; simp
    have b3 : B.get (A.size + 2) = some (.cells [.bool false, .bool false, .bool false, .int .u64 0, .bool true, .bool false, .int .u64 0, .int .u32 0, .int .i64 0, .bool false, .int .u16 0] false 0) := by subst hB; simp
    have eb : Ext NoB A B := by subst hB; (repeat first | exact Ext.refl | assumption | refine Ext.allocN ?_ | refine Ext.setN ?_ (by first | omega | (simp; done) | (simp; omega)))
    have lb := AHeap.get_lt b3
    simp [b3]
    exact go B _ false false true 0 (by simp [f]) (by simp [f]) (by simp [f]) (by simp [f]) b1 b2 b3 eb (by simp) (by simp) (by simp)
  · rw [f] at y1
    simp [hl, y1]
    generalize hB : AHeap.set _ _ _ = B
    have b1 : B.get A.size = some (.cells d.cells false 0) := by subst hB; simp
    have b2 : B.get (A.size + 1) = some (.cells [.bool false, .bool false, .bool false, .int .u64 0, .bool false, .bool false, .int .u64 0, .int .u32 0, .int .i64 0, .bool false, .int .u16 0] false 0) := by subst hB; simp
    have b3 : B.get (A.size + 2) = some (.cells [.bool false, .bool true, .bool d.f0, .int .u64 (d.a : Nat), .bool true, .bool false, .int .u64 0, .int .u32 0, .int .i64 0, .bool false, .int .u16 0] false 0) := by subst hB; simp
    have eb : Ext NoB A B := by subst hB; (repeat first | exact Ext.refl | assumption | refine Ext.allocN ?_ | refine Ext.setN ?_ (by first | omega | (simp; done) | (simp; omega)))
    have lb := AHeap.get_lt b3
    cases h0 : d.f0
    · rw [h0] at b3
      simp [b1, b3, hl, lb, h0, y4]
      generalize hC : AHeap.set _ _ _ = C
      refine go C _ true false true a (by simp [f]) (by simp [f, h0]) (by simp [f]) (by simp [f, h0, ha]) (by subst hC; simp [b1]) (by subst hC; simp [b2]) (by subst hC; simp [lb]) (by subst hC; (repeat first | exact Ext.refl | assumption | refine Ext.allocN ?_ | refine Ext.setN ?_ (by first | omega | (simp; done) | (simp; omega)))) (by simp) (by simp) (by simp)
    · rw [h0] at b3
      simp [b3, h0]
      exact go B _ true true true d.a (by simp [f]) (by simp [f, h0]) (by simp [f]) (by simp [f, h0]) b1 b2 b3 eb (by simp) (by simp) (by simp)
end Go.Proofs.YtigknpfjhegkgaaGreatDoor
