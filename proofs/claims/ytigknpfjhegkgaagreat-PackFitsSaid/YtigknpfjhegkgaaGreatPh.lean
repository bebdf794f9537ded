/- Options of all subtypes, laid. -/
import Derived.Test.YtigknpfjhegkgaaGreatPg
import Derived.Test.YtigknpfjhegkgaaGreatKb
import Derived.KernelRfl
namespace Go.Proofs.YtigknpfjhegkgaaGreat
open Go Go.AS
set_option maxRecDepth 100000
set_option linter.unusedSimpArgs false
set_option linter.unusedVariables false
attribute [local irreducible] Trie.set Trie.get Env.rd
attribute [local simp ↓] wV_b2s
attribute [local simp] Nat.add_assoc wD_cons'' wD_nil' wC_seq wC_ops wC_opsD_nil wC_cond wC_skip wC_ret wC_exit wC_block wO_cons' wO_nil wantedA wV_eq lop qop ev wL_some wL_none wPut envOf rd_set rd_leaf eqA thenC blockC wB_true wB_false endF unwindA resultsA resA tupleA rdCell rdCells wrCells cl fillP lay rep binA unA get_set' AHeap.get_alloc oneCell beqd bned idxA

structure Op where
  sub : Int
  cap : Cap
  jn : Jn
  ds : Ds
  ad : Ad
  ids : List UInt8
  prio : Bool
  fail : Nat
  fast : Nat
  rf : Int
  rr : Int
  deriving DecidableEq
def Op.cells (x : Op) : List Value := .int .i64 x.sub :: (x.cap.cells ++ (x.jn.cells ++ (x.ds.cells ++ (x.ad.cells ++ [.string ⟨⟨x.ids⟩⟩, .bool x.prio, .int .u64 (x.fail : Nat), .int .u64 (x.fast : Nat), .int .i64 x.rf, .int .i64 x.rr]))))
structure Op.W (x : Op) : Prop where
  cap : x.cap.W
  jn : x.jn.W
  ds : x.ds.W
  ad : x.ad.W
  ids : x.ids.length < 200000000000000
  fail : x.fail < 256 ^ 8
  fast : x.fast < 256 ^ 8
def Op.zero : Op := ⟨0, ⟨0, 0, false, false, 0, 0, 0, 0⟩, ⟨0, false, 0, 0, 0, []⟩, ⟨false, false, false, 0, false, false, 0, 0, 0, false, 0⟩, ⟨false, 0, [], false, 0, []⟩, [], false, 0, 0, 0, 0⟩
def Op.only (s : Int) : Op := { Op.zero with sub := s }
def Op.has (x : Op) : Op :=
  if x.sub = 0 then { Op.only x.sub with cap := x.cap } else if x.sub = 1 then { Op.only x.sub with jn := x.jn } else if x.sub = 2 then { Op.only x.sub with ds := x.ds }
  else if x.sub = 3 then { Op.only x.sub with ad := x.ad } else if x.sub = 4 then { Op.only x.sub with ids := x.ids } else if x.sub = 5 then { Op.only x.sub with prio := x.prio }
  else if x.sub = 6 then { Op.only x.sub with fail := x.fail } else if x.sub = 7 then { Op.only x.sub with fast := x.fast } else if x.sub = 8 then { Op.only x.sub with rf := x.rf, rr := x.rr } else Op.only x.sub
def Op.lay (x : Op) : Option (List UInt8) :=
  if x.sub = 0 then x.cap.enc else if x.sub = 1 then x.jn.enc else if x.sub = 2 then x.ds.enc else if x.sub = 3 then x.ad.enc else if x.sub = 4 then remE x.ids else if x.sub = 5 then some (prioE x.prio)
  else if x.sub = 6 then some (bigE 6 x.fail) else if x.sub = 7 then some (bigE 7 x.fast) else if x.sub = 8 then rstE x.rf x.rr else none
def Op.enc (x : Op) : Option (List UInt8) := if x = x.has then x.lay else none
theorem Op.len (x : Op) : x.cells.length = 38 := rfl
theorem Op.one (x : Op) : x.cells.all oneCell = true := rfl
theorem Cap.ln (x : Cap) : x.cells.length = 8 := rfl
theorem Jn.len (x : Jn) : x.cells.length = 6 := rfl
theorem Ds.ln (x : Ds) : x.cells.length = 11 := rfl
theorem Ad.len (x : Ad) : x.cells.length = 6 := rfl
theorem Cap.one (x : Cap) : x.cells.all oneCell = true := rfl
theorem Jn.one (x : Jn) : x.cells.all oneCell = true := rfl
theorem Ds.one (x : Ds) : x.cells.all oneCell = true := rfl
theorem Ad.one (x : Ad) : x.cells.all oneCell = true := rfl
theorem Op.take (x : Op) : x.cells.take 38 = x.cells := rfl
theorem Op.at0 (x : Op) : x.cells[0]? = some (.int .i64 x.sub) := rfl
theorem Op.head? (x : Op) : x.cells.head? = some (.int .i64 x.sub) := rfl
theorem Op.getCap (x : Op) : (x.cells.drop 1).take 8 = x.cap.cells := rfl
theorem Op.getJn (x : Op) : (x.cells.drop 9).take 6 = x.jn.cells := rfl
theorem Op.getDs (x : Op) : (x.cells.drop 15).take 11 = x.ds.cells := rfl
theorem Op.getAd (x : Op) : (x.cells.drop 26).take 6 = x.ad.cells := rfl
theorem Op.getIds (x : Op) : (x.cells.drop 32).take 1 = [.string ⟨⟨x.ids⟩⟩] := rfl
theorem Op.getPrio (x : Op) : (x.cells.drop 33).take 1 = [.bool x.prio] := rfl
theorem Op.getFail (x : Op) : (x.cells.drop 34).take 1 = [.int .u64 (x.fail : Nat)] := rfl
theorem Op.getFast (x : Op) : (x.cells.drop 35).take 1 = [.int .u64 (x.fast : Nat)] := rfl
theorem Op.getRst (x : Op) : (x.cells.drop 36).take 2 = [.int .i64 x.rf, .int .i64 x.rr] := rfl
theorem Op.putCap (x : Op) (c : Cap) : AS.lay x.cells 1 c.cells = ({ x with cap := c } : Op).cells := rfl
theorem Op.putJn (x : Op) (c : Jn) : AS.lay x.cells 9 c.cells = ({ x with jn := c } : Op).cells := rfl
theorem Op.putDs (x : Op) (c : Ds) : AS.lay x.cells 15 c.cells = ({ x with ds := c } : Op).cells := rfl
theorem Op.putAd (x : Op) (c : Ad) : AS.lay x.cells 26 c.cells = ({ x with ad := c } : Op).cells := rfl
theorem Op.putSub (x : Op) (c : Int) : x.cells.set 0 (.int .i64 c) = ({ x with sub := c } : Op).cells := rfl
theorem Op.putIds (x : Op) (c : List UInt8) : x.cells.set 32 (.string ⟨⟨c⟩⟩) = ({ x with ids := c } : Op).cells := rfl
theorem Op.putPrio (x : Op) (c : Bool) : x.cells.set 33 (.bool c) = ({ x with prio := c } : Op).cells := rfl
theorem Op.putFail (x : Op) (c : Nat) : x.cells.set 34 (.int .u64 c) = ({ x with fail := c } : Op).cells := rfl
theorem Op.putFast (x : Op) (c : Nat) : x.cells.set 35 (.int .u64 c) = ({ x with fast := c } : Op).cells := rfl
theorem Op.putRf (x : Op) (c : Int) : x.cells.set 36 (.int .i64 c) = ({ x with rf := c } : Op).cells := rfl
theorem Op.putRr (x : Op) (c : Int) : x.cells.set 37 (.int .i64 c) = ({ x with rr := c } : Op).cells := rfl
theorem lay_gen : ∀ (vs pre rest : List Value), rest.length = vs.length → AS.lay (pre ++ rest) pre.length vs = pre ++ vs
  | [], pre, [], _ => rfl
  | v :: vs, pre, r :: rest, h => by
    have hs : (pre ++ r :: rest).set pre.length v = (pre ++ [v]) ++ rest := by simp
    have := lay_gen vs (pre ++ [v]) rest (by simpa using h)
    rw [AS.lay, hs]
    simpa using this
theorem Op.layAll (x y : Op) : AS.lay x.cells 0 y.cells = y.cells := by
  have := lay_gen y.cells [] x.cells rfl
  simpa only [List.nil_append, List.length_nil] using this
theorem Op.zeroC : opZ = Op.zero.cells := rfl
theorem eqL_app (a b : List (Nat × LeafK)) (x y : List Value) : eqL (a ++ b) x y = (match eqL a x y, eqL b x y with | some p, some q => some (p && q) | _, _ => none) := by
  induction a with
  | nil => simp only [List.nil_append, eqL]; cases eqL b x y <;> simp
  | cons p a ih =>
    simp only [List.cons_append, eqL, ih]
    cases leafEq p.2 x[p.1]? y[p.1]? <;> cases eqL a x y <;> cases eqL b x y <;> simp [Bool.and_assoc]
theorem eqC (a b : Cap) : eqL [(0, .i), (1, .i), (2, .b), (3, .b), (4, .i), (5, .i), (6, .i), (7, .i)] a.cells b.cells = some (decide (a = b)) := by
  simp only [eqL, Cap.cells, leafEq, List.getElem?_cons_zero, List.getElem?_cons_succ, if_true]
  rw [Option.some.injEq, Bool.eq_iff_iff]
  cases a; cases b
  simp only [Bool.and_eq_true, beq_iff_eq, decide_eq_true_eq, Cap.mk.injEq, Int.natCast_inj, and_true]
theorem eqD (a b : Ds) : eqL [(0, .b), (1, .b), (2, .b), (3, .i), (4, .b), (5, .b), (6, .i), (7, .i), (8, .i), (9, .b), (10, .i)] a.cells b.cells = some (decide (a = b)) := by
  simp only [eqL, Ds.cells, leafEq, List.getElem?_cons_zero, List.getElem?_cons_succ, if_true]
  rw [Option.some.injEq, Bool.eq_iff_iff]
  cases a; cases b
  simp only [Bool.and_eq_true, beq_iff_eq, decide_eq_true_eq, Ds.mk.injEq, Int.natCast_inj, and_true]
theorem eqA' (a b : Ad) : eqL [(0, .b), (1, .i), (2, .s), (3, .b), (4, .i), (5, .s)] a.cells b.cells = some (decide (a = b)) := by
  simp only [eqL, Ad.cells, leafEq, List.getElem?_cons_zero, List.getElem?_cons_succ, if_true]
  rw [Option.some.injEq, Bool.eq_iff_iff]
  cases a; cases b
  simp only [Bool.and_eq_true, beq_iff_eq, decide_eq_true_eq, Ad.mk.injEq, Int.natCast_inj, and_true]
theorem eqR (a b : Op) : eqL [(32, .s), (33, .b), (34, .i), (35, .i), (36, .i), (37, .i)] a.cells b.cells = some (decide (a.ids = b.ids ∧ a.prio = b.prio ∧ a.fail = b.fail ∧ a.fast = b.fast ∧ a.rf = b.rf ∧ a.rr = b.rr)) := by
  show eqL [(0, .s), (1, .b), (2, .i), (3, .i), (4, .i), (5, .i)] [.string ⟨⟨a.ids⟩⟩, .bool a.prio, .int .u64 (a.fail : Nat), .int .u64 (a.fast : Nat), .int .i64 a.rf, .int .i64 a.rr] [.string ⟨⟨b.ids⟩⟩, .bool b.prio, .int .u64 (b.fail : Nat), .int .u64 (b.fast : Nat), .int .i64 b.rf, .int .i64 b.rr] = _
  simp only [eqL, leafEq, List.getElem?_cons_zero, List.getElem?_cons_succ, if_true]
  rw [Option.some.injEq, Bool.eq_iff_iff]
  simp only [Bool.and_eq_true, beq_iff_eq, decide_eq_true_eq, Int.natCast_inj, and_true]
theorem eqOp (a b : Op) : eqL opL a.cells b.cells = some (decide (a = b)) := by
  have hs : eqL [(0, .i)] a.cells b.cells = some (decide (a.sub = b.sub)) := by
    show eqL [(0, .i)] [.int .i64 a.sub] [.int .i64 b.sub] = _
    simp [eqL, leafEq, Bool.eq_iff_iff]
  have hc : eqL [(1, .i), (2, .i), (3, .b), (4, .b), (5, .i), (6, .i), (7, .i), (8, .i)] a.cells b.cells = some (decide (a.cap = b.cap)) := eqC a.cap b.cap
  have hj : eqL [(9, .i), (10, .b), (11, .i), (12, .i), (13, .i), (14, .s)] a.cells b.cells = some (decide (a.jn = b.jn)) := eqJ a.jn b.jn
  have hd : eqL [(15, .b), (16, .b), (17, .b), (18, .i), (19, .b), (20, .b), (21, .i), (22, .i), (23, .i), (24, .b), (25, .i)] a.cells b.cells = some (decide (a.ds = b.ds)) := eqD a.ds b.ds
  have ha : eqL [(26, .b), (27, .i), (28, .s), (29, .b), (30, .i), (31, .s)] a.cells b.cells = some (decide (a.ad = b.ad)) := eqA' a.ad b.ad
  have hr := eqR a b
  have e : opL = [(0, .i)] ++ ([(1, .i), (2, .i), (3, .b), (4, .b), (5, .i), (6, .i), (7, .i), (8, .i)] ++ ([(9, .i), (10, .b), (11, .i), (12, .i), (13, .i), (14, .s)] ++ ([(15, .b), (16, .b), (17, .b), (18, .i), (19, .b), (20, .b), (21, .i), (22, .i), (23, .i), (24, .b), (25, .i)] ++ ([(26, .b), (27, .i), (28, .s), (29, .b), (30, .i), (31, .s)] ++ [(32, .s), (33, .b), (34, .i), (35, .i), (36, .i), (37, .i)])))) := rfl
  rw [e, eqL_app, eqL_app, eqL_app, eqL_app, eqL_app, hs, hc, hj, hd, ha, hr]
  simp only [Option.some.injEq]
  rw [Bool.eq_iff_iff]
  cases a; cases b
  simp only [Bool.and_eq_true, decide_eq_true_eq, Op.mk.injEq]
theorem Ext.setN {A A1 : AHeap} {b : Nat} {x : ABlk} (h : Ext NoB A A1) (hb : A.size ≤ b) : Ext NoB A (A1.set b x) :=
  ⟨h.size, fun j hj hn => by rw [get_set', if_neg (by omega)]; exact h.keep j hj hn⟩
theorem Ext.allocN {A A1 : AHeap} {x : ABlk} (h : Ext NoB A A1) : Ext NoB A (A1.alloc x) := h.trans Ext.alloc
theorem Op.tCap (x : Op) : List.take 8 x.cells.tail = x.cap.cells := rfl
attribute [local simp] Op.len Op.one Cap.ln Jn.len Ds.ln Ad.len Cap.one Jn.one Ds.one Ad.one Op.take Op.at0 Op.head? Op.getCap Op.tCap Op.getJn Op.getDs Op.getAd Op.getIds Op.getPrio Op.getFail Op.getFast Op.getRst Op.putCap Op.putJn Op.putDs Op.putAd Op.putSub Op.putIds Op.putPrio Op.putFail Op.putFast Op.putRf Op.putRr Op.layAll Op.zeroC
theorem has_ok (A : AHeap) (x : Op) (Q : Value → AHeap → Prop) (hq : ∀ A', Ext NoB A A' → Q (.agg ⟨x.has.cells⟩) A') : wF T (.func (.func 25) #[] #[]) [.agg ⟨x.cells⟩] A Q := by
  refine wF_func (first := []) (captured := []) t25 ⟨rfl, by decide⟩ ?_
  dsimp only [c25]
  by_cases h0 : x.sub = 0
  · have hh : x.has = { Op.only 0 with cap := x.cap } := by rw [Op.has, h0]; rfl
    rw [hh] at hq
    simp [h0]
    exact hq _ (by (repeat first | exact Ext.refl | assumption | refine Ext.allocN ?_ | refine Ext.setN ?_ (by first | omega | (simp; done) | (simp; omega))))
  by_cases h1 : x.sub = 1
  · have hh : x.has = { Op.only 1 with jn := x.jn } := by rw [Op.has, h1]; rfl
    rw [hh] at hq
    simp [h1]
    exact hq _ (by (repeat first | exact Ext.refl | assumption | refine Ext.allocN ?_ | refine Ext.setN ?_ (by first | omega | (simp; done) | (simp; omega))))
  by_cases h2 : x.sub = 2
  · have hh : x.has = { Op.only 2 with ds := x.ds } := by rw [Op.has, h2]; rfl
    rw [hh] at hq
    simp [h2]
    exact hq _ (by (repeat first | exact Ext.refl | assumption | refine Ext.allocN ?_ | refine Ext.setN ?_ (by first | omega | (simp; done) | (simp; omega))))
  by_cases h3 : x.sub = 3
  · have hh : x.has = { Op.only 3 with ad := x.ad } := by rw [Op.has, h3]; rfl
    rw [hh] at hq
    simp [h3]
    exact hq _ (by (repeat first | exact Ext.refl | assumption | refine Ext.allocN ?_ | refine Ext.setN ?_ (by first | omega | (simp; done) | (simp; omega))))
  by_cases h4 : x.sub = 4
  · have hh : x.has = { Op.only 4 with ids := x.ids } := by rw [Op.has, h4]; rfl
    rw [hh] at hq
    simp [h4]
    exact hq _ (by (repeat first | exact Ext.refl | assumption | refine Ext.allocN ?_ | refine Ext.setN ?_ (by first | omega | (simp; done) | (simp; omega))))
  by_cases h5 : x.sub = 5
  · have hh : x.has = { Op.only 5 with prio := x.prio } := by rw [Op.has, h5]; rfl
    rw [hh] at hq
    simp [h5]
    exact hq _ (by (repeat first | exact Ext.refl | assumption | refine Ext.allocN ?_ | refine Ext.setN ?_ (by first | omega | (simp; done) | (simp; omega))))
  by_cases h6 : x.sub = 6
  · have hh : x.has = { Op.only 6 with fail := x.fail } := by rw [Op.has, h6]; rfl
    rw [hh] at hq
    simp [h6]
    exact hq _ (by (repeat first | exact Ext.refl | assumption | refine Ext.allocN ?_ | refine Ext.setN ?_ (by first | omega | (simp; done) | (simp; omega))))
  by_cases h7 : x.sub = 7
  · have hh : x.has = { Op.only 7 with fast := x.fast } := by rw [Op.has, h7]; rfl
    rw [hh] at hq
    simp [h7]
    exact hq _ (by (repeat first | exact Ext.refl | assumption | refine Ext.allocN ?_ | refine Ext.setN ?_ (by first | omega | (simp; done) | (simp; omega))))
  by_cases h8 : x.sub = 8
  · have hh : x.has = { Op.only 8 with rf := x.rf, rr := x.rr } := by rw [Op.has, h8]; rfl
    rw [hh] at hq
    simp [h8]
    exact hq _ (by (repeat first | exact Ext.refl | assumption | refine Ext.allocN ?_ | refine Ext.setN ?_ (by first | omega | (simp; done) | (simp; omega))))
  have hh : x.has = Op.only x.sub := by simp only [Op.has, h0, h1, h2, h3, h4, h5, h6, h7, h8, if_false]
  rw [hh] at hq
  simp [h0, h1, h2, h3, h4, h5, h6, h7, h8]
  exact hq _ (by (repeat first | exact Ext.refl | assumption | refine Ext.allocN ?_ | refine Ext.setN ?_ (by first | omega | (simp; done) | (simp; omega))))
theorem lay0_ok (A : AHeap) (x : Op) (hw : x.W) (Q : Value → AHeap → Prop) (hq : ∀ A', Ext NoB A A' → Q (resE (x.cap.enc)) A') : wF T (.func (.func 32) #[] #[]) [.agg ⟨x.cells⟩] A Q := by
  refine wF_func (first := []) (captured := []) t32 ⟨rfl, by decide⟩ ?_
  dsimp only [c32]
  simp
  refine cenc_ok _ x.cap hw.cap _ fun A2 e2 => ?_
  have := hq A2 (Ext.alloc.trans e2)
  cases hx : (x.cap.enc) <;> rw [hx] at this <;> simp [resE] <;> exact this
theorem lay1_ok (A : AHeap) (x : Op) (hw : x.W) (Q : Value → AHeap → Prop) (hq : ∀ A', Ext NoB A A' → Q (resE (x.jn.enc)) A') : wF T (.func (.func 36) #[] #[]) [.agg ⟨x.cells⟩] A Q := by
  refine wF_func (first := []) (captured := []) t36 ⟨rfl, by decide⟩ ?_
  dsimp only [c36]
  simp
  refine jenc_ok _ x.jn hw.jn _ fun A2 e2 => ?_
  have := hq A2 (Ext.alloc.trans e2)
  cases hx : (x.jn.enc) <;> rw [hx] at this <;> simp [resE] <;> exact this
theorem lay2_ok (A : AHeap) (x : Op) (hw : x.W) (Q : Value → AHeap → Prop) (hq : ∀ A', Ext NoB A A' → Q (resE (x.ds.enc)) A') : wF T (.func (.func 40) #[] #[]) [.agg ⟨x.cells⟩] A Q := by
  refine wF_func (first := []) (captured := []) t40 ⟨rfl, by decide⟩ ?_
  dsimp only [c40]
  simp
  refine denc_ok _ x.ds hw.ds _ fun A2 e2 => ?_
  have := hq A2 (Ext.alloc.trans e2)
  cases hx : (x.ds.enc) <;> rw [hx] at this <;> simp [resE] <;> exact this
theorem lay3_ok (A : AHeap) (x : Op) (hw : x.W) (Q : Value → AHeap → Prop) (hq : ∀ A', Ext NoB A A' → Q (resE (x.ad.enc)) A') : wF T (.func (.func 44) #[] #[]) [.agg ⟨x.cells⟩] A Q := by
  refine wF_func (first := []) (captured := []) t44 ⟨rfl, by decide⟩ ?_
  dsimp only [c44]
  simp
  refine aenc_ok _ x.ad hw.ad _ fun A2 e2 => ?_
  have := hq A2 (Ext.alloc.trans e2)
  cases hx : (x.ad.enc) <;> rw [hx] at this <;> simp [resE] <;> exact this
theorem lay4_ok (A : AHeap) (x : Op) (hw : x.W) (Q : Value → AHeap → Prop) (hq : ∀ A', Ext NoB A A' → Q (resE (remE x.ids)) A') : wF T (.func (.func 48) #[] #[]) [.agg ⟨x.cells⟩] A Q := by
  refine wF_func (first := []) (captured := []) t48 ⟨rfl, by decide⟩ ?_
  dsimp only [c48]
  simp
  refine renc_ok _ x.ids hw.ids _ fun A2 e2 => ?_
  have := hq A2 (Ext.alloc.trans e2)
  cases hx : (remE x.ids) <;> rw [hx] at this <;> simp [resE] <;> exact this
theorem lay5_ok (A : AHeap) (x : Op) (hw : x.W) (Q : Value → AHeap → Prop) (hq : ∀ A', Ext NoB A A' → Q (resE (some (prioE x.prio))) A') : wF T (.func (.func 52) #[] #[]) [.agg ⟨x.cells⟩] A Q := by
  refine wF_func (first := []) (captured := []) t52 ⟨rfl, by decide⟩ ?_
  dsimp only [c52]
  simp
  refine penc_ok _ x.prio _ fun A2 e2 => ?_
  have := hq A2 (Ext.alloc.trans e2)
  cases hx : (some (prioE x.prio)) <;> rw [hx] at this <;> simp [resE] <;> exact this
theorem lay6_ok (A : AHeap) (x : Op) (hw : x.W) (Q : Value → AHeap → Prop) (hq : ∀ A', Ext NoB A A' → Q (resE (some (bigE 6 x.fail))) A') : wF T (.func (.func 56) #[] #[]) [.agg ⟨x.cells⟩] A Q := by
  refine wF_func (first := []) (captured := []) t56 ⟨rfl, by decide⟩ ?_
  dsimp only [c56]
  simp
  refine fenc_ok _ x.fail hw.fail _ fun A2 e2 => ?_
  have := hq A2 (Ext.alloc.trans e2)
  cases hx : (some (bigE 6 x.fail)) <;> rw [hx] at this <;> simp [resE] <;> exact this
theorem lay7_ok (A : AHeap) (x : Op) (hw : x.W) (Q : Value → AHeap → Prop) (hq : ∀ A', Ext NoB A A' → Q (resE (some (bigE 7 x.fast))) A') : wF T (.func (.func 60) #[] #[]) [.agg ⟨x.cells⟩] A Q := by
  refine wF_func (first := []) (captured := []) t60 ⟨rfl, by decide⟩ ?_
  dsimp only [c60]
  simp
  refine kenc_ok _ x.fast hw.fast _ fun A2 e2 => ?_
  have := hq A2 (Ext.alloc.trans e2)
  cases hx : (some (bigE 7 x.fast)) <;> rw [hx] at this <;> simp [resE] <;> exact this
theorem lay8_ok (A : AHeap) (x : Op) (hw : x.W) (Q : Value → AHeap → Prop) (hq : ∀ A', Ext NoB A A' → Q (resE (rstE x.rf x.rr)) A') : wF T (.func (.func 64) #[] #[]) [.agg ⟨x.cells⟩] A Q := by
  refine wF_func (first := []) (captured := []) t64 ⟨rfl, by decide⟩ ?_
  dsimp only [c64]
  simp
  refine tenc_ok _ x.rf x.rr _ fun A2 e2 => ?_
  have := hq A2 (Ext.alloc.trans e2)
  cases hx : (rstE x.rf x.rr) <;> rw [hx] at this <;> simp [resE] <;> exact this
theorem all_ok (A : AHeap) (Q : Value → AHeap → Prop) (hq : ∀ A', Ext NoB A A' → Q (.agg ⟨[.func (.func 32) #[] #[], .func (.func 34) #[] #[], .func (.func 36) #[] #[], .func (.func 38) #[] #[], .func (.func 40) #[] #[], .func (.func 42) #[] #[], .func (.func 44) #[] #[], .func (.func 46) #[] #[], .func (.func 48) #[] #[], .func (.func 50) #[] #[], .func (.func 52) #[] #[], .func (.func 54) #[] #[], .func (.func 56) #[] #[], .func (.func 58) #[] #[], .func (.func 60) #[] #[], .func (.func 62) #[] #[], .func (.func 64) #[] #[], .func (.func 66) #[] #[]]⟩) A') : wF T (.func (.func 26) #[] #[]) [] A Q := by
  refine wF_func (first := []) (captured := []) t26 ⟨rfl, by decide⟩ ?_
  dsimp only [c26]
  simp

  exact hq _ (by (repeat first | exact Ext.refl | assumption | refine Ext.allocN ?_ | refine Ext.setN ?_ (by first | omega | (simp; done) | (simp; omega))))
end Go.Proofs.YtigknpfjhegkgaaGreat
