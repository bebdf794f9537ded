/- Contracts of flows. -/
import Derived.Test.YtidgbapgedegbaaKh
import Derived.Test.YtidgbapgedegbaaOc
import Derived.Test.YtidgbapgedegbaaIb
import Derived.KernelRfl
namespace Go.Proofs.Ytidgbapgedegbaa.Fw
open Go Go.AS
set_option maxRecDepth 100000
set_option linter.unusedSimpArgs false
set_option linter.unusedVariables false
attribute [local irreducible] Trie.set Trie.get Env.rd
attribute [local simp] Nat.add_assoc wD_cons'' wD_nil' wC_seq wC_ops wC_opsD_nil wC_cond wC_skip wC_ret wC_exit wC_block wO_cons' wO_nil wantedA wV_eq lop qop ev wL_some wL_none wPut envOf rd_set rd_leaf eqA thenC blockC wB_true wB_false endF unwindA resultsA resA tupleA rdCell rdCells wrCells cl fillP lay rep binA unA get_set' AHeap.get_alloc oneCell beqd bned

theorem yes_ok (A : AHeap) (Q : Value → AHeap → Prop) (hq : Q (.bool true) A) : wF T (.func (.func 40) #[] #[]) [] A Q := by
  refine wF_func (first := []) (captured := []) t40 ⟨rfl, by decide⟩ ?_
  dsimp only [sayYes]; simp [hq]

/-- A number of an end's. -/
def num (a n : Int) : Int := (a + 1 + n) % 4294967296
/-- How far it is. -/
def gap (a b : Int) : Int := (b - a + 2147483648) % 4294967296 - 2147483648

theorem plus_ok (a n : Int) (A : AHeap) (Q : Value → AHeap → Prop) (hq : Q (.int .u32 ((a + n) % 4294967296)) A) : wF T (.func (.func 134) #[] #[]) [.int .u32 a, .int .i64 n] A Q := by
  refine wF_func (first := []) (captured := []) t134 ⟨rfl, by decide⟩ ?_
  dsimp only [c134]; simp
  rw [IntKind.wrap_u32, IntKind.wrap_u32, Int.add_emod_emod]
  exact hq

theorem own_ok (a b n : Int) (A : AHeap) (Q : Value → AHeap → Prop) (hq : ∀ A', Ext NoB A A' → Q (.int .u32 (num a n)) A') : wF T (.func (.func 101) #[] #[]) [.agg ⟨[.int .u32 a, .int .u32 b]⟩, .int .i64 n] A Q := by
  refine wF_func (first := []) (captured := []) t101 ⟨rfl, by decide⟩ ?_
  dsimp only [c101]; simp
  refine plus_ok _ _ _ _ ?_
  simp
  rw [IntKind.wrap_u32, Int.emod_add_emod]
  exact hq _ Ext.alloc

theorem other_ok (a b n : Int) (A : AHeap) (Q : Value → AHeap → Prop) (hq : ∀ A', Ext NoB A A' → Q (.int .u32 (num b n)) A') : wF T (.func (.func 103) #[] #[]) [.agg ⟨[.int .u32 a, .int .u32 b]⟩, .int .i64 n] A Q := by
  refine wF_func (first := []) (captured := []) t103 ⟨rfl, by decide⟩ ?_
  dsimp only [c103]; simp
  refine plus_ok _ _ _ _ ?_
  simp
  rw [IntKind.wrap_u32, Int.emod_add_emod]
  exact hq _ Ext.alloc

theorem way_ok (a b : Int) (A : AHeap) (Q : Value → AHeap → Prop) (hq : Q (.int .u32 ((b - a) % 4294967296)) A) : wF T (.func (.func 161) #[] #[]) [.int .u32 a, .int .u32 b] A Q := by
  refine wF_func (first := []) (captured := []) t161 ⟨rfl, by decide⟩ ?_
  dsimp only [c161]; simp
  rw [IntKind.wrap_u32]
  exact hq

theorem gap_ok (a b : Int) (A : AHeap) (Q : Value → AHeap → Prop) (hq : Q (.int .i64 (gap a b)) A) : wF T (.func (.func 136) #[] #[]) [.int .u32 a, .int .u32 b] A Q := by
  refine wF_func (first := []) (captured := []) t136 ⟨rfl, by decide⟩ ?_
  dsimp only [c136]; simp
  refine way_ok _ _ _ _ ?_
  simp
  have e : IntKind.i64.wrap (IntKind.i32.wrap ((b - a) % 4294967296)) = gap a b := by
    rw [IntKind.wrap_i32, IntKind.wrap_i64]; unfold gap; omega
  rw [e]
  exact hq

/-! ## An outlet -/
theorem oend_ok (o : Nat) (due : Value) (en un : Int) (A : AHeap) (Q : Value → AHeap → Prop) (h : A.get o = some (.cells [due, .int .i64 en, .int .i64 un] false 0)) (hq : Q (.int .i64 en) A) : wF T (.func (.func 106) #[] #[]) [.pointer (some ⟨o, 0, none⟩)] A Q := by
  refine wF_func (first := []) (captured := []) t106 ⟨rfl, by decide⟩ ?_
  dsimp only [c106]; simp [h]
  exact hq

theorem una_ok (o : Nat) (due : Value) (en un : Int) (A : AHeap) (Q : Value → AHeap → Prop) (h : A.get o = some (.cells [due, .int .i64 en, .int .i64 un] false 0)) (hq : Q (.int .i64 un) A) : wF T (.func (.func 135) #[] #[]) [.pointer (some ⟨o, 0, none⟩)] A Q := by
  refine wF_func (first := []) (captured := []) t135 ⟨rfl, by decide⟩ ?_
  dsimp only [c135]; simp [h]
  exact hq

theorem onew_ok (A : AHeap) (Q : Value → AHeap → Prop) (hq : Q (.pointer (some ⟨A.size, 0, none⟩)) (A.alloc (.cells [.slice none 0 0, .int .i64 0, .int .i64 0] false 0))) : wF T (.func (.func 160) #[] #[]) [] A Q := by
  refine wF_func (first := []) (captured := []) t160 ⟨rfl, by decide⟩ ?_
  dsimp only [c160]; simp
  exact hq

/-! ## A flow -/
structure Fl where
  isn : Int
  peer : Int
  path : Int
  state : Int
  here : Int
  there : Int
  o : Value
  i : Value
  fin : Bool
  fa : Bool
  ft : Bool
def Fl.cells (f : Fl) : List Value := [.int .u32 f.isn, .int .u32 f.peer, .int .i64 f.path, .int .i64 f.state, .int .u16 f.here, .int .u16 f.there, f.o, f.i, .bool f.fin, .bool f.fa, .bool f.ft]
structure Sg where
  path : Int
  src : Int
  dst : Int
  seq : Int
  ack : Int
  syn : Bool
  ackOn : Bool
  fin : Bool
  rst : Bool
  win : Int
  opts : ByteArray
  data : ByteArray
def Sg.cells (x : Sg) : List Value := [.int .i64 x.path, .int .u16 x.src, .int .u16 x.dst, .int .u32 x.seq, .int .u32 x.ack, .bool x.syn, .bool x.ackOn, .bool x.fin, .bool x.rst, .int .u16 x.win, .string x.opts, .string x.data]
@[simp ↓] theorem Sg.one (x : Sg) : x.cells.all oneCell = true := rfl
@[simp ↓] theorem Sg.layd (x : Sg) (c0 c1 c2 c3 c4 c5 c6 c7 c8 c9 c10 c11 : Value) : lay [c0, c1, c2, c3, c4, c5, c6, c7, c8, c9, c10, c11] 0 x.cells = x.cells := rfl
@[simp] theorem Sg.take (x : Sg) : x.cells.take 12 = x.cells := rfl
@[simp] theorem Sg.g0 (x : Sg) : x.cells[0]? = some (.int .i64 x.path) := rfl
@[simp] theorem Sg.s0 (x : Sg) (v) : x.cells.set 0 (.int .i64 v) = ({ x with path := v } : Sg).cells := rfl
@[simp] theorem Sg.g1 (x : Sg) : x.cells[1]? = some (.int .u16 x.src) := rfl
@[simp] theorem Sg.s1 (x : Sg) (v) : x.cells.set 1 (.int .u16 v) = ({ x with src := v } : Sg).cells := rfl
@[simp] theorem Sg.g2 (x : Sg) : x.cells[2]? = some (.int .u16 x.dst) := rfl
@[simp] theorem Sg.s2 (x : Sg) (v) : x.cells.set 2 (.int .u16 v) = ({ x with dst := v } : Sg).cells := rfl
@[simp] theorem Sg.g3 (x : Sg) : x.cells[3]? = some (.int .u32 x.seq) := rfl
@[simp] theorem Sg.s3 (x : Sg) (v) : x.cells.set 3 (.int .u32 v) = ({ x with seq := v } : Sg).cells := rfl
@[simp] theorem Sg.g4 (x : Sg) : x.cells[4]? = some (.int .u32 x.ack) := rfl
@[simp] theorem Sg.s4 (x : Sg) (v) : x.cells.set 4 (.int .u32 v) = ({ x with ack := v } : Sg).cells := rfl
@[simp] theorem Sg.g5 (x : Sg) : x.cells[5]? = some (.bool x.syn) := rfl
@[simp] theorem Sg.s5 (x : Sg) (v) : x.cells.set 5 (.bool v) = ({ x with syn := v } : Sg).cells := rfl
@[simp] theorem Sg.g6 (x : Sg) : x.cells[6]? = some (.bool x.ackOn) := rfl
@[simp] theorem Sg.s6 (x : Sg) (v) : x.cells.set 6 (.bool v) = ({ x with ackOn := v } : Sg).cells := rfl
@[simp] theorem Sg.g7 (x : Sg) : x.cells[7]? = some (.bool x.fin) := rfl
@[simp] theorem Sg.s7 (x : Sg) (v) : x.cells.set 7 (.bool v) = ({ x with fin := v } : Sg).cells := rfl
@[simp] theorem Sg.g8 (x : Sg) : x.cells[8]? = some (.bool x.rst) := rfl
@[simp] theorem Sg.s8 (x : Sg) (v) : x.cells.set 8 (.bool v) = ({ x with rst := v } : Sg).cells := rfl
@[simp] theorem Sg.g9 (x : Sg) : x.cells[9]? = some (.int .u16 x.win) := rfl
@[simp] theorem Sg.s9 (x : Sg) (v) : x.cells.set 9 (.int .u16 v) = ({ x with win := v } : Sg).cells := rfl
@[simp] theorem Sg.g10 (x : Sg) : x.cells[10]? = some (.string x.opts) := rfl
@[simp] theorem Sg.s10 (x : Sg) (v) : x.cells.set 10 (.string v) = ({ x with opts := v } : Sg).cells := rfl
@[simp] theorem Sg.g11 (x : Sg) : x.cells[11]? = some (.string x.data) := rfl
@[simp] theorem Sg.s11 (x : Sg) (v) : x.cells.set 11 (.string v) = ({ x with data := v } : Sg).cells := rfl
@[simp] theorem Sg.len (x : Sg) : x.cells.length = 12 := rfl
@[simp] theorem Fl.len (x : Fl) : x.cells.length = 11 := rfl

theorem fend_ok (p : Nat) (f : Fl) (o : Nat) (due : Value) (en un : Int) (A : AHeap) (Q : Value → AHeap → Prop) (hf : A.get p = some (.cells f.cells false 0)) (ho : f.o = .pointer (some ⟨o, 0, none⟩)) (h : A.get o = some (.cells [due, .int .i64 en, .int .i64 un] false 0)) (h0 : 0 ≤ en) (h1 : en < 1000000000) (hq : Q (.int .i64 (if f.fin then en + 1 else en)) A) : wF T (.func (.func 102) #[] #[]) [.pointer (some ⟨p, 0, none⟩)] A Q := by
  refine wF_func (first := []) (captured := []) t102 ⟨rfl, by decide⟩ ?_
  dsimp only [c102]
  have w : IntKind.i64.wrap (en + 1) = en + 1 := IntWalk.i64_in _ (by omega)
  cases hh : f.fin
  · simp [hf, Fl.cells, hh, ho]
    refine oend_ok o due en un _ _ h ?_
    simp
    simpa [hh] using hq
  · simp [hf, Fl.cells, hh, ho]
    refine oend_ok o due en un _ _ h ?_
    simp [w]
    simpa [hh] using hq
end Go.Proofs.Ytidgbapgedegbaa.Fw
