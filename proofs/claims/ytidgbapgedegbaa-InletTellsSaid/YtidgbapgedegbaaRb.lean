/- Mappings: finding. -/
import Derived.Test.YtidgbapgedegbaaRa
import Derived.KernelRfl
namespace Go.Proofs.Ytidgbapgedegbaa
open Go Go.AS
set_option maxRecDepth 100000
set_option linter.unusedSimpArgs false
set_option linter.unusedVariables false
attribute [local irreducible] Trie.set Trie.get Env.rd
attribute [local simp] Nat.add_assoc wD_cons'' wD_nil' wC_seq wC_ops wC_opsD_nil wC_cond wC_skip wC_ret wC_exit wC_block wO_cons' wO_nil wantedA wV_eq lop qop ev wL_some wL_none wPut envOf rd_set rd_leaf eqA thenC blockC wB_true wB_false endF unwindA resultsA resA tupleA rdCell rdCells wrCells cl fillP lay rep binA unA get_set' AHeap.get_alloc oneCell beqd bned idxA

def Place (ms : List Mp) (at_ : Int) (i : Nat) : Prop := i ≤ ms.length ∧ (∀ k (h : k < ms.length), k < i → ms[k].at_ < at_) ∧ (∀ k (h : k < ms.length), i ≤ k → at_ ≤ ms[k].at_)
def isAt (ms : List Mp) (i : Nat) (at_ : Int) : Bool := match ms[i]? with | some m => decide (m.at_ = at_) | none => false
def Rise (ms : List Mp) : Prop := ms.Pairwise fun a b => a.at_ < b.at_

/-- A table in memory; S: its own blocks. -/
def TabAt (A : AHeap) (p room begin : Nat) (ms : List Mp) (S : Nat → Prop) : Prop :=
  ∃ v, A.get p = some (.cells [.int .i64 (room : Nat), .int .i64 (begin : Nat), v] false 0) ∧ SliceAt A 4 v ms.length (encs mpc ms) ∧ S p ∧ ¬ Own v p ∧ ∀ j, Own v j → S j
structure TabOk (room begin : Nat) (ms : List Mp) : Prop where
  rise : Rise ms
  dom : ∀ m ∈ ms, (begin : Int) ≤ m.at_ ∧ m.at_ < (begin : Int) + room
  big : begin ≤ 2305843009213693952
  room1 : 1 ≤ room
  room2 : room ≤ 2048
  lens : ∀ m ∈ ms, 1 ≤ m.len ∧ m.len ≤ room

theorem TabAt.ext {A A' : AHeap} {p room begin : Nat} {ms : List Mp} {S U : Nat → Prop} (h : TabAt A p room begin ms S) (e : Ext U A A') (hs : ∀ j, S j → ¬ U j) : TabAt A' p room begin ms S := by
  obtain ⟨v, h1, h2, h3, h4, h5⟩ := h
  exact ⟨v, e.get h1 (hs _ h3), h2.ext e fun j hj => hs _ (h5 j hj), h3, h4, h5⟩
theorem TabAt.lt {A : AHeap} {p room begin : Nat} {ms : List Mp} {S : Nat → Prop} (h : TabAt A p room begin ms S) : p < A.size := by
  obtain ⟨v, h1, _⟩ := h; exact AHeap.get_lt h1
theorem TabAt.grow {A : AHeap} {p room begin : Nat} {ms : List Mp} {S U : Nat → Prop} (h : TabAt A p room begin ms S) (hs : ∀ j, S j → U j) : TabAt A p room begin ms U := by
  obtain ⟨v, h1, h2, h3, h4, h5⟩ := h
  exact ⟨v, h1, h2, hs _ h3, h4, fun j hj => hs _ (h5 j hj)⟩

theorem Rise.len : ∀ {ms : List Mp} {lo hi : Int}, Rise ms → (∀ m ∈ ms, lo ≤ m.at_ ∧ m.at_ < hi) → lo ≤ hi → (ms.length : Int) ≤ hi - lo
  | [], lo, hi, _, _, h => by simp only [List.length_nil]; omega
  | m :: ms, lo, hi, h, hd, hl => by
    have h' := List.pairwise_cons.1 h
    have := hd m (by simp)
    have := Rise.len (lo := m.at_ + 1) (hi := hi) h'.2 (fun x hx => ⟨by have := h'.1 x hx; omega, (hd x (by simp [hx])).2⟩) (by omega)
    simp only [List.length_cons]; omega
theorem TabOk.len {room begin : Nat} {ms : List Mp} (h : TabOk room begin ms) : ms.length ≤ room := by
  have := h.rise.len h.dom (by omega); omega

theorem encs_at {α : Type} {enc : α → List Value} {sz : Nat} (hz : ∀ x, (enc x).length = sz) : ∀ (l : List α) (i : Nat) (h : i < l.length), ((encs enc l).drop (i * sz)).take sz = enc l[i]
  | x :: l, 0, _ => by rw [Nat.zero_mul, List.drop_zero, encs_cons, ← hz x, List.take_left]; rfl
  | x :: l, i + 1, h => by
    rw [encs_cons, show (i + 1) * sz = (enc x).length + i * sz by rw [hz, Nat.add_mul]; omega, ← List.drop_drop, List.drop_left]
    exact encs_at hz l i (by simpa using h)

theorem ahead_ok (q : Nat) (at_ : Int) (m : Mp) (A : AHeap) (Q : Value → AHeap → Prop) (hq : A.get q = some (.cells [.int .i64 at_] false 0)) (hQ : ∀ A', Ext NoB A A' → Q (.bool (decide (m.at_ < at_))) A') : wF T (.func (.func 154) #[] ⟨[.pointer (some ⟨q, 0, none⟩)]⟩) [.agg ⟨mpc m⟩] A Q := by
  refine wF_func (first := []) (captured := [.pointer (some ⟨q, 0, none⟩)]) t154 ⟨rfl, by decide⟩ ?_
  dsimp only [c154]
  have := AHeap.get_lt hq
  simp [mpc, hq, show q ≠ A.size by omega]
  exact hQ _ Ext.alloc

theorem place_ok (A : AHeap) (v : Value) (ms : List Mp) (q : Nat) (at_ : Int) (Q : Value → AHeap → Prop) (hv : ReadAt A 4 v ms.length (encs mpc ms)) (hlt : ∀ j, Own v j → j < A.size) (hn : ms.length < 1000000) (rise : Rise ms) (hq : A.get q = some (.cells [.int .i64 at_] false 0))
    (hQ : ∀ A' i, Ext NoB A A' → Place ms at_ i → Q (.int .i64 (i : Nat)) A') :
    wF T (.func (.func 153) #[] #[]) [v, .func (.func 154) #[] ⟨[.pointer (some ⟨q, 0, none⟩)]⟩] A Q := by
  obtain ⟨a, c, hv'⟩ := hv.val
  subst hv'
  refine wF_func (first := []) (captured := []) t153 ⟨rfl, by decide⟩ ?_
  dsimp only [c153]
  simp
  generalize hA1 : (A.alloc _).alloc _ = A1
  have e1 : Ext NoB A A1 := by rw [← hA1]; exact (Ext.alloc).trans Ext.alloc
  have g0 : A1.get A.size = some (.cells [.slice a ms.length c] false 0) := by rw [← hA1]; simp
  have g1 : A1.get (A.size + 1) = some (.cells [.func (.func 154) #[] ⟨[.pointer (some ⟨q, 0, none⟩)]⟩] false 0) := by rw [← hA1]; simp
  have gq := e1.get hq id
  clear hA1
  refine search_ok _ ms.length hn (fun k => match ms[k]? with | some m => decide (at_ ≤ m.at_) | none => true) ?_ A1 _ ?_ ?_
  · intro i j hij hj hi
    have hi' : i < ms.length := by omega
    simp only [List.getElem?_eq_getElem hi', List.getElem?_eq_getElem hj, decide_eq_true_eq] at hi ⊢
    rcases Nat.lt_or_eq_of_le hij with q | q
    · have := List.pairwise_iff_getElem.1 rise i j hi' hj q; omega
    · subst q; exact hi
  · intro i hi A2 e2 Q' hQ'
    have g0' := e2.get g0 id
    have g1' := e2.get g1 id
    have gq' := e2.get gq id
    have hv2 := (hv.ext e1 fun _ _ => id).ext e2 fun _ _ => id
    obtain ⟨d, o, c', bs, ro, opn, k1, k2, k3, k4⟩ := hv2.elem2 hi
    cases k1
    rw [encs_at mpcz ms i hi] at k4
    refine wF_func (first := []) (captured := [.pointer (some ⟨A.size + 1, 0, none⟩), .pointer (some ⟨A.size, 0, none⟩)]) t171 ⟨rfl, by decide⟩ ?_
    dsimp only [c171]
    simp at k3 k4
    simp [g0', g1', hi, k2, k3, k4]
    refine ahead_ok q at_ ms[i] A2 _ gq' fun A3 e3 => ?_
    simp
    have := hQ' A3 e3
    simp only [List.getElem?_eq_getElem hi] at this
    have e : (!decide (ms[i].at_ < at_)) = decide (at_ ≤ ms[i].at_) := by rw [← decide_not]; exact decide_eq_decide.2 Int.not_lt
    simp only [e]
    exact this
  · intro A2 i e2 hi lo hi2
    simp
    refine hQ A2 i (e1.trans e2) ⟨hi, fun k h hk => ?_, fun k h hk => ?_⟩
    · have := lo k hk
      simp only [List.getElem?_eq_getElem h, decide_eq_false_iff_not] at this; omega
    · have := hi2 k hk h
      simpa only [List.getElem?_eq_getElem h, decide_eq_true_eq] using this

theorem find_ok (A : AHeap) (p room begin : Nat) (ms : List Mp) (S : Nat → Prop) (at_ : Int) (Q : Value → AHeap → Prop) (h : TabAt A p room begin ms S) (rise : Rise ms) (hl : ms.length ≤ 2048)
    (hQ : ∀ A' i, Ext NoB A A' → Place ms at_ i → Q (.tuple ⟨[.int .i64 (i : Nat), .bool (isAt ms i at_)]⟩) A') :
    wF T (.func (.func 125) #[] #[]) [.pointer (some ⟨p, 0, none⟩), .int .i64 at_] A Q := by
  have lp := h.lt
  obtain ⟨v, h1, h2, h3, h4, h5⟩ := h
  refine wF_func (first := []) (captured := []) t125 ⟨rfl, by decide⟩ ?_
  dsimp only [c125]
  simp [h1, show p ≠ A.size by omega]
  generalize hA1 : A.alloc _ = A1
  obtain ⟨g1, e1, z1⟩ := alloc_facts hA1
  have h1' := e1.get h1 id
  have h2' := h2.ext e1 fun _ _ => id
  refine place_ok A1 v ms A.size at_ _ h2'.read (fun j hj => h2'.own_lt hj) (by omega) rise g1 fun A2 i e2 pl => ?_
  have h1'' := e2.get h1' id
  have h2'' := h2'.ext e2 fun _ _ => id
  have g1' := e2.get g1 id
  obtain ⟨a, c, hv'⟩ := h2''.read.val
  subst hv'
  by_cases hi : i < ms.length
  · obtain ⟨d, o, c', bs, ro, opn, k1, k2, k3, k4⟩ := h2''.read.elem2 hi
    cases k1
    rw [encs_at mpcz ms i hi] at k4
    have k5 : bs[o + i * 4]? = some (.int .i64 ms[i].at_) := by
      have := congrArg (·[0]?) k4
      simp only [List.getElem?_take, List.getElem?_drop] at this
      simpa [mpc] using this
    simp [h1'', hi, k2, k5, g1']
    have := hQ A2 i (e1.trans e2) pl
    simpa [isAt, List.getElem?_eq_getElem hi] using this
  · simp [h1'', hi]
    have := hQ A2 i (e1.trans e2) pl
    simpa [isAt, List.getElem?_eq_none (show ms.length ≤ i by omega)] using this
end Go.Proofs.Ytidgbapgedegbaa
