/- Flows: two ends of a path. -/
import Derived.Test.YtidgbapgedegbaaGd
import Derived.KernelRfl
namespace Go.Proofs.Ytidgbapgedegbaa.Fw
open Go Go.AS Ou
set_option maxRecDepth 100000
set_option linter.unusedSimpArgs false
set_option linter.unusedVariables false
attribute [local irreducible] Trie.set Trie.get Env.rd
attribute [local simp] Nat.add_assoc wD_cons'' wD_nil' wC_seq wC_ops wC_opsD_nil wC_cond wC_skip wC_ret wC_exit wC_block wO_cons' wO_nil wantedA wV_eq lop qop ev wL_some wL_none wPut envOf rd_set rd_leaf eqA thenC blockC wB_true wB_false endF unwindA resultsA resA tupleA rdCell rdCells wrCells cl fillP lay rep binA unA get_set' AHeap.get_alloc oneCell beqd bned idxA

section
variable {A : AHeap} {p : Nat} {f : Fl} {ps : List Pc} {en un : Int} {inl : Option IS} {S : Nat → Prop} {Q : Value → AHeap → Prop}

theorem FlowAt.mk0 {A : AHeap} {p o : Nat} {f : Fl} (h1 : A.get p = some (.cells f.cells false 0)) (h2 : f.o = .pointer (some ⟨o, 0, none⟩)) (h3 : f.i = .pointer none) (h4 : A.get o = some (.cells [.slice none 0 0, .int .i64 0, .int .i64 0] false 0)) (h5 : o ≠ p) : FlowAt A p f [] 0 0 none (fun j => j = p ∨ j = o) := by
  have no : ∀ j, ¬ Own (.slice none 0 0) j := fun j ⟨_, _, _, q⟩ => by cases q
  refine ⟨o, fun j => j = o, fun _ => False, h1, h2, ⟨.slice none 0 0, h4, SliceAt.nil, rfl, no o, fun j q => (no j q).elim⟩, h3, ⟨.inl rfl, fun j q => .inr q, fun j q => q.elim⟩, ⟨fun q => h5 q.symm, id, fun j _ => id⟩, fun j q => ?_⟩
  rcases q with q | q
  · exact q ▸ AHeap.get_lt h1
  · exact q ▸ AHeap.get_lt h4

theorem set_ok' (s : Int) (h : FlowAt A p f ps en un inl S) (h0 : 0 ≤ s) (h1 : s < 5) (hq : ∀ A', FlowAt A' p { f with state := s } ps en un inl S → Ext S A A' → Q (.bool true) A') : wF T (.func (.func 98) #[] #[]) [.pointer (some ⟨p, 0, none⟩), .int .i64 s] A Q := by
  have lt := h.lt
  have sp : S p := by obtain ⟨_, _, _, _, _, _, _, h5, _, _⟩ := h; exact h5.1
  refine set_ok p f s A Q h.cells h0 h1 ?_
  generalize hA2 : AHeap.set A p _ = A2
  obtain ⟨g2, e2, z2⟩ := Ou.set_facts lt hA2
  exact hq A2 (h.cell (f' := { f with state := s }) e2 g2 rfl rfl) (e2.mono fun j _ q => q ▸ sp)

theorem layc (x y : Sg) : lay y.cells 0 x.cells = x.cells := rfl
theorem rst_ok (h : FlowAt A p f ps en un inl S) (ok : FlOk ps en un) (hq : ∀ A', Ext NoB A A' → Q (.agg ⟨({ segOf f en (inlN inl) false false with rst := true } : Sg).cells⟩) A') : wF T (.func (.func 54) #[] #[]) [.pointer (some ⟨p, 0, none⟩)] A Q := by
  refine wF_func (first := []) (captured := []) t54 ⟨rfl, by decide⟩ ?_
  dsimp only [c54]
  simp
  generalize hA1 : A.alloc _ = A1
  obtain ⟨g1, e1, z1⟩ := alloc_facts hA1
  refine seg_ok' false false (h.extN e1) ok fun A2 e2 => ?_
  have g2 := e2.get g1 id
  have l2 := AHeap.get_lt g2
  simp [g2, l2, layc]
  refine hq _ ((e1.trans e2).trans2 (((Ext.set (S := fun j => j = A.size) rfl).trans (Ext.set rfl)).trans (Ext.set rfl)) fun j hj q => by omega)

theorem flOk0 : FlOk [] 0 0 := ⟨by decide, by decide, by decide, by decide⟩

/-- An end of a path that is up. -/
structure UpF (f : Fl) (isn peer path here there : Int) : Prop where
  isn : f.isn = isn
  peer : f.peer = peer
  path : f.path = path
  here : f.here = here
  there : f.there = there
  state : f.state = 3
  fin : f.fin = false
  fa : f.fa = false
  ft : f.ft = false
def inl0 (room : Nat) : IS := ⟨room, 0, fun _ => none, [], false, 0⟩

theorem pair_ok (path a b : Int) (room : Nat) (h0 : 0 ≤ path) (h1 : path < 4) (r1 : 1 ≤ room) (r2 : room ≤ 2048) (ha : 0 ≤ a ∧ a < 4294967296) (hb : 0 ≤ b ∧ b < 4294967296)
    (hq : ∀ A' pa pb fa fb Sa Sb, FlowAt A' pa fa [] 0 0 (some (inl0 room)) Sa → FlowAt A' pb fb [] 0 0 (some (inl0 room)) Sb → Ext NoB A A' → (∀ j, Sa j → A.size ≤ j) → (∀ j, Sb j → A.size ≤ j) → (∀ j, Sa j → ¬ Sb j) →
      UpF fa a b path (1000 + path) (2000 + path) → UpF fb b a path (2000 + path) (1000 + path) → Q (.tuple ⟨[.pointer (some ⟨pa, 0, none⟩), .pointer (some ⟨pb, 0, none⟩)]⟩) A') :
    wF T (.func (.func 41) #[] #[]) [.int .i64 path, .int .u32 a, .int .u32 b, .int .i64 (room : Nat)] A Q := by
  refine wF_func (first := []) (captured := []) t41 ⟨rfl, by decide⟩ ?_
  dsimp only [c41]
  simp
  refine open_ok path a A _ h0 h1 fun A1 pa oa e1 l1 l2 n1 ga go => ?_
  have fl1 := FlowAt.mk0 ga rfl rfl go n1
  simp
  refine seg_ok' true false fl1 flOk0 fun A2 e2 => ?_
  have fl2 := fl1.extN e2
  simp
  refine accept_ok _ path b A2 _ h0 h1 rfl rfl rfl fun A3 pb ob e3 l3 l4 n2 gb gob => ?_
  have fl3 := fl2.extN e3
  have fm3 := FlowAt.mk0 gb rfl rfl gob n2
  simp
  refine seg_ok' true true fm3 flOk0 fun A4 e4 => ?_
  have fl4 := fl3.extN e4
  have fm4 := fm3.extN e4
  simp
  refine answered_ok pa _ _ A4 _ fl4.cells (fun _ _ _ _ _ A5 e5 g5 => ?_) fun q => ?_
  · have fl5 := fl4.cell e5 g5 rfl rfl
    have s12 := e1.size
    have s23 := e2.size
    have s34 := e3.size
    have b1 := fl2.lt
    have b2 := fl2.own (.inr rfl)
    have fm5 := fm4.ext e5 fun j hj q => by
      have := fl2.lt
      rcases hj with r | r <;> omega
    simp
    refine set_ok' 3 fl5 (by decide) (by decide) fun A6 fl6 e6 => ?_
    have fm6 := fm5.ext e6 fun j hj q => by
      rcases hj with r | r <;> rcases q with q | q <;> omega
    simp
    refine set_ok' 3 fm6 (by decide) (by decide) fun A7 fm7 e7 => ?_
    have fl7 := fl6.ext e7 fun j hj q => by
      rcases hj with r | r <;> rcases q with q | q <;> omega
    simp
    refine start_ok room false 0 r1 r2 fl7 fun A8 w i S8 _ fl8 e8 w8 => ?_
    have fm8 := fm7.ext e8 fun j hj q => by
      rcases hj with r | r <;> rcases q with q | q <;> omega
    simp
    refine start_ok room false 0 r1 r2 fm8 fun A9 w2 i2 S9 _ fm9 e9 w9 => ?_
    have fl9 := fl8.ext e9 fun j hj q => by
      have := fl8.own hj
      have k1 := fm7.own (.inl rfl)
      have k2 := fm7.own (.inr rfl)
      rcases w8 j hj with (r | r) | r <;> rcases q with q | q <;> omega
    simp
    refine flIn_ok fl9 ?_
    simp
    refine flIn_ok fm9 ?_
    simp
    have z56 := e5.size; have z67 := e6.size; have z78 := e7.size; have z89 := e8.size; have z45 := e4.size
    have k1 := fm7.own (.inl rfl)
    have k2 := fm7.own (.inr rfl)
    refine hq A9 pa pb _ _ S8 S9 fl9 fm9 ?_ ?_ ?_ ?_ ⟨rfl, ?_, rfl, rfl, rfl, rfl, rfl, rfl, rfl⟩ ⟨rfl, rfl, rfl, rfl, rfl, rfl, rfl, rfl, rfl⟩
    · refine ⟨by have := e9.size; omega, fun j hj _ => ?_⟩
      rw [e9.keep j (by omega) (fun q => by rcases q with q | q <;> omega), e8.keep j (by omega) (fun q => by rcases q with q | q <;> omega), e7.keep j (by omega) (fun q => by rcases q with q | q <;> omega), e6.keep j (by omega) (fun q => by rcases q with q | q <;> omega), e5.keep j (by omega) (fun q => by omega), e4.keep j (by omega) id, e3.keep j (by omega) id, e2.keep j (by omega) id, e1.keep j hj id]
    · intro j hj
      rcases w8 j hj with (r | r) | r <;> omega
    · intro j hj
      rcases w9 j hj with (r | r) | r <;> omega
    · intro j hj hj2
      have := fl8.own hj
      rcases w8 j hj with (r | r) | r <;> rcases w9 j hj2 with (q | q) | q <;> omega
    · rfl
  · exfalso
    exact q ⟨rfl, rfl, rfl, rfl, rfl⟩
end
end Go.Proofs.Ytidgbapgedegbaa.Fw
