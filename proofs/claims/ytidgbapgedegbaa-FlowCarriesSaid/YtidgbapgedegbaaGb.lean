/- A flow: what comes. -/
import Derived.Test.YtidgbapgedegbaaGa
import Derived.KernelRfl
namespace Go.Proofs.Ytidgbapgedegbaa.Fw
open Go Go.AS Ou
set_option maxRecDepth 100000
set_option linter.unusedSimpArgs false
set_option linter.unusedVariables false
attribute [local irreducible] Trie.set Trie.get Env.rd
attribute [local simp] Nat.add_assoc wD_cons'' wD_nil' wC_seq wC_ops wC_opsD_nil wC_cond wC_skip wC_ret wC_exit wC_block wO_cons' wO_nil wantedA wV_eq lop qop ev wL_some wL_none wPut envOf rd_set rd_leaf eqA thenC blockC wB_true wB_false endF unwindA resultsA resA tupleA rdCell rdCells wrCells cl fillP lay rep binA unA get_set' AHeap.get_alloc oneCell beqd bned idxA

section
variable {A : AHeap} {p : Nat} {f : Fl} {ps : List Pc} {en un : Int} {inl : Option IS} {S : Nat → Prop} {Q : Value → AHeap → Prop}

theorem Fl.cells_eq (f : Fl) : f.cells = [.int .u32 f.isn, .int .u32 f.peer, .int .i64 f.path, .int .i64 f.state, .int .u16 f.here, .int .u16 f.there, f.o, f.i, .bool f.fin, .bool f.fa, .bool f.ft] := rfl
theorem FlowAt.outv (h : FlowAt A p f ps en un inl S) : ∃ o v, f.o = .pointer (some ⟨o, 0, none⟩) ∧ A.get o = some (.cells [v, .int .i64 en, .int .i64 un] false 0) := by
  obtain ⟨o, So, Si, h1, h2, ⟨v, h3, _⟩, _⟩ := h; exact ⟨o, v, h2, h3⟩

theorem seg_ok' (syn ack : Bool) (h : FlowAt A p f ps en un inl S) (ok : FlOk ps en un) (hq : ∀ A', Ext NoB A A' → Q (.agg ⟨(segOf f en (inlN inl) syn ack).cells⟩) A') : wF T (.func (.func 43) #[] #[]) [.pointer (some ⟨p, 0, none⟩), .bool syn, .bool ack] A Q := by
  obtain ⟨o, v, h2, h3⟩ := h.outv
  exact seg_ok p o f v en un (inlN inl) syn ack A Q ⟨h.cells, h2, h3⟩ (by have := ok.u0; have := ok.ue; omega) ok.big (fun _ => h.inN) hq
theorem acks_ok' (x : Sg) (h : FlowAt A p f ps en un inl S) (ok : FlOk ps en un)
    (hq : ∀ A', Ext NoB A A' → Q (.bool (x.ackOn && decide (0 ≤ un + gap (num f.isn un) x.ack) && decide (un + gap (num f.isn un) x.ack ≤ if f.fin then en + 1 else en))) A') : wF T (.func (.func 44) #[] #[]) [.pointer (some ⟨p, 0, none⟩), .agg ⟨x.cells⟩] A Q := by
  obtain ⟨o, v, h2, h3⟩ := h.outv
  exact acks_ok p f x o v en un A Q h.cells h2 h3 ok.u0 ok.ue ok.big hq
theorem points_ok' (x : Sg) (h : FlowAt A p f ps en un inl S) (ok : FlOk ps en un)
    (hq : ∀ A', Ext NoB A A' → Q (.int .i64 (un + gap (num f.isn un) x.ack)) A') : wF T (.func (.func 104) #[] #[]) [.pointer (some ⟨p, 0, none⟩), .agg ⟨x.cells⟩] A Q := by
  obtain ⟨o, v, h2, h3⟩ := h.outv
  exact points_ok p f x o v en un A Q h.cells h2 h3 ok.u0 (by have := ok.ue; have := ok.big; omega) hq

def beg (f : Fl) (n : Int) (x : Sg) : Int := n + gap (num f.peer n) x.seq

theorem begins_ok (x : Sg) (h : FlowAt A p f ps en un inl S) (hb : 0 ≤ inlN inl ∧ inlN inl ≤ 2305843009213693952) (hq : ∀ A', Ext NoB A A' → Q (.int .i64 (beg f (inlN inl) x)) A') :
    wF T (.func (.func 107) #[] #[]) [.pointer (some ⟨p, 0, none⟩), .agg ⟨x.cells⟩] A Q := by
  have lt := h.lt
  refine wF_func (first := []) (captured := []) t107 ⟨rfl, by decide⟩ ?_
  dsimp only [c107]
  simp [h.cells, Fl.cells, show p ≠ A.size by omega]
  generalize hA1 : A.alloc _ = A1
  obtain ⟨g1, e1, z1⟩ := alloc_facts hA1
  refine h.inN A1 _ e1 ?_
  have gp := e1.get h.cells id
  simp
  refine wC_opsD_chk ?_
  simp [gp, Fl.cells]
  refine other_ok f.isn f.peer (inlN inl) A1 _ fun A2 e2 => ?_
  have g2 := e2.get g1 id
  simp [g2, Sg.cells]
  refine gap_ok _ _ _ _ ?_
  have w : IntKind.i64.wrap (inlN inl + gap (num f.peer (inlN inl)) x.seq) = beg f (inlN inl) x := by
    unfold beg gap; exact IntWalk.i64_in _ (by omega)
  simp [w]
  refine wE_intro ?_ ?_
  · simp only [List.all_cons, List.all_nil, chkOk, List.nil_append, List.cons_append, List.getElem?_cons_succ, List.getElem?_cons_zero]
    simp [Bx, g1, g2, vbeq, Sg.cells]
  simp
  exact hq A2 (e1.trans e2)

theorem finAt_ok (x : Sg) (h : FlowAt A p f ps en un inl S) (hb : 0 ≤ inlN inl ∧ inlN inl ≤ 2305843009213693952) (hx : x.data.data.toList.length < 1000000) (hq : ∀ A', Ext NoB A A' → Q (.int .i64 (if x.fin = true ∧ x.syn = false then max (-1) (beg f (inlN inl) x + x.data.data.toList.length) else -1)) A') :
    wF T (.func (.func 49) #[] #[]) [.pointer (some ⟨p, 0, none⟩), .agg ⟨x.cells⟩] A Q := by
  refine wF_func (first := []) (captured := []) t49 ⟨rfl, by decide⟩ ?_
  dsimp only [c49]
  have lt := h.lt
  cases hf : x.fin with
  | false =>
    simp [hf, undef]
    have := hq _ (Ext.alloc (x := .cells x.cells false 0))
    simpa [hf] using this
  | true =>
    cases hs : x.syn with
    | true =>
      simp [hf, hs, undef]
      have := hq _ (Ext.alloc (x := .cells x.cells false 0))
      simpa [hf, hs] using this
    | false =>
      simp [hf, hs, undef]
      generalize hA1 : A.alloc _ = A1
      obtain ⟨g1, e1, z1⟩ := alloc_facts hA1
      refine wC_opsD_chk ?_
      simp [g1]
      refine begins_ok x (h.extN e1) hb fun A2 e2 => ?_
      have g2 := e2.get g1 id
      have bb : -2147483648 ≤ beg f (inlN inl) x ∧ beg f (inlN inl) x < 2305843015000000000 := by unfold beg gap; omega
      have w : IntKind.i64.wrap (beg f (inlN inl) x + (x.data.data.toList.length : Int)) = beg f (inlN inl) x + x.data.data.toList.length := IntWalk.i64_in _ (by omega)
      have m1 : foldV maxV (.int .i64 (-1)) [.int .i64 (beg f (inlN inl) x + (x.data.data.toList.length : Int))] = some (.int .i64 (max (-1) (beg f (inlN inl) x + x.data.data.toList.length))) := by
        simp only [foldV, maxV]; congr 2; omega
      simp at w m1
      simp [g2, w, m1]
      refine wE_intro ?_ ?_
      · simp only [List.all_cons, List.all_nil, chkOk, List.nil_append, List.cons_append, List.getElem?_cons_succ, List.getElem?_cons_zero]
        simp [Bx, g1, g2, vbeq]
      have := hq A2 (e1.trans e2)
      simp [hf, hs] at this
      simp
      exact this

/-- What an inlet is behind bytes that came. -/
def putI (off : Int) (l : List UInt8) : Option IS → Option IS
  | none => none
  | some t => some { t with f := putB t.room t.base off l t.f }

theorem FlowAt.setIn {A' : AHeap} {t t' : IS} {i : Nat} {Si : Nat → Prop} (h : FlowAt A p f ps en un (some t) S) : True := trivial

theorem start_ok (room : Nat) (sums : Bool) (idsn : Int) (h1 : 1 ≤ room) (h2 : room ≤ 2048) (h : FlowAt A p f ps en un none S)
    (hq : ∀ A' w i S', f.i = .pointer none → FlowAt A' p { f with i := .pointer (some ⟨i, 0, none⟩) } ps en un (some ⟨room, 0, fun _ => none, [], sums, idsn⟩) S' → Ext S A A' → (∀ j, S' j → S j ∨ (A.size ≤ j ∧ j < A'.size)) → Q w A') :
    wF T (.func (.func 97) #[] #[]) [.pointer (some ⟨p, 0, none⟩), .int .i64 (room : Nat), .bool sums, .int .u64 idsn] A Q := by
  have lt := h.lt
  obtain ⟨o, So, Si, g1, g2, g3, g4, g5, g6, g7⟩ := h
  refine wF_func (first := []) (captured := []) t97 ⟨rfl, by decide⟩ ?_
  dsimp only [c97]
  simp
  refine inew_ok room sums idsn h1 h2 A _ fun A1 i e1 b1 hi => ?_
  have k1 := e1.get g1 id
  have l1 := AHeap.get_lt k1
  simp [k1, Fl.cells, l1]
  generalize hA2 : AHeap.set A1 p _ = A2
  obtain ⟨k2, e2, z2⟩ := Ou.set_facts l1 hA2
  have s1 := e1.size
  refine hq A2 _ i (fun j => S j ∨ (A.size ≤ j ∧ j < A2.size)) g4 ⟨o, So, fun j => A.size ≤ j ∧ j < A1.size, by rw [k2]; rfl, g2, (g3.ext e1 fun _ _ => id).ext e2 fun j hj q => g6.1 (q ▸ hj), ⟨i, rfl, hi.ext e2 fun j hj q => by omega⟩, ⟨.inl g5.1, fun j hj => .inl (g5.2.1 j hj), fun j hj => .inr ⟨hj.1, by omega⟩⟩, ⟨g6.1, fun q => by omega, fun j hj q => ?_⟩, fun j hj => ?_⟩ ((e1.mono fun _ _ q => q.elim).trans2 e2 fun j _ q => q ▸ g5.1) fun j hj => hj
  · have := g7 j (g5.2.1 j hj); omega
  · rcases hj with q | q
    · have := g7 j q; omega
    · exact q.2
end
end Go.Proofs.Ytidgbapgedegbaa.Fw
