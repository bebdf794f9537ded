/- FlowMeets of stage 26: the law. -/
import Derived.Test.YtkfhbpjnnpgenaaFd
import Derived.KernelRfl
namespace Go.Proofs.Ytkfhbpjnnpgenaa
open Go Go.AS
set_option maxRecDepth 100000
set_option linter.unusedSimpArgs false
set_option linter.unusedVariables false
attribute [local irreducible] Trie.set Trie.get Env.rd
attribute [local simp] Nat.add_assoc wD_cons'' wD_nil' wC_seq wC_ops wC_opsD_nil wC_cond wC_skip wC_ret wC_exit wC_block wO_cons' wO_nil wantedA wV_eq lop qop ev wL_some wL_none wPut envOf rd_set rd_leaf eqA thenC blockC wB_true wB_false endF unwindA resultsA resA tupleA rdCell rdCells wrCells cl fillP lay rep binA unA get_set' AHeap.get_alloc oneCell beqd bned

theorem put_ext {A : AHeap} {x y : ABlk} : Ext NoB A ((A.alloc x).set A.size y) := (Ext.alloc (S := NoB)).trans2 (Ext.set (S := fun j => j = A.size) rfl) fun j hj q => by omega
theorem put_get {A : AHeap} {x y : ABlk} : ((A.alloc x).set A.size y).get A.size = some y := by simp
theorem fits_t (p : Nat) (f : Fl) (x : Sg) (A : AHeap) (Q : Value → AHeap → Prop) (hf : A.get p = some (.cells f.cells false 0)) (h1 : x.path = f.path) (h2 : x.src = f.there) (h3 : x.dst = f.here) (hq : ∀ A', Ext NoB A A' → Q (.bool true) A') : wF T (.func (.func 11) #[] #[]) [.pointer (some ⟨p, 0, none⟩), .agg ⟨x.cells⟩] A Q :=
  fits_ok p f x A Q hf fun A' e => by simpa [h1, h2, h3] using hq A' e
theorem fits_f (p : Nat) (f : Fl) (x : Sg) (A : AHeap) (Q : Value → AHeap → Prop) (hf : A.get p = some (.cells f.cells false 0)) (h : x.path ≠ f.path ∨ x.src ≠ f.there ∨ x.dst ≠ f.here) (hq : ∀ A', Ext NoB A A' → Q (.bool false) A') : wF T (.func (.func 11) #[] #[]) [.pointer (some ⟨p, 0, none⟩), .agg ⟨x.cells⟩] A Q :=
  fits_ok p f x A Q hf fun A' e => by
    have : (decide (x.path = f.path) && decide (x.src = f.there) && decide (x.dst = f.here)) = false := by
      rcases h with h | h | h <;> simp [h]
    rw [this]; exact hq A' e

theorem meets_law (a b path by' : Int) (A0 : AHeap) (ha : 0 ≤ a ∧ a < 4294967296) (hb : 0 ≤ b ∧ b < 4294967296) (hp : 0 ≤ path ∧ path < 256) (hby : 0 ≤ by' ∧ by' < 4294967296) : wF T (.func (.func 3) #[] #[]) [.agg ⟨[.int .u32 a, .int .u32 b]⟩, .int .u8 path, .int .u32 by'] A0 (fun v _ => v = .bool true) := by
  refine wF_func (first := []) (captured := []) t3 ⟨rfl, by decide⟩ ?_
  dsimp only [c3]; simp
  generalize hH : AHeap.alloc A0 _ = A
  have g3 := get_alloc_top (A := A0) (x := .cells [.int .u32 a, .int .u32 b] false 0) rfl
  rw [hH] at g3
  generalize A0.size = d3 at *
  have hd3 := AHeap.get_lt g3
  refine yes_ok _ _ ?_
  have w1 : IntKind.i64.wrap (path.tmod 4) = path % 4 := by rw [Int.tmod_eq_emod_of_nonneg hp.1, IntKind.wrap_i64]; omega
  simp [g3, w1, idxA]
  have p0 : 0 ≤ path % 4 ∧ path % 4 < 4 := by omega
  have w2 : (IntKind.i64.wrap (path % 4 + 1)).tmod 4 = (path % 4 + 1) % 4 := by
    have : IntKind.i64.wrap (path % 4 + 1) = path % 4 + 1 := by rw [IntKind.wrap_i64]; omega
    rw [this, Int.tmod_eq_emod_of_nonneg (by omega)]
  have pn : (path % 4 + 1) % 4 ≠ path % 4 := by omega
  have pn0 : 0 ≤ (path % 4 + 1) % 4 ∧ (path % 4 + 1) % 4 < 4 := by omega
  generalize path % 4 = p at *
  refine open_ok p a A _ p0.1 p0.2 fun A1 pa oa e1 l1 l2 n1 ga go => ?_
  generalize hfa : (⟨a, 0, p, 0, 1000 + p, 2000 + p, .pointer (some ⟨oa, 0, none⟩), .pointer none, false, false, false⟩ : Fl) = fa at ga
  have fao : fa.o = .pointer (some ⟨oa, 0, none⟩) := by rw [← hfa]
  have fai : fa.i = .pointer none := by rw [← hfa]
  have g3 := e1.get g3 fun q => q
  simp
  refine seg_ok pa oa fa _ 0 0 0 true false A1 _ ⟨ga, fao, go⟩ (by decide) (by decide) (fun h => by cases h) fun A2 e2 => ?_
  have g3 := e2.get g3 fun q => q
  have ga := e2.get ga fun q => q
  have go := e2.get go fun q => q
  generalize hs1 : segOf fa 0 0 true false = s1
  have z3 := AHeap.get_lt g3
  have za := AHeap.get_lt ga
  simp [g3, idxA, show d3 ≠ A2.size by omega]
  generalize hA3 : AHeap.set (A2.alloc _) A2.size _ = A3
  have e3 : Ext NoB A2 A3 := hA3 ▸ put_ext
  have g9 : A3.get A2.size = some (.cells s1.cells false 0) := hA3 ▸ put_get
  generalize A2.size = d9 at *
  have g3 := e3.get g3 fun q => q
  have ga := e3.get ga fun q => q
  have go := e3.get go fun q => q
  have za3 := AHeap.get_lt ga
  have zo3 := AHeap.get_lt go
  refine accept_ok s1 p b A3 _ p0.1 p0.2 (by rw [← hs1]; rfl) (by rw [← hs1]; rfl) (by rw [← hs1]; rfl) fun A4 pb ob e4 l3 l4 n2 gb gob => ?_
  generalize hfb : (⟨b, s1.seq, p, 1, 2000 + p, 1000 + p, .pointer (some ⟨ob, 0, none⟩), .pointer none, false, false, false⟩ : Fl) = fb at gb
  have fbo : fb.o = .pointer (some ⟨ob, 0, none⟩) := by rw [← hfb]
  have fbi : fb.i = .pointer none := by rw [← hfb]
  have g3 := e4.get g3 fun q => q
  have ga := e4.get ga fun q => q
  have go := e4.get go fun q => q
  have g9 := e4.get g9 fun q => q
  simp [g3, idxA, w2]
  refine open_ok _ a A4 _ pn0.1 pn0.2 fun A5 pc oc e5 l5 l6 n3 gc goc => ?_
  generalize hfc : (⟨a, 0, (p + 1) % 4, 0, 1000 + (p + 1) % 4, 2000 + (p + 1) % 4, .pointer (some ⟨oc, 0, none⟩), .pointer none, false, false, false⟩ : Fl) = fc at gc
  have g3 := e5.get g3 fun q => q
  have ga := e5.get ga fun q => q
  have go := e5.get go fun q => q
  have g9 := e5.get g9 fun q => q
  have gb := e5.get gb fun q => q
  have gob := e5.get gob fun q => q
  simp
  refine seg_ok pb ob fb _ 0 0 0 true true A5 _ ⟨gb, fbo, gob⟩ (by decide) (by decide) (fun _ A' Q' _ hq => by rw [fbi]; exact inN_nil _ _ hq) fun A6 e6 => ?_
  have g3 := e6.get g3 fun q => q
  have ga := e6.get ga fun q => q
  have go := e6.get go fun q => q
  have g9 := e6.get g9 fun q => q
  have gb := e6.get gb fun q => q
  have gob := e6.get gob fun q => q
  have gc := e6.get gc fun q => q
  generalize hs2 : segOf fb 0 0 true true = s2
  have za6 := AHeap.get_lt ga
  have zb6 := AHeap.get_lt gb
  have n9 : d9 < A6.size := AHeap.get_lt g9
  generalize hw5 : IntKind.u32.wrap (IntKind.u32.wrap (s2.ack + 1) + by'.tmod 4294967295) = k5
  simp [g9, hw5, show d9 ≠ A6.size by omega, show d9 ≠ A6.size + 1 by omega, show d9 ≠ A6.size + 2 by omega]
  generalize hA7 : AHeap.set _ (A6.size + 2) _ = A7
  have e7 : Ext NoB A6 A7 := ⟨by rw [← hA7]; simp, fun j hj _ => by rw [← hA7]; simp [show j ≠ A6.size by omega, show j ≠ A6.size + 1 by omega, show j ≠ A6.size + 2 by omega]⟩
  have g12 : A7.get A6.size = some (.cells s2.cells false 0) := by rw [← hA7]; simp
  have g13 : A7.get (A6.size + 1) = some (.cells ({ s2 with ack := k5 } : Sg).cells false 0) := by rw [← hA7]; simp
  have g14 : A7.get (A6.size + 2) = some (.cells ({ s2 with ackOn := false } : Sg).cells false 0) := by rw [← hA7]; simp
  have g3 := e7.get g3 fun q => q
  have ga := e7.get ga fun q => q
  have go := e7.get go fun q => q
  have g9 := e7.get g9 fun q => q
  have gb := e7.get gb fun q => q
  have gob := e7.get gob fun q => q
  have gc := e7.get gc fun q => q
  clear hA7
  refine fits_t pb fb s1 A7 _ gb (by rw [← hs1, ← hfb, ← hfa]; rfl) (by rw [← hs1, ← hfb, ← hfa]; rfl) (by rw [← hs1, ← hfb, ← hfa]; rfl) fun A8 e8 => ?_
  have g3 := e8.get g3 fun q => q
  have ga := e8.get ga fun q => q
  have go := e8.get go fun q => q
  have g9 := e8.get g9 fun q => q
  have gb := e8.get gb fun q => q
  have gob := e8.get gob fun q => q
  have gc := e8.get gc fun q => q
  have g12 := e8.get g12 fun q => q
  have g13 := e8.get g13 fun q => q
  have g14 := e8.get g14 fun q => q
  simp [g3, ga, g9, gb, g12, g13, g14, idxA]
  refine fits_t pa fa s2 _ _ ga (by rw [← hs2, ← hfb, ← hfa]; rfl) (by rw [← hs2, ← hfb, ← hfa]; rfl) (by rw [← hs2, ← hfb, ← hfa]; rfl) fun A9 e9 => ?_
  have g3 := e9.get g3 fun q => q
  have ga := e9.get ga fun q => q
  have go := e9.get go fun q => q
  have g9 := e9.get g9 fun q => q
  have gb := e9.get gb fun q => q
  have gob := e9.get gob fun q => q
  have gc := e9.get gc fun q => q
  have g12 := e9.get g12 fun q => q
  have g13 := e9.get g13 fun q => q
  have g14 := e9.get g14 fun q => q
  simp [g3, ga, g9, gb, g12, g13, g14, idxA]
  refine fits_f pc fc s2 _ _ gc (.inl (by rw [← hs2, ← hfb, ← hfc]; exact fun q => pn q.symm)) fun A10 e10 => ?_
  have g3 := e10.get g3 fun q => q
  have ga := e10.get ga fun q => q
  have go := e10.get go fun q => q
  have g9 := e10.get g9 fun q => q
  have gb := e10.get gb fun q => q
  have gob := e10.get gob fun q => q
  have gc := e10.get gc fun q => q
  have g12 := e10.get g12 fun q => q
  have g13 := e10.get g13 fun q => q
  have g14 := e10.get g14 fun q => q
  simp [g3, ga, g9, gb, g12, g13, g14, idxA]
  refine fits_f pa fa s1 _ _ ga (.inr (.inl (by rw [← hs1, ← hfa]; simp only [segOf]; omega))) fun A11 e11 => ?_
  have g3 := e11.get g3 fun q => q
  have ga := e11.get ga fun q => q
  have go := e11.get go fun q => q
  have g9 := e11.get g9 fun q => q
  have gb := e11.get gb fun q => q
  have gob := e11.get gob fun q => q
  have gc := e11.get gc fun q => q
  have g12 := e11.get g12 fun q => q
  have g13 := e11.get g13 fun q => q
  have g14 := e11.get g14 fun q => q
  have sA : s2.ack = (a + 1) % 4294967296 := by rw [← hs2, ← hfb, ← hs1, ← hfa]; exact congrArg (· % 4294967296) (Int.add_zero _)
  have kA : k5 ≠ num fa.isn 0 := by
    rw [← hw5, ← hfa, sA, Int.tmod_eq_emod_of_nonneg hby.1, IntKind.wrap_u32, IntKind.wrap_u32]
    unfold num
    simp only [Int.add_zero]
    omega
  have no13 : ¬ (fa.state = 0 ∧ ({ s2 with ack := k5 } : Sg).syn = true ∧ ({ s2 with ack := k5 } : Sg).ackOn = true ∧ ({ s2 with ack := k5 } : Sg).rst = false ∧ ({ s2 with ack := k5 } : Sg).ack = num fa.isn 0) := fun q => kA q.2.2.2.2
  have no14 : ¬ (fa.state = 0 ∧ ({ s2 with ackOn := false } : Sg).syn = true ∧ ({ s2 with ackOn := false } : Sg).ackOn = true ∧ ({ s2 with ackOn := false } : Sg).rst = false ∧ ({ s2 with ackOn := false } : Sg).ack = num fa.isn 0) := fun q => by cases q.2.2.1
  have no1 : ¬ (fa.state = 0 ∧ s1.syn = true ∧ s1.ackOn = true ∧ s1.rst = false ∧ s1.ack = num fa.isn 0) := fun q => by
    have := q.2.2.1
    rw [← hs1] at this
    cases this
  have nob : ¬ (fb.state = 0 ∧ s2.syn = true ∧ s2.ackOn = true ∧ s2.rst = false ∧ s2.ack = num fb.isn 0) := fun q => by
    have := q.1
    rw [← hfb] at this
    cases this
  simp [g3, ga, g9, gb, g12, g13, g14, idxA]
  refine answered_ok pa fa { s2 with ack := k5 } _ _ ga (fun q1 q2 q3 q4 q5 => absurd ⟨q1, q2, q3, q4, q5⟩ no13) fun _ A12 e12 => ?_
  have g3 := e12.get g3 fun q => q
  have ga := e12.get ga fun q => q
  have go := e12.get go fun q => q
  have g9 := e12.get g9 fun q => q
  have gb := e12.get gb fun q => q
  have gob := e12.get gob fun q => q
  have gc := e12.get gc fun q => q
  have g12 := e12.get g12 fun q => q
  have g13 := e12.get g13 fun q => q
  have g14 := e12.get g14 fun q => q
  simp [g3, ga, g9, gb, g12, g13, g14, idxA]
  refine answered_ok pa fa { s2 with ackOn := false } _ _ ga (fun q1 q2 q3 q4 q5 => absurd ⟨q1, q2, q3, q4, q5⟩ no14) fun _ A13 e13 => ?_
  have g3 := e13.get g3 fun q => q
  have ga := e13.get ga fun q => q
  have go := e13.get go fun q => q
  have g9 := e13.get g9 fun q => q
  have gb := e13.get gb fun q => q
  have gob := e13.get gob fun q => q
  have gc := e13.get gc fun q => q
  have g12 := e13.get g12 fun q => q
  have g13 := e13.get g13 fun q => q
  have g14 := e13.get g14 fun q => q
  simp [g3, ga, g9, gb, g12, g13, g14, idxA]
  refine answered_ok pa fa s1 _ _ ga (fun q1 q2 q3 q4 q5 => absurd ⟨q1, q2, q3, q4, q5⟩ no1) fun _ A14 e14 => ?_
  have g3 := e14.get g3 fun q => q
  have ga := e14.get ga fun q => q
  have go := e14.get go fun q => q
  have g9 := e14.get g9 fun q => q
  have gb := e14.get gb fun q => q
  have gob := e14.get gob fun q => q
  have gc := e14.get gc fun q => q
  have g12 := e14.get g12 fun q => q
  have g13 := e14.get g13 fun q => q
  have g14 := e14.get g14 fun q => q
  simp [g3, ga, g9, gb, g12, g13, g14, idxA]
  refine answered_ok pa fa s2 _ _ ga (fun _ _ _ _ _ A15 e15 ga' => ?_) (fun q => absurd ⟨by rw [← hfa], by rw [← hs2]; rfl, by rw [← hs2]; rfl, by rw [← hs2]; rfl, by rw [sA, ← hfa]; simp [num]⟩ q)
  have g3 := e15.get g3 (show ¬ d3 = pa by omega)
  have go := e15.get go (show ¬ oa = pa by omega)
  have g9 := e15.get g9 (show ¬ d9 = pa by omega)
  have gb := e15.get gb (show ¬ pb = pa by omega)
  have gob := e15.get gob (show ¬ ob = pa by omega)
  have g12 := e15.get g12 (show ¬ A6.size = pa by omega)
  clear ga
  have hfa' : (⟨a, b, p, 0, 1000 + p, 2000 + p, .pointer (some ⟨oa, 0, none⟩), .pointer none, false, false, false⟩ : Fl) = { fa with peer := s2.seq } := by rw [← hs2, ← hfb, ← hfa]; rfl
  rw [← hfa'] at ga'
  clear hfa'
  generalize hf2 : (⟨a, b, p, 0, 1000 + p, 2000 + p, .pointer (some ⟨oa, 0, none⟩), .pointer none, false, false, false⟩ : Fl) = f2 at ga'
  simp [g3, ga', g9, gb, g12, idxA]
  refine answered_ok pb fb s2 _ _ gb (fun q1 q2 q3 q4 q5 => absurd ⟨q1, q2, q3, q4, q5⟩ nob) fun _ A16 e16 => ?_
  have g3 := e16.get g3 fun q => q
  have ga' := e16.get ga' fun q => q
  have go := e16.get go fun q => q
  have g9 := e16.get g9 fun q => q
  have gb := e16.get gb fun q => q
  have gob := e16.get gob fun q => q
  have g12 := e16.get g12 fun q => q
  simp [g3, ga', g9, gb, g12, idxA]
  refine seg_ok pa oa f2 _ 0 0 0 false true A16 _ ⟨ga', by rw [← hf2], go⟩ (by decide) (by decide) (fun _ A' Q' _ hq => by rw [← hf2]; exact inN_nil _ _ hq) fun A17 e17 => ?_
  have g3 := e17.get g3 fun q => q
  have ga' := e17.get ga' fun q => q
  have go := e17.get go fun q => q
  have g9 := e17.get g9 fun q => q
  have gb := e17.get gb fun q => q
  have gob := e17.get gob fun q => q
  have g12 := e17.get g12 fun q => q
  generalize hs3 : segOf f2 0 0 false true = s3
  have np17 : pb ≠ A17.size := by have := AHeap.get_lt gb; omega
  simp [g3, ga', g9, gb, g12, idxA]
  generalize hA18 : AHeap.set (A17.alloc _) A17.size _ = A18
  have e18 : Ext NoB A17 A18 := hA18 ▸ put_ext
  have g15 : A18.get A17.size = some (.cells s3.cells false 0) := hA18 ▸ put_get
  clear hA18
  have g3 := e18.get g3 fun q => q
  have ga' := e18.get ga' fun q => q
  have go := e18.get go fun q => q
  have g9 := e18.get g9 fun q => q
  have gb := e18.get gb fun q => q
  have gob := e18.get gob fun q => q
  have g12 := e18.get g12 fun q => q
  have k1 : s3.ack = (b + 1) % 4294967296 := by rw [← hs3, ← hf2]; exact congrArg (· % 4294967296) (Int.add_zero _)
  have k2 : s3.seq = (a + 1) % 4294967296 := by rw [← hs3, ← hf2]; exact congrArg (· % 4294967296) (Int.add_zero _)
  have k3 : IntKind.u32.wrap (b + 1) = (b + 1) % 4294967296 := IntKind.wrap_u32 _
  have k4 : IntKind.u32.wrap (a + 1) = (a + 1) % 4294967296 := IntKind.wrap_u32 _
  have k5' : s3.ackOn = true := by rw [← hs3]; rfl
  have k6 : fb.isn = b := by rw [← hfb]
  have k7 : fb.fin = false := by rw [← hfb]
  have k8 : s1.ackOn = false := by rw [← hs1]; rfl
  have k9 : (0 : Int) + gap (num fb.isn 0) s3.ack = 0 := by rw [k1, k6]; unfold gap num; rw [Int.add_zero]; omega
  refine acks_ok pb fb s3 ob _ 0 0 _ _ gb fbo gob (by decide) (by decide) (by decide) fun A19 e19 => ?_
  have g3 := e19.get g3 fun q => q
  have ga' := e19.get ga' fun q => q
  have go := e19.get go fun q => q
  have g9 := e19.get g9 fun q => q
  have gb := e19.get gb fun q => q
  have gob := e19.get gob fun q => q
  have g12 := e19.get g12 fun q => q
  have g15 := e19.get g15 fun q => q
  rw [k9]
  simp [g3, ga', g9, gb, g12, g15, idxA, k1, k2, k3, k4, k5', k7]
  refine acks_ok pb fb s1 ob _ 0 0 _ _ gb fbo gob (by decide) (by decide) (by decide) fun A20 e20 => ?_
  have g3 := e20.get g3 fun q => q
  have ga' := e20.get ga' fun q => q
  have go := e20.get go fun q => q
  have g9 := e20.get g9 fun q => q
  have gb := e20.get gb fun q => q
  have gob := e20.get gob fun q => q
  have g12 := e20.get g12 fun q => q
  have g15 := e20.get g15 fun q => q
  simp [g3, ga', g9, gb, g12, g15, idxA, k1, k2, k3, k4, k8, sA]
  have f2s : f2.state = 0 := by rw [← hf2]
  have fbs : fb.state = 1 := by rw [← hfb]
  refine state_ok pa f2 _ _ ga' ?_
  simp [f2s]
  refine state_ok pb fb _ _ gb ?_
  simp [fbs]
  refine set_ok pa f2 3 _ _ ga' (by decide) (by decide) ?_
  have zp := AHeap.get_lt ga'
  simp [g12, show A6.size ≠ pa by omega]
  refine answered_ok pa { f2 with state := 3 } s2 _ _ (by simp [zp]) (fun q _ _ _ _ => by cases q) fun _ A21 e21 => ?_
  simp
end Go.Proofs.Ytkfhbpjnnpgenaa
