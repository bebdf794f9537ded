/- Contracts of flows. -/
import Derived.Test.YtidgbapgedegbaaFc
import Derived.KernelRfl
namespace Go.Proofs.Ytidgbapgedegbaa.Fw
open Go Go.AS
set_option maxRecDepth 100000
set_option linter.unusedSimpArgs false
set_option linter.unusedVariables false
attribute [local irreducible] Trie.set Trie.get Env.rd
attribute [local simp] Nat.add_assoc wD_cons'' wD_nil' wC_seq wC_ops wC_opsD_nil wC_cond wC_skip wC_ret wC_exit wC_block wO_cons' wO_nil wantedA wV_eq lop qop ev wL_some wL_none wPut envOf rd_set rd_leaf eqA thenC blockC wB_true wB_false endF unwindA resultsA resA tupleA rdCell rdCells wrCells cl fillP lay rep binA unA get_set' AHeap.get_alloc oneCell beqd bned

def sq (A : AHeap) (p o : Nat) (f : Fl) (due : Value) (en un : Int) : Prop := A.get p = some (.cells f.cells false 0) ∧ f.o = .pointer (some ⟨o, 0, none⟩) ∧ A.get o = some (.cells [due, .int .i64 en, .int .i64 un] false 0)

theorem wrap_u16' (n : Int) : IntKind.u16.wrap n = n % 65536 := by simp [IntKind.wrap, IntKind.bits, IntKind.signed]

theorem made_ok (path state here there isn peer : Int) (A : AHeap) (Q : Value → AHeap → Prop) (h0 : 0 ≤ path) (h1 : path < 4) (h2 : 0 ≤ here) (h3 : here < 60000) (h4 : 0 ≤ there) (h5 : there < 60000)
    (hq : ∀ A' p o, Ext NoB A A' → A.size ≤ p → A.size ≤ o → o ≠ p → A'.get p = some (.cells (⟨isn, peer, path, state, here + path, there + path, .pointer (some ⟨o, 0, none⟩), .pointer none, false, false, false⟩ : Fl).cells false 0) → A'.get o = some (.cells [.slice none 0 0, .int .i64 0, .int .i64 0] false 0) → Q (.pointer (some ⟨p, 0, none⟩)) A') :
    wF T (.func (.func 132) #[] #[]) [.int .i64 path, .int .i64 state, .int .i64 here, .int .i64 there, .agg ⟨[.int .u32 isn, .int .u32 peer]⟩] A Q := by
  refine wF_func (first := []) (captured := []) t132 ⟨rfl, by decide⟩ ?_
  have g0 : ¬ path < 0 := by omega
  have g1 : ¬ (4 : Int) ≤ path := by omega
  have w1 : IntKind.u16.wrap (IntKind.i64.wrap (here + path)) = here + path := by rw [IntKind.wrap_i64, wrap_u16']; omega
  have w2 : IntKind.u16.wrap (IntKind.i64.wrap (there + path)) = there + path := by rw [IntKind.wrap_i64, wrap_u16']; omega
  dsimp only [c132]
  simp [g0, g1]
  refine wC_opsD_chk ?_
  simp [w1, w2]
  refine onew_ok _ _ ?_
  simp
  refine wE_intro ?_ ?_
  · simp only [List.all_cons, List.all_nil, chkOk, List.nil_append, List.cons_append, List.getElem?_cons_succ, List.getElem?_cons_zero]
    simp [Bx, vbeq, vbeq.vbeqs]
  · simp
    refine hq _ (A.size + 2) (A.size + 1) (((Ext.alloc).trans Ext.alloc).trans Ext.alloc) (by omega) (by omega) (by omega) ?_ ?_
    · simp [Fl.cells]
    · simp

theorem open_ok (path isn : Int) (A : AHeap) (Q : Value → AHeap → Prop) (h0 : 0 ≤ path) (h1 : path < 4)
    (hq : ∀ A' p o, Ext NoB A A' → A.size ≤ p → A.size ≤ o → o ≠ p → A'.get p = some (.cells (⟨isn, 0, path, 0, 1000 + path, 2000 + path, .pointer (some ⟨o, 0, none⟩), .pointer none, false, false, false⟩ : Fl).cells false 0) → A'.get o = some (.cells [.slice none 0 0, .int .i64 0, .int .i64 0] false 0) → Q (.pointer (some ⟨p, 0, none⟩)) A') :
    wF T (.func (.func 94) #[] #[]) [.int .i64 path, .int .u32 isn] A Q := by
  refine wF_func (first := []) (captured := []) t94 ⟨rfl, by decide⟩ ?_
  dsimp only [c94]; simp
  refine made_ok path 0 1000 2000 isn 0 A _ h0 h1 (by decide) (by decide) (by decide) (by decide) fun A' p o e p1 p2 p3 p4 p5 => ?_
  simp
  exact hq A' p o e p1 p2 p3 p4 p5

theorem accept_ok (x : Sg) (path isn : Int) (A : AHeap) (Q : Value → AHeap → Prop) (h0 : 0 ≤ path) (h1 : path < 4) (x1 : x.syn = true) (x2 : x.ackOn = false) (x3 : x.rst = false)
    (hq : ∀ A' p o, Ext NoB A A' → A.size ≤ p → A.size ≤ o → o ≠ p → A'.get p = some (.cells (⟨isn, x.seq, path, 1, 2000 + path, 1000 + path, .pointer (some ⟨o, 0, none⟩), .pointer none, false, false, false⟩ : Fl).cells false 0) → A'.get o = some (.cells [.slice none 0 0, .int .i64 0, .int .i64 0] false 0) → Q (.pointer (some ⟨p, 0, none⟩)) A') :
    wF T (.func (.func 95) #[] #[]) [.agg ⟨x.cells⟩, .int .i64 path, .int .u32 isn] A Q := by
  refine wF_func (first := []) (captured := []) t95 ⟨rfl, by decide⟩ ?_
  dsimp only [c95]; simp [Sg.cells, x1, x2, x3]
  generalize hH : AHeap.alloc A _ = H
  have e : Ext NoB A H := hH ▸ Ext.alloc
  refine made_ok path 1 2000 1000 isn x.seq H _ h0 h1 (by decide) (by decide) (by decide) (by decide) fun A' p o e2 p1 p2 p3 p4 p5 => ?_
  have z := e.size
  simp
  exact hq A' p o (e.trans e2) (by omega) (by omega) p3 p4 p5

theorem inN_nil (A : AHeap) (Q : Value → AHeap → Prop) (hq : Q (.int .i64 0) A) : wF T (.func (.func 35) #[] #[]) [.pointer none] A Q := by
  refine wF_func (first := []) (captured := []) t35 ⟨rfl, by decide⟩ ?_
  dsimp only [c35]; simp
  exact hq

def segOf (f : Fl) (en n : Int) (syn ack : Bool) : Sg := ⟨f.path, f.here, f.there, if syn then f.isn else num f.isn (if f.fin then en + 1 else en), if ack then (if f.ft then (num f.peer n + 1) % 4294967296 else num f.peer n) else 0, syn, ack, false, false, 0, ⟨⟨[]⟩⟩, ⟨⟨[]⟩⟩⟩

theorem seg_ok (p o : Nat) (f : Fl) (due : Value) (en un n : Int) (syn ack : Bool) (A : AHeap) (Q : Value → AHeap → Prop) (hs : sq A p o f due en un) (h0 : 0 ≤ en) (h1 : en < 1000000000) (hn : ack = true → ∀ A' Q', Ext NoB A A' → Q' (.int .i64 n) A' → wF T (.func (.func 35) #[] #[]) [f.i] A' Q')
    (hq : ∀ A', Ext NoB A A' → Q (.agg ⟨(segOf f en n syn ack).cells⟩) A') : wF T (.func (.func 43) #[] #[]) [.pointer (some ⟨p, 0, none⟩), .bool syn, .bool ack] A Q := by
  obtain ⟨hf, ho, ho2⟩ := hs
  refine wF_func (first := []) (captured := []) t43 ⟨rfl, by decide⟩ ?_
  have z := AHeap.get_lt hf
  have np : p ≠ A.size := by omega
  have z2 := AHeap.get_lt ho2
  have no : o ≠ A.size := by omega
  dsimp only [c43]; simp
  refine wC_opsD_chk ?_
  simp [hf, np, np.symm, Fl.cells]
  generalize hH : AHeap.alloc A _ = H
  have e : Ext NoB A H := hH ▸ Ext.alloc
  have zH : H.size = A.size + 1 := by rw [← hH]; rfl
  have gx := get_alloc_top (A := A) (x := .cells [.int .i64 0, .int .u16 0, .int .u16 0, .int .u32 0, .int .u32 0, .bool false, .bool false, .bool false, .bool false, .int .u16 0, .string ⟨⟨[]⟩⟩, .string ⟨⟨[]⟩⟩] false 0) rfl
  rw [hH] at gx
  have gf := e.get hf fun q => q
  refine fend_ok p f o due en un _ _ gf ho (e.get ho2 fun q => q) h0 h1 ?_
  simp
  refine own_ok _ _ _ _ _ fun A2 e2 => ?_
  have gf2 := e2.get gf fun q => q
  have gx2 := e2.get gx fun q => q
  have zx2 := AHeap.get_lt gx2
  simp [gx2, zx2]
  refine wE_intro ?_ ?_
  · simp only [List.all_cons, List.all_nil, chkOk, List.nil_append, List.cons_append, List.getElem?_cons_succ, List.getElem?_cons_zero]
    simp [Bx, gf, gf2, gx2, vbeq, vbeq.vbeqs, Fl.cells, np, np.symm, zx2]
  · have e4 : Ext NoB A (A2.set A.size (.cells [.int .i64 f.path, .int .u16 f.here, .int .u16 f.there, .int .u32 (num f.isn (if f.fin then en + 1 else en)), .int .u32 0, .bool syn, .bool ack, .bool false, .bool false, .int .u16 0, .string ⟨⟨[]⟩⟩, .string ⟨⟨[]⟩⟩] false 0)) := (e.trans e2).trans2 (Ext.set (S := fun j => j = A.size) rfl) fun j hj q => by omega
    generalize hA4 : A2.set A.size _ = A4 at e4 ⊢
    have gx4 : A4.get A.size = some (.cells [.int .i64 f.path, .int .u16 f.here, .int .u16 f.there, .int .u32 (num f.isn (if f.fin then en + 1 else en)), .int .u32 0, .bool syn, .bool ack, .bool false, .bool false, .int .u16 0, .string ⟨⟨[]⟩⟩, .string ⟨⟨[]⟩⟩] false 0) := by rw [← hA4]; simp [zx2]
    have gf4 := e4.get hf fun q => q
    have zx4 := AHeap.get_lt gx4
    have ex : ∀ (A5 : AHeap) (c d : ABlk), Ext NoB A4 A5 → Ext NoB A ((A5.set A.size c).set A.size d) := fun A5 c d h => (e4.trans h).trans2 ((Ext.set (S := fun j => j = A.size) rfl).trans (Ext.set rfl)) fun j hj q => by omega
    have ex1 : ∀ (A5 : AHeap) (c : ABlk), Ext NoB A4 A5 → Ext NoB A (A5.set A.size c) := fun A5 c h => (e4.trans h).trans2 (Ext.set (S := fun j => j = A.size) rfl) fun j hj q => by omega
    have fin : ∀ (A5 : AHeap) (q : Int) (env : Env) , Ext NoB A A5 → A5.get p = some (.cells f.cells false 0) → A5.get A.size = some (.cells [.int .i64 f.path, .int .u16 f.here, .int .u16 f.there, .int .u32 q, .int .u32 0, .bool syn, .bool ack, .bool false, .bool false, .int .u16 0, .string ⟨⟨[]⟩⟩, .string ⟨⟨[]⟩⟩] false 0) → q = (if syn then f.isn else num f.isn (if f.fin then en + 1 else en)) →
        Env.rd env 0 = .pointer (some ⟨p, 0, none⟩) → Env.rd env 2 = .bool ack → Env.rd env 6 = .pointer (some ⟨A.size, 0, none⟩) → wC T 9 none c43t ⟨env, 63, [], A5⟩ (endF [.inr (6, 12, true)] Q) := by
      intro A5 q env e5 gf5 gx5 hqq r0 r2 r6
      unfold c43t
      have ex5 : ∀ c : ABlk, Ext NoB A (A5.set A.size c) := fun c => e5.trans2 (Ext.set (S := fun j => j = A.size) rfl) fun j hj q => by omega
      have zx5 := AHeap.get_lt gx5
      cases ack
      · have hqa : segOf f en n syn false = ⟨f.path, f.here, f.there, q, 0, syn, false, false, false, 0, ⟨⟨[]⟩⟩, ⟨⟨[]⟩⟩⟩ := by rw [hqq]; rfl
        rw [hqa] at hq
        simp [r0, r2, r6, gx5, zx5, undef]
        exact hq _ (ex5 _)
      · simp [r0, r2]
        refine wC_opsD_chk ?_
        simp [gf5, gx5, r0, r6, Fl.cells]
        refine hn rfl _ _ e5 ?_
        simp
        refine other_ok _ _ _ _ _ fun A6 e6 => ?_
        have gf6 := e6.get gf5 fun q => q
        have gx6 := e6.get gx5 fun q => q
        have zx6 := AHeap.get_lt gx6
        have ex6 : ∀ c d : ABlk, Ext NoB A ((A6.set A.size c).set A.size d) := fun c d => (e5.trans e6).trans2 ((Ext.set (S := fun j => j = A.size) rfl).trans (Ext.set rfl)) fun j hj q => by omega
        have ex7 : ∀ c d g : ABlk, Ext NoB A (((A6.set A.size c).set A.size d).set A.size g) := fun c d g => (e5.trans e6).trans2 (((Ext.set (S := fun j => j = A.size) rfl).trans (Ext.set rfl)).trans (Ext.set rfl)) fun j hj q => by omega
        simp [gx6, gf6, zx6, r6]
        refine wE_intro ?_ ?_
        · simp only [List.all_cons, List.all_nil, chkOk, List.nil_append, List.cons_append, List.getElem?_cons_succ, List.getElem?_cons_zero]
          simp [Bx, gf5, gf6, gx6, vbeq, vbeq.vbeqs, Fl.cells, np, np.symm, zx6]
        · have hqa : segOf f en n syn true = ⟨f.path, f.here, f.there, q, if f.ft then (num f.peer n + 1) % 4294967296 else num f.peer n, syn, true, false, false, 0, ⟨⟨[]⟩⟩, ⟨⟨[]⟩⟩⟩ := by rw [hqq]; rfl
          rw [hqa] at hq
          cases hft : f.ft
          · simp [r0, r2, r6, gf6, gx6, np, zx6, Fl.cells, hft]
            simpa [hft, Sg.cells] using hq _ (ex6 _ _)
          · simp [r0, r2, r6, gf6, gx6, np, zx6, Fl.cells, hft]
            rw [IntKind.wrap_u32]
            simpa [hft, Sg.cells] using hq _ (ex7 _ _ _)
    cases syn
    · simp [gx4, gf4, Fl.cells, zx4, undef]
      refine fin A4 _ _ e4 gf4 gx4 rfl ?_ ?_ ?_ <;> simp
    · simp [gx4, gf4, Fl.cells, zx4, undef, np]
      refine fin _ f.isn _ (ex1 _ _ Ext.refl) ?_ ?_ rfl ?_ ?_ ?_ <;> simp [gf4, np, zx4, Fl.cells]
end Go.Proofs.Ytidgbapgedegbaa.Fw
