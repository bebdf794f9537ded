/- Contracts of flows. -/
import Derived.Test.YtidgbapgedegbaaFb
import Derived.KernelRfl
namespace Go.Proofs.Ytidgbapgedegbaa.Fw
open Go Go.AS
set_option maxRecDepth 100000
set_option linter.unusedSimpArgs false
set_option linter.unusedVariables false
attribute [local irreducible] Trie.set Trie.get Env.rd
attribute [local simp] Nat.add_assoc wD_cons'' wD_nil' wC_seq wC_ops wC_opsD_nil wC_cond wC_skip wC_ret wC_exit wC_block wO_cons' wO_nil wantedA wV_eq lop qop ev wL_some wL_none wPut envOf rd_set rd_leaf eqA thenC blockC wB_true wB_false endF unwindA resultsA resA tupleA rdCell rdCells wrCells cl fillP lay rep binA unA get_set' AHeap.get_alloc oneCell beqd bned

theorem set_ok (p : Nat) (f : Fl) (s : Int) (A : AHeap) (Q : Value → AHeap → Prop) (hf : A.get p = some (.cells f.cells false 0)) (h0 : 0 ≤ s) (h1 : s < 5) (hq : Q (.bool true) (A.set p (.cells ({ f with state := s } : Fl).cells false 0))) : wF T (.func (.func 98) #[] #[]) [.pointer (some ⟨p, 0, none⟩), .int .i64 s] A Q := by
  refine wF_func (first := []) (captured := []) t98 ⟨rfl, by decide⟩ ?_
  have g0 : ¬ s < 0 := by omega
  have g1 : ¬ (5 : Int) ≤ s := by omega
  have z := AHeap.get_lt hf
  dsimp only [c98]; simp [hf, Fl.cells, g0, g1, z, undef]
  exact hq

theorem points_ok (p : Nat) (f : Fl) (x : Sg) (o : Nat) (due : Value) (en un : Int) (A : AHeap) (Q : Value → AHeap → Prop) (hf : A.get p = some (.cells f.cells false 0)) (ho : f.o = .pointer (some ⟨o, 0, none⟩)) (h : A.get o = some (.cells [due, .int .i64 en, .int .i64 un] false 0)) (h0 : 0 ≤ un) (h1 : un < 1000000000)
    (hq : ∀ A', Ext NoB A A' → Q (.int .i64 (un + gap (num f.isn un) x.ack)) A') : wF T (.func (.func 104) #[] #[]) [.pointer (some ⟨p, 0, none⟩), .agg ⟨x.cells⟩] A Q := by
  refine wF_func (first := []) (captured := []) t104 ⟨rfl, by decide⟩ ?_
  have z := AHeap.get_lt hf
  have np : p ≠ A.size := by omega
  dsimp only [c104]; simp [hf, np, np.symm, Fl.cells, ho]
  generalize hH : AHeap.alloc A _ = H
  have e : Ext NoB A H := hH ▸ Ext.alloc
  have gx : H.get A.size = some (.cells x.cells false 0) := by rw [← hH]; simp
  have gf := e.get hf fun q => q
  refine una_ok o due en un _ _ (e.get h fun q => q) ?_
  simp
  refine wC_opsD_chk ?_
  simp [gf, Fl.cells]
  refine own_ok _ _ _ _ _ fun A2 e2 => ?_
  have gx2 := e2.get gx fun q => q
  simp [gx2, Sg.cells]
  refine gap_ok _ _ _ _ ?_
  have w : IntKind.i64.wrap (un + gap (num f.isn un) x.ack) = un + gap (num f.isn un) x.ack := IntWalk.i64_in _ (by unfold gap; omega)
  simp [w]
  refine wE_intro ?_ ?_
  · simp only [List.all_cons, List.all_nil, chkOk, List.nil_append, List.cons_append, List.getElem?_cons_succ, List.getElem?_cons_zero]
    simp [Bx, gx, gx2, gf, vbeq, Sg.cells, Fl.cells]
  · simp
    exact hq _ (e.trans e2)

theorem acks_ok (p : Nat) (f : Fl) (x : Sg) (o : Nat) (due : Value) (en un : Int) (A : AHeap) (Q : Value → AHeap → Prop) (hf : A.get p = some (.cells f.cells false 0)) (ho : f.o = .pointer (some ⟨o, 0, none⟩)) (h : A.get o = some (.cells [due, .int .i64 en, .int .i64 un] false 0)) (h0 : 0 ≤ un) (h1 : un ≤ en) (h2 : en < 1000000000)
    (hq : ∀ A', Ext NoB A A' → Q (.bool (x.ackOn && decide (0 ≤ un + gap (num f.isn un) x.ack) && decide (un + gap (num f.isn un) x.ack ≤ if f.fin then en + 1 else en))) A') : wF T (.func (.func 44) #[] #[]) [.pointer (some ⟨p, 0, none⟩), .agg ⟨x.cells⟩] A Q := by
  refine wF_func (first := []) (captured := []) t44 ⟨rfl, by decide⟩ ?_
  have z := AHeap.get_lt hf
  have np : p ≠ A.size := by omega
  have gx : (A.alloc (.cells x.cells false 0)).get A.size = some (.cells x.cells false 0) := get_alloc_top rfl
  dsimp only [c44]
  cases ha : x.ackOn
  · simp [Sg.cells, ha]
    simpa [ha] using hq _ Ext.alloc
  · simp [Sg.cells, ha]
    generalize hH : AHeap.alloc A _ = H
    have e : Ext NoB A H := hH ▸ Ext.alloc
    have gf := e.get hf fun q => q
    have cx : x.cells = [.int .i64 x.path, .int .u16 x.src, .int .u16 x.dst, .int .u32 x.seq, .int .u32 x.ack, .bool x.syn, .bool true, .bool x.fin, .bool x.rst, .int .u16 x.win, .string x.opts, .string x.data] := by simp [Sg.cells, ha]
    rw [← cx]
    refine points_ok p f x o due en un _ _ gf ho (e.get h fun q => q) h0 (by omega) fun A2 e2 => ?_
    by_cases hg : 0 ≤ un + gap (num f.isn un) x.ack
    · simp [hg]
      refine fend_ok p f o due en un _ _ (e2.get gf fun q => q) ho (e2.get (e.get h fun q => q) fun q => q) (by omega) h2 ?_
      simp
      simpa [ha, hg] using hq _ (e.trans e2)
    · simp [hg, undef]
      simpa [ha, hg] using hq _ (e.trans e2)

theorem answered_ok (p : Nat) (f : Fl) (x : Sg) (A : AHeap) (Q : Value → AHeap → Prop) (hf : A.get p = some (.cells f.cells false 0))
    (hq : f.state = 0 → x.syn = true → x.ackOn = true → x.rst = false → x.ack = num f.isn 0 → ∀ A', Ext (fun j => j = p) A A' → A'.get p = some (.cells ({ f with peer := x.seq } : Fl).cells false 0) → Q (.bool true) A')
    (hn : ¬ (f.state = 0 ∧ x.syn = true ∧ x.ackOn = true ∧ x.rst = false ∧ x.ack = num f.isn 0) → ∀ A', Ext NoB A A' → Q (.bool false) A') : wF T (.func (.func 96) #[] #[]) [.pointer (some ⟨p, 0, none⟩), .agg ⟨x.cells⟩] A Q := by
  refine wF_func (first := []) (captured := []) t96 ⟨rfl, by decide⟩ ?_
  have z := AHeap.get_lt hf
  have np : p ≠ A.size := by omega
  dsimp only [c96]
  by_cases h1 : f.state = 0
  case neg =>
    simp
    refine wC_opsD_chk ?_
    simp [hf, np, np.symm, Fl.cells, h1, undef]
    refine wE_intro ?_ ?_
    · simp only [List.all_cons, List.all_nil, chkOk, List.nil_append, List.cons_append, List.getElem?_cons_succ, List.getElem?_cons_zero]
      simp [Bx, hf, np, np.symm, vbeq, Sg.cells, Fl.cells, undef]
    · simp
      exact hn (fun q => h1 q.1) _ Ext.alloc
  by_cases h2 : x.syn = true
  case neg =>
    simp
    refine wC_opsD_chk ?_
    simp [hf, np, np.symm, Fl.cells, Sg.cells, h1, (by simpa using h2 : x.syn = false), undef]
    refine wE_intro ?_ ?_
    · simp only [List.all_cons, List.all_nil, chkOk, List.nil_append, List.cons_append, List.getElem?_cons_succ, List.getElem?_cons_zero]
      simp [Bx, hf, np, np.symm, vbeq, Sg.cells, Fl.cells, undef]
    · simp
      exact hn (fun q => h2 q.2.1) _ Ext.alloc
  by_cases h3 : x.ackOn = true
  case neg =>
    simp
    refine wC_opsD_chk ?_
    simp [hf, np, np.symm, Fl.cells, Sg.cells, h1, h2, (by simpa using h3 : x.ackOn = false), undef]
    refine wE_intro ?_ ?_
    · simp only [List.all_cons, List.all_nil, chkOk, List.nil_append, List.cons_append, List.getElem?_cons_succ, List.getElem?_cons_zero]
      simp [Bx, hf, np, np.symm, vbeq, Sg.cells, Fl.cells, undef]
    · simp
      exact hn (fun q => h3 q.2.2.1) _ Ext.alloc
  by_cases h4 : x.rst = false
  case neg =>
    simp
    refine wC_opsD_chk ?_
    simp [hf, np, np.symm, Fl.cells, Sg.cells, h1, h2, h3, (by simpa using h4 : x.rst = true), undef]
    refine wE_intro ?_ ?_
    · simp only [List.all_cons, List.all_nil, chkOk, List.nil_append, List.cons_append, List.getElem?_cons_succ, List.getElem?_cons_zero]
      simp [Bx, hf, np, np.symm, vbeq, Sg.cells, Fl.cells, undef]
    · simp
      exact hn (fun q => h4 q.2.2.2.1) _ Ext.alloc
  simp
  refine wC_opsD_chk ?_
  simp [hf, np, np.symm, Fl.cells, Sg.cells, h1, h2, h3, h4]
  generalize hH : AHeap.alloc A _ = H
  have e : Ext NoB A H := hH ▸ Ext.alloc
  have gx : H.get A.size = some (.cells x.cells false 0) := by rw [← hH]; simp [Sg.cells, h2, h3, h4]
  have gf := e.get hf fun q => q
  refine own_ok _ _ _ _ _ fun A2 e2 => ?_
  have gx2 := e2.get gx fun q => q
  have gf2 := e2.get gf fun q => q
  have z2 := AHeap.get_lt gf2
  by_cases h5 : x.ack = num f.isn 0
  · simp [h5]
    refine wE_intro ?_ ?_
    · simp only [List.all_cons, List.all_nil, chkOk, List.nil_append, List.cons_append, List.getElem?_cons_succ, List.getElem?_cons_zero]
      simp [Bx, gx, gx2, gf, gf2, vbeq, Sg.cells, Fl.cells, undef, h5]
    · simp [gx2, gf2, Sg.cells, Fl.cells, z2]
      exact hq h1 h2 h3 h4 h5 _ (((e.trans e2).mono fun _ _ q => q.elim).trans (Ext.set rfl)) (by simp [z2, Fl.cells, h1])
  · simp [h5]
    refine wE_intro ?_ ?_
    · simp only [List.all_cons, List.all_nil, chkOk, List.nil_append, List.cons_append, List.getElem?_cons_succ, List.getElem?_cons_zero]
      simp [Bx, gx, gx2, gf, gf2, vbeq, Sg.cells, Fl.cells, undef]
    · simp
      exact hn (fun q => h5 q.2.2.2.2) _ (e.trans e2)
end Go.Proofs.Ytidgbapgedegbaa.Fw
