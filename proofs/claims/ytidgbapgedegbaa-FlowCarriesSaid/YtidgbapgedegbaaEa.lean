/- FlowEnds: the end of the law. -/
import Derived.Test.YtidgbapgedegbaaGe
import Derived.KernelRfl
namespace Go.Proofs.Ytidgbapgedegbaa.Fw
open Go Go.AS Ou
set_option maxRecDepth 100000
set_option linter.unusedSimpArgs false
set_option linter.unusedVariables false
attribute [local irreducible] Trie.set Trie.get Env.rd
attribute [local simp] Nat.add_assoc wD_cons'' wD_nil' wC_seq wC_ops wC_opsD_nil wC_cond wC_skip wC_ret wC_exit wC_block wO_cons' wO_nil wantedA wV_eq lop qop ev wL_some wL_none wPut envOf rd_set rd_leaf eqA thenC blockC wB_true wB_false endF unwindA resultsA resA tupleA rdCell rdCells wrCells cl fillP lay rep binA unA get_set' AHeap.get_alloc oneCell beqd bned idxA

theorem gap_num (a m n : Int) (h : -2147483648 ≤ n - m ∧ n - m < 2147483648) : gap (num a m) (num a n) = n - m := by
  unfold gap num; omega
theorem num_succ (a n : Int) : (num a n + 1) % 4294967296 = num a (n + 1) := by unfold num; omega

/-- The pieces of a text, one behind the other. -/
def Chain : Nat → List Pc → List UInt8 → Prop
  | _, [], l => l = []
  | s, q :: ps, l => q.at_ = (s : Int) ∧ q.text.data.toList ≠ [] ∧ ∃ r, l = q.text.data.toList ++ r ∧ Chain (s + q.text.data.toList.length) ps r
theorem Chain.snoc (t : List UInt8) (ht : t ≠ []) (tag : Int) : ∀ (ps : List Pc) (s : Nat) (l : List UInt8), Chain s ps l → Chain s (ps ++ [⟨((s + l.length : Nat) : Int), tag, ⟨⟨t⟩⟩⟩]) (l ++ t)
  | [], s, l, h => by
    have : l = [] := h
    subst this
    refine ⟨by simp, ht, [], by simp, rfl⟩
  | q :: ps, s, l, h => by
    obtain ⟨h1, h2, r, h3, h4⟩ := h
    have := Chain.snoc t ht tag ps _ r h4
    subst h3
    refine ⟨h1, h2, r ++ t, by simp, ?_⟩
    simp only [List.length_append]
    rw [show s + (q.text.data.toList.length + r.length) = s + q.text.data.toList.length + r.length by omega]
    exact this
theorem Chain.split : ∀ (a b : List Pc) (s : Nat) (l : List UInt8), Chain s (a ++ b) l → ∃ la lb, l = la ++ lb ∧ Chain s a la ∧ Chain (s + la.length) b lb
  | [], b, s, l, h => ⟨[], l, rfl, rfl, h⟩
  | q :: a, b, s, l, h => by
    obtain ⟨h1, h2, r, h3, h4⟩ := h
    obtain ⟨la, lb, k1, k2, k3⟩ := Chain.split a b _ r h4
    refine ⟨q.text.data.toList ++ la, lb, by rw [h3, k1]; simp, ⟨h1, h2, la, rfl, k2⟩, ?_⟩
    rw [List.length_append, show s + (q.text.data.toList.length + la.length) = s + q.text.data.toList.length + la.length by omega]
    exact k3
theorem Chain.taken_all : ∀ (ps : List Pc) (s : Nat) (l : List UInt8) (off : Int), Chain s ps l → ((s + l.length : Nat) : Int) ≤ off → s + l.length < 1000000000 → taken off ps = ps
  | [], _, _, _, _, _, _ => rfl
  | q :: ps, s, l, off, h, ho, hb => by
    obtain ⟨h1, h2, r, h3, h4⟩ := h
    have ll : l.length = q.text.data.toList.length + r.length := by rw [h3]; simp
    have sz : q.text.size = q.text.data.toList.length := rfl
    have hf : q.fin ≤ off := by
      unfold Pc.fin
      rw [h1, sz, IntWalk.i64_in _ (by omega)]; omega
    unfold taken
    rw [List.takeWhile_cons, if_pos (by simpa using hf)]
    congr 1
    exact Chain.taken_all ps _ r off h4 (by omega) (by omega)
theorem Chain.nil0 {ps : List Pc} {s : Nat} (h : Chain s ps []) : ps = [] := by
  cases ps with
  | nil => rfl
  | cons q ps =>
    obtain ⟨_, h2, r, h3, _⟩ := h
    exact absurd (List.append_eq_nil_iff.1 h3.symm).1 h2

section
variable {A : AHeap} {p : Nat} {f : Fl} {ps : List Pc} {en un : Int} {inl : Option IS} {S : Nat → Prop} {Q : Value → AHeap → Prop}

theorem inlN_inT (f : Fl) (inl : Option IS) (x : Sg) : inlN (inT f inl x) = inlN inl := by
  unfold inT putI
  split
  · rfl
  · cases inl <;> rfl

theorem ldue_ok (x : Sg) (t : Int) (h : FlowAt A p f ps en un inl S) (ok : FlOk ps en un) (h1 : dueS f ps en (inlN inl) = [x]) (h2 : dueT f ps = [t]) (hq : ∀ A', Ext NoB A A' → Q (.tuple ⟨[.agg ⟨x.cells⟩, .int .i64 t]⟩) A') :
    wF T (.func (.func 52) #[] #[]) [.pointer (some ⟨p, 0, none⟩)] A Q := by
  refine wF_func (first := []) (captured := []) t52 ⟨rfl, by decide⟩ ?_
  dsimp only [c52]
  simp
  generalize hA1 : A.alloc _ = A1
  obtain ⟨g1, e1, z1⟩ := alloc_facts hA1
  refine due_ok' (h.extN e1) ok fun A2 lv tv sl st e2 _ ot _ => ?_
  rw [h1] at sl
  rw [h2] at st
  have g2 := e2.get g1 id
  have l2 := AHeap.get_lt g2
  obtain ⟨a1, c1, hv1⟩ := sl.read.val
  obtain ⟨a2, c2, hv2⟩ := st.read.val
  subst hv1; subst hv2
  obtain ⟨d, o, c', bs, ro, opn, q1, q2, q3, q4⟩ := sl.read.elem2 (show 0 < [x].length by simp)
  obtain ⟨d2, o2, c2', bs2, ro2, opn2, k1, k2, k3⟩ := st.read.cell (show 0 < [t].length by simp)
  cases q1; cases k1
  rw [encs_at sgcz [x] 0 (by simp)] at q4
  simp [ints] at k3
  simp [sgc] at q3 q4
  simp
  refine wC_opsD_chk ?_
  simp [q2, q3, q4, k2, k3, g2, l2]
  have nd : d2 ≠ A.size := fun q => by
    have := ot d2 ⟨_, _, _, rfl⟩
    omega
  refine wE_intro ?_ ?_
  · simp only [List.all_cons, List.all_nil, chkOk, List.nil_append, List.cons_append, List.getElem?_cons_succ, List.getElem?_cons_zero]
    simp [Bx, q2, k2, k3, g2, l2, vbeq, nd]
  simp [l2, layc]
  exact hq _ ((e1.trans e2).trans2 (Ext.set (S := fun j => j = A.size) rfl) fun j hj q => by omega)
end

theorem ends_s (all : List UInt8) (hal : all.length ≤ 400) (A : AHeap) (env : Env) (by_ : Nat) (hby : by_ < 256) (pa pb ov fi : Nat) (fa fb : Fl) (ps : List Pc) (tA tB : IS) (Sa Sb : Nat → Prop) (over : Sg)
    (ha : FlowAt A pa fa ps all.length 0 (some tA) Sa) (hb : FlowAt A pb fb [] 0 0 (some tB) Sb) (ch : Chain 0 ps all) (few : ps.length < 1000) (dj : ∀ j, Sa j → ¬ Sb j) (a1 : fa.state = 3) (a2 : fa.fin = true) (a3 : fa.fa = false) (a4 : fa.ft = false) (nA : tA.base = 0) (nB : tB.base = all.length) (b1 : fb.ft = false) (b2 : fb.fin = false) (pe : fb.peer = fa.isn)
    (gov : A.get ov = some (.cells over.cells false 0)) (gfi : A.get fi = some (.cells (segF fa all.length 0).cells false 0)) (nov : ¬ Sa ov ∧ ¬ Sb ov) (nfi : ¬ Sa fi ∧ ¬ Sb fi) (nof : fi ≠ ov) (o1 : over.ackOn = true) (o2 : over.ack = num fa.isn (all.length + 1))
    (r2 : env.rd 2 = .int .u8 (by_ : Nat)) (r7 : env.rd 7 = .pointer (some ⟨pa, 0, none⟩)) (r8 : env.rd 8 = .pointer (some ⟨pb, 0, none⟩)) (r12 : env.rd 12 = .pointer (some ⟨ov, 0, none⟩)) (r16 : env.rd 16 = .pointer (some ⟨fi, 0, none⟩)) :
    wC T 12 none c12s { env := env, n := 272, dfs := [], A := A } (endF [.inl 6] fun v _ => v = .bool true) := by
  have okA : FlOk ps all.length 0 := ⟨by omega, by omega, by omega, few⟩
  have okB : FlOk [] 0 0 := flOk0
  have inA : inlN (some tA) = 0 := by show (tA.base : Int) = 0; rw [nA]; rfl
  have inB : inlN (some tB) = all.length := by show (tB.base : Int) = _; rw [nB]
  unfold c12s
  simp [r7, r8]
  refine seg_ok' false true hb okB fun A1 e1 => ?_
  rw [inB]
  generalize hx1 : segOf fb 0 (all.length : Int) false true = x1
  have x1a : x1.ackOn = true := by rw [← hx1]; rfl
  have x1k : x1.ack = num fa.isn all.length := by rw [← hx1]; simp [segOf, b1, pe]
  have x1d : x1.data.data.toList = [] := by rw [← hx1]; rfl
  clear hx1
  simp
  refine take_ok x1 (by rw [x1d]; decide) (ha.extN e1) okA (by rw [inA]; omega) fun A2 sv ha2 _ e2 _ => ?_
  have ac1 : accS fa all.length 0 x1 = some (all.length : Int) := by
    unfold accS
    rw [x1k, gap_num _ _ _ (by omega), if_pos ⟨x1a, by omega, by rw [a2, if_pos rfl]; omega⟩]; simp
  have fa1 : faT fa all.length 0 x1 = false := by unfold faT; rw [ac1]; simp [a3]
  have ps1 : psT fa ps all.length 0 x1 = [] := by
    unfold psT; rw [ac1]
    simp only
    have := ch.taken_all _ _ _ (min (all.length : Int) all.length) (by omega) (by omega)
    split
    · have : all = [] := List.length_eq_zero_iff.1 (by omega)
      subst this; exact ch.nil0
    · rw [this, List.drop_length]
  have un1 : unT fa all.length 0 x1 = all.length := by unfold unT; rw [ac1]; simp only; split <;> omega
  rw [fa1, ps1, un1] at ha2
  have hb2 := (hb.extN e1).ext e2 fun j hj q => dj j q hj
  have gov2 := e2.get (e1.get gov id) nov.1
  have gfi2 := e2.get (e1.get gfi id) nfi.1
  have ffa : ({ fa with fa := false } : Fl) = fa := by rw [← a3]
  rw [ffa] at ha2
  have okA2 : FlOk [] all.length all.length := ⟨by omega, by omega, by omega, by simp⟩
  have in2 : inlN (inT fa (some tA) x1) = 0 := by rw [inlN_inT, inA]
  simp [r7]
  refine ldue_ok (segF fa all.length 0) (-1) ha2 okA2 (by rw [in2]; simp [dueS, a1, a2, a3]) (by simp [dueT, a1, a2, a3]) fun A3 e3 => ?_
  simp
  generalize hA4 : AHeap.set (AHeap.alloc A3 _) _ _ = A4
  have e4 : Ext NoB A3 A4 := ⟨by rw [← hA4]; simp, fun j hj _ => by rw [← hA4]; simp [show j ≠ A3.size by omega]⟩
  have g4 : A4.get A3.size = some (.cells (segF fa all.length 0).cells false 0) := by rw [← hA4]; simp
  clear hA4
  have e34 := e3.trans e4
  have ha4 := ha2.extN e34
  have hb4 := hb2.extN e34
  have nn : ¬ Sa A3.size ∧ ¬ Sb A3.size := ⟨fun q => by have := ha2.own q; have := e3.size; omega, fun q => by have := hb2.own q; have := e3.size; omega⟩
  simp [r8]
  refine takeFin_ok hb4 fun A5 w hb5 e5 => ?_
  have ha5 := ha4.ext e5 fun j hj q => dj j hj q
  simp [r7, r8]
  refine seg_ok' false true hb5 okB fun A6 e6 => ?_
  rw [inB]
  generalize hx2 : segOf { fb with ft := true } 0 (all.length : Int) false true = x2
  have x2a : x2.ackOn = true := by rw [← hx2]; rfl
  have x2k : x2.ack = num fa.isn (all.length + 1) := by rw [← hx2]; simp [segOf, pe, num_succ]
  have x2d : x2.data.data.toList = [] := by rw [← hx2]; rfl
  clear hx2
  simp
  refine take_ok x2 (by rw [x2d]; decide) (ha5.extN e6) okA2 (by rw [in2]; omega) fun A7 sv2 ha7 _ e7 _ => ?_
  have ac2 : accS fa all.length all.length x2 = some ((all.length : Int) + 1) := by
    unfold accS
    rw [x2k, gap_num _ _ _ (by omega), if_pos ⟨x2a, by omega, by rw [a2, if_pos rfl]; omega⟩]; congr 1; omega
  have fa2 : faT fa all.length all.length x2 = true := by
    unfold faT; rw [ac2]; simp only [Bool.or_eq_true, decide_eq_true_eq]; right; omega
  have ps2 : psT fa [] all.length all.length x2 = [] := by unfold psT; rw [ac2]; simp only; split <;> simp
  have un2 : unT fa all.length all.length x2 = all.length := by unfold unT; rw [ac2]; simp only; split <;> omega
  rw [fa2, ps2, un2] at ha7
  have in7 : inlN (inT fa (inT fa (some tA) x1) x2) = 0 := by rw [inlN_inT, in2]
  have gov7 := e7.get (e6.get (e5.get (e34.get gov2 id) nov.2) id) nov.1
  have gfi7 := e7.get (e6.get (e5.get (e34.get gfi2 id) nfi.2) id) nfi.1
  have g7 := e7.get (e6.get (e5.get g4 nn.2) id) nn.1
  simp [r7]
  refine due_ok' ha7 okA2 fun A8 lv tv sl st e8 _ _ _ => ?_
  have d0 : dueS { fa with fa := true } [] all.length (inlN (inT fa (inT fa (some tA) x1) x2)) = [] := by simp [dueS, a1]
  rw [d0] at sl
  obtain ⟨l1, c1, hv1⟩ := sl.read.val
  subst hv1
  have ha8 := ha7.extN e8
  have gov8 := e8.get gov7 id
  have gfi8 := e8.get gfi7 id
  have g8 := e8.get g7 id
  have lo8 := AHeap.get_lt gov8
  simp [r2, r12, gov8, lo8]
  generalize hA9 : AHeap.set A8 ov _ = A9
  obtain ⟨k9, e9, z9⟩ := Ou.set_facts lo8 hA9
  have ov_ne : fi ≠ ov ∧ A3.size ≠ ov := ⟨nof, fun q => by have := AHeap.get_lt gov2; have := e3.size; omega⟩
  have gfi9 := e9.get gfi8 ov_ne.1
  have g9 := e9.get g8 ov_ne.2
  have ha9 := ha8.ext e9 fun j hj q => nov.1 (q ▸ hj)
  have w1 : IntKind.u32.wrap (IntKind.u32.wrap (over.ack + 1) + IntKind.u32.wrap (by_ : Int)) = num fa.isn (all.length + 1 + 1 + by_) := by
    rw [o2, IntKind.wrap_u32, IntKind.wrap_u32, IntKind.wrap_u32]; unfold num; omega
  rw [w1] at k9
  have ac9 : ∀ A' : AHeap, FlowAt A' pa { fa with fa := true } [] all.length all.length (inT fa (inT fa (some tA) x1) x2) Sa → True := fun _ _ => trivial
  have self : eqL [(0, .i), (1, .i), (2, .i), (3, .i), (4, .i), (5, .b), (6, .b), (7, .b), (8, .b), (9, .i), (10, .s), (11, .s)] (segF fa all.length 0).cells (segF fa all.length 0).cells = some true := by simp [eqL, leafEq]
  refine wC_opsD_chk ?_
  simp [g9, gfi9, r16, self, r7]
  refine finAcked_ok ha9 ?_
  simp [r7, r12, k9]
  refine acks_ok' _ ha9 okA2 fun A10 e10 => ?_
  have ng : ¬ (((all.length : Int) + gap (num fa.isn all.length) (num fa.isn (all.length + 1 + 1 + by_))) ≤ all.length + 1) := by
    rw [gap_num _ _ _ (by omega)]; omega
  have in9 : inlN (inT fa (inT fa (some tA) x1) x2) = 0 := in7
  have w2 : IntKind.u32.wrap (num fa.isn all.length + 1) = num fa.isn (all.length + 1) := by rw [IntKind.wrap_u32]; unfold num; omega
  simp [a2, ng, r7]
  refine seg_ok' false true (ha9.extN e10) okA2 fun A11 e11 => ?_
  have gf11 := e11.get (e10.get gfi9 id) id
  simp [r16, gf11, segF, segOf, a2, w2, r7]
  refine rst_ok ((ha9.extN e10).extN e11) okA2 fun A12 e12 => ?_
  have gf12 := e12.get gf11 id
  simp [r7]
  refine rst_ok (((ha9.extN e10).extN e11).extN e12) okA2 fun A13 e13 => ?_
  have gf13 := e13.get gf12 id
  simp [r16, gf13, segF, segOf, a2, w2, r7]
  refine rst_ok ((((ha9.extN e10).extN e11).extN e12).extN e13) okA2 fun A14 e14 => ?_
  have gf14 := e14.get gf13 id
  have k10 := e10.get k9 id
  have gf10 := e10.get gfi9 id
  simp [segOf]
  refine wE_intro ?_ ?_
  · simp only [List.all_cons, List.all_nil, chkOk, List.nil_append, List.cons_append, List.getElem?_cons_succ, List.getElem?_cons_zero]
    simp [Bx, r7, r12, r16, k9, k10, gf10, gf11, gf12, gf13, gf14, vbeq, segF, segOf]
  simp
end Go.Proofs.Ytidgbapgedegbaa.Fw
