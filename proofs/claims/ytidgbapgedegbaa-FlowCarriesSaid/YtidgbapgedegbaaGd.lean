/- A flow: what is due. -/
import Derived.Test.YtidgbapgedegbaaGc
import Derived.KernelRfl
namespace Go.Proofs.Ytidgbapgedegbaa.Fw
open Go Go.AS Ou
set_option maxRecDepth 100000
set_option linter.unusedSimpArgs false
set_option linter.unusedVariables false
attribute [local irreducible] Trie.set Trie.get Env.rd
attribute [local simp] Nat.add_assoc wD_cons'' wD_nil' wC_seq wC_ops wC_opsD_nil wC_cond wC_skip wC_ret wC_exit wC_block wO_cons' wO_nil wantedA wV_eq lop qop ev wL_some wL_none wPut envOf rd_set rd_leaf eqA thenC blockC wB_true wB_false endF unwindA resultsA resA tupleA rdCell rdCells wrCells cl fillP lay rep binA unA get_set' AHeap.get_alloc oneCell beqd bned idxA

def sgc (x : Sg) : List Value := x.cells
theorem sgcz (x : Sg) : (sgc x).length = 12 := rfl
theorem sgco (x : Sg) : (sgc x).all oneCell = true := rfl
def segP (f : Fl) (en n : Int) (q : Pc) : Sg := { segOf f en n false true with seq := num f.isn q.at_, data := q.text }
def segF (f : Fl) (en n : Int) : Sg := { segOf f en n false true with seq := num f.isn en, fin := true }
def dueS (f : Fl) (ps : List Pc) (en n : Int) : List Sg := if f.state = 3 then ps.map (segP f en n) ++ (if f.fin && !f.fa then [segF f en n] else []) else []
def dueT (f : Fl) (ps : List Pc) : List Int := if f.state = 3 then ps.map (·.tag) ++ (if f.fin && !f.fa then [-1] else []) else []

theorem int1 (l : List Int) : (ints l).all oneCell = true := by simp [ints, oneCell]

def DuI (p : Nat) (f : Fl) (ps : List Pc) (en n : Int) (dv : Value) (A1 : AHeap) (k : Nat) (st : St) : Prop := ∃ i lv tv, i + k = ps.length ∧ st.n = 84 ∧ st.dfs = [] ∧ st.env.rd 0 = .pointer (some ⟨p, 0, none⟩) ∧ st.env.rd 2 = lv ∧ st.env.rd 3 = tv ∧ st.env.rd 4 = .func (.func 101) ⟨[.agg ⟨[.int .u32 f.isn, .int .u32 f.peer]⟩]⟩ #[] ∧ st.env.rd 27 = dv ∧ st.env.rd 28 = .int .i64 (ps.length : Nat) ∧ st.env.rd 29 = .int .i64 (i : Nat) ∧
  SliceAt st.A 12 lv i (encs sgc ((ps.take i).map (segP f en n))) ∧ SliceAt st.A 1 tv i (ints ((ps.take i).map (·.tag))) ∧ Ext NoB A1 st.A ∧ (∀ j, Own lv j → A1.size ≤ j) ∧ (∀ j, Own tv j → A1.size ≤ j) ∧ ∀ j, Own lv j → ¬ Own tv j

section
variable {A : AHeap} {p : Nat} {f : Fl} {ps : List Pc} {en un : Int} {inl : Option IS} {S : Nat → Prop} {Q : Value → AHeap → Prop}

/-- One segment more, and its tag. -/
theorem both_app {A0 A : AHeap} {lv tv : Value} {i : Nat} {ls : List Sg} {ts : List Int} (x : Sg) (t : Int) (hl : SliceAt A 12 lv i (encs sgc ls)) (ht : SliceAt A 1 tv i (ints ts)) (hi : i < 1000000) (ol : ∀ j, Own lv j → A0.size ≤ j) (ot : ∀ j, Own tv j → A0.size ≤ j) (dj : ∀ j, Own lv j → ¬ Own tv j) (hA : Ext NoB A0 A) :
    ∃ a c A2 a' c' A4, appA (A.alloc (.cells x.cells false 0)) 12 64 lv (.slice (some ⟨A.size, 0, none⟩) 1 1) = some (.slice a (i + 1) c, A2) ∧ appA (A2.alloc (.cells [.int .i64 t] false 0)) 1 8 tv (.slice (some ⟨A2.size, 0, none⟩) 1 1) = some (.slice a' (i + 1) c', A4) ∧
      SliceAt A4 12 (.slice a (i + 1) c) (i + 1) (encs sgc (ls ++ [x])) ∧ SliceAt A4 1 (.slice a' (i + 1) c') (i + 1) (ints (ts ++ [t])) ∧ Ext NoB A0 A2 ∧ Ext (Own lv) A A2 ∧ Ext NoB A0 A4 ∧ (∀ j, Own (.slice a (i + 1) c) j → A0.size ≤ j) ∧ (∀ j, Own (.slice a' (i + 1) c') j → A0.size ≤ j) ∧ (∀ j, Own (.slice a (i + 1) c) j → ¬ Own (.slice a' (i + 1) c') j) := by
  have e1 : Ext NoB A (A.alloc (.cells x.cells false 0)) := Ext.alloc
  have g1 : (A.alloc (.cells x.cells false 0)).get A.size = some (.cells x.cells false 0) := by rw [AHeap.get_alloc, if_pos rfl]
  obtain ⟨v2, A2, a1, s2, e2, o2⟩ := (hl.ext e1 fun _ _ q => q).append (m := 1) (bytes := 64) (x := .slice (some ⟨A.size, 0, none⟩) 1 1) (new := x.cells) (by decide) rfl (by simp only [AS.firstA, rdCells, g1]; rfl) rfl rfl (by omega) (by decide) (fun q => by cases q)
  obtain ⟨a, c, hv⟩ := s2.read.val
  subst hv
  have z1 := hA.size
  have z2 := e2.size
  simp only [AHeap.size_alloc] at z2
  have t1 := (ht.ext e1 fun _ _ q => q).ext e2 fun j hj q => dj j q hj
  have e3 : Ext NoB A2 (A2.alloc (.cells [.int .i64 t] false 0)) := Ext.alloc
  have g3 : (A2.alloc (.cells [.int .i64 t] false 0)).get A2.size = some (.cells [.int .i64 t] false 0) := by rw [AHeap.get_alloc, if_pos rfl]
  obtain ⟨v4, A4, a3, s4, e4, o4⟩ := (t1.ext e3 fun _ _ q => q).append (m := 1) (bytes := 8) (x := .slice (some ⟨A2.size, 0, none⟩) 1 1) (new := [.int .i64 t]) (by decide) rfl (by simp only [AS.firstA, rdCells, g3]; rfl) rfl rfl (by omega) (by decide) (fun q => by cases q)
  obtain ⟨a', c', hv⟩ := s4.read.val
  subst hv
  have z4 := e4.size
  simp only [AHeap.size_alloc] at z4
  have ol2 : ∀ j, Own (.slice a (i + 1) c) j → Own lv j ∨ (A.size + 1 ≤ j ∧ j < A2.size) := fun j hj => (o2 j hj).imp id fun q => ⟨by simpa using q, s2.own_lt hj⟩
  have nlt : ∀ j, Own (.slice a (i + 1) c) j → ¬ Own tv j := fun j hj q => by
    rcases ol2 j hj with k | k
    · exact dj j k q
    · have := ht.own_lt q; omega
  refine ⟨a, c, A2, a', c', A4, a1, a3, ?_, ?_, ?_, ?_, ?_, ?_, ?_, ?_⟩
  · have : encs sgc (ls ++ [x]) = encs sgc ls ++ x.cells := by rw [encs_append]; simp [encs, sgc]
    rw [this]
    exact (s2.ext e3 fun _ _ q => q).ext e4 fun j hj q => nlt j hj q
  · have : ints (ts ++ [t]) = ints ts ++ [.int .i64 t] := by simp [ints]
    rw [this]; exact s4
  · exact (hA.trans e1).trans2 e2 fun j hj q => by have := ol j q; omega
  · exact (e1.mono fun _ _ q => q.elim).trans e2
  · exact (((hA.trans e1).trans2 e2 fun j hj q => by have := ol j q; omega).trans e3).trans2 e4 fun j hj q => by have := ot j q; omega
  · intro j hj
    rcases ol2 j hj with k | k
    · exact ol j k
    · omega
  · intro j hj
    rcases o4 j hj with k | k
    · exact ot j k
    · simp only [AHeap.size_alloc] at k; omega
  · intro j hj q
    rcases o4 j q with k | k
    · exact nlt j hj k
    · simp only [AHeap.size_alloc] at k
      rcases ol2 j hj with r | r
      · have := hl.own_lt r; omega
      · omega

theorem due_ok' (h : FlowAt A p f ps en un inl S) (ok : FlOk ps en un)
    (hq : ∀ A' lv tv, SliceAt A' 12 lv (dueS f ps en (inlN inl)).length (encs sgc (dueS f ps en (inlN inl))) → SliceAt A' 1 tv (dueT f ps).length (ints (dueT f ps)) → Ext NoB A A' → (∀ j, Own lv j → A.size ≤ j) → (∀ j, Own tv j → A.size ≤ j) → (∀ j, Own lv j → ¬ Own tv j) → Q (.tuple ⟨[lv, tv]⟩) A') :
    wF T (.func (.func 46) #[] #[]) [.pointer (some ⟨p, 0, none⟩)] A Q := by
  refine wF_func (first := []) (captured := []) t46 ⟨rfl, by decide⟩ ?_
  dsimp only [c46]
  have none_own : ∀ j, ¬ Own (.slice none 0 0) j := fun j ⟨_, _, _, q⟩ => by cases q
  unfold dueS dueT at hq
  by_cases hst : f.state = 3
  · rw [if_pos hst, if_pos hst] at hq
    obtain ⟨o, So, Si, k1, k2, k3, k4, k5, k6, k7⟩ := id h
    simp [k1, Fl.cells, hst, k2]
    refine adue_ok A o ps en un So _ k3 ok.few fun A1 dv sd e1 od => ?_
    obtain ⟨da, dc, hdv⟩ := sd.read.val
    subst hdv
    simp
    have few := ok.few
    refine wC_loop_inv (DuI p f ps en (inlN inl) (.slice da ps.length dc) A1) ?_ ps.length _ ⟨0, .slice none 0 0, .slice none 0 0, by omega, rfl, rfl, by simp, by simp, by simp, by simp, by simp, by simp, by simp, SliceAt.nil, SliceAt.nil, Ext.refl, fun j q => (none_own j q).elim, fun j q => (none_own j q).elim, fun j q => (none_own j q).elim⟩
    rintro k ⟨env, nn, dfs, A2⟩ ⟨i, lv, tv, ki, s1, s2, r0, r2, r3, r4, r27, r28, r29, hl, ht, ex, ol, ot, dj⟩
    simp only at s1 s2 r0 r2 r3 r4 r27 r28 r29 hl ht ex
    subst s1; subst s2
    have h2 := (h.extN e1).extN ex
    have sd2 := sd.ext ex fun _ _ q => q
    by_cases hi : i < ps.length
    · obtain ⟨d, o', c', bs, ro, opn, q1, q2, q3, q4⟩ := sd2.read.elem2 hi
      cases q1
      rw [pcells_at ps i hi] at q4
      have q3' : o' + (i * 3 + 3) ≤ bs.length := by omega
      simp [r0, r27, r28, r29, hi, q2, q3', q4]
      generalize hA3 : AHeap.set (AHeap.alloc A2 _) _ _ = A3
      have e3 : Ext NoB A2 A3 := ⟨by rw [← hA3]; simp, fun j hj _ => by rw [← hA3]; simp [show j ≠ A2.size by omega]⟩
      have g3 : A3.get A2.size = some (.cells [.int .i64 ps[i].at_, .int .i64 ps[i].tag, .string ps[i].text] false 0) := by rw [← hA3]; simp
      clear hA3
      refine seg_ok' false true (h2.extN e3) ok fun A4 e4 => ?_
      have g4 := e4.get g3 id
      have lg4 := AHeap.get_lt g4
      simp
      generalize hA5 : AHeap.set (AHeap.alloc A4 _) _ _ = A5
      have e5 : Ext NoB A4 A5 := ⟨by rw [← hA5]; simp, fun j hj _ => by rw [← hA5]; simp [show j ≠ A4.size by omega]⟩
      have g5 : A5.get A4.size = some (.cells (segOf f en (inlN inl) false true).cells false 0) := by rw [← hA5]; simp
      have g5p := e5.get g4 id
      have lt5 := AHeap.get_lt g5
      clear hA5
      refine wC_opsD_chk ?_
      simp [r4, g5p]
      refine wF_first (own_ok f.isn f.peer ps[i].at_ A5 _ fun A6 e6 => ?_)
      have g6 := e6.get g5 id
      have g6p := e6.get g5p id
      have lt6 := AHeap.get_lt g6
      have ne6 : A2.size ≠ A4.size := by omega
      simp [g6, g6p, lt6, ne6, ne6.symm]
      refine wE_intro ?_ ?_
      · simp only [List.all_cons, List.all_nil, chkOk, List.nil_append, List.cons_append, List.getElem?_cons_succ, List.getElem?_cons_zero]
        simp [Bx, g5p, g6p, ne6, ne6.symm, vbeq]
      generalize hA7 : AHeap.set (AHeap.set A6 A4.size _) A4.size _ = A7
      have e7 : Ext (fun j => j = A4.size) A6 A7 := by rw [← hA7]; exact (Ext.set (S := fun j => j = A4.size) rfl).trans (Ext.set rfl)
      have g7 : A7.get A4.size = some (.cells (segP f en (inlN inl) ps[i]).cells false 0) := by rw [← hA7]; simp [lt6, segP]
      have g7p := e7.get g6p ne6
      clear hA7
      have e27 : Ext NoB A2 A7 := (((e3.trans e4).trans e5).trans e6).trans2 e7 fun j hj q => by have := e3.size; have := e4.size; omega
      obtain ⟨a, c, A8, a', cc, A9, p1, p2, s8, s9, x8, x8l, x9, o8, o9, dj9⟩ := both_app (segP f en (inlN inl) ps[i]) ps[i].tag (hl.ext e27 fun _ _ q => q) (ht.ext e27 fun _ _ q => q) (by omega) ol ot dj (ex.trans e27)
      have nl2 : ¬ Own lv A2.size := fun q => by have := hl.own_lt q; omega
      have g8p := x8l.get g7p nl2
      have g8p' : (A7.alloc (.cells (segP f en (inlN inl) ps[i]).cells false 0)).get A2.size = some (.cells [.int .i64 ps[i].at_, .int .i64 ps[i].tag, .string ps[i].text] false 0) := (Ext.alloc (S := NoB)).get g7p id
      refine wC_opsD_chk ?_
      simp [r2, g7, p1, r3, g8p, p2]
      refine wE_intro ?_ ?_
      · simp only [List.all_cons, List.all_nil, chkOk, List.nil_append, List.cons_append, List.getElem?_cons_succ, List.getElem?_cons_zero]
        simp [Bx, g7p, g8p, g8p', vbeq]
      have w : IntKind.i64.wrap ((i : Int) + 1) = ((i + 1 : Nat) : Int) := by rw [IntWalk.i64_in _ (by omega)]; omega
      simp [r29]
      have gi : ps[i]? = some ps[i] := List.getElem?_eq_getElem hi
      refine ⟨k - 1, by omega, i + 1, _, _, by omega, rfl, rfl, by simp [r0], by simp, by simp, by simp [r4], by simp [r27], by simp [r28], by simpa using w, ?_, ?_, x9, o8, o9, dj9⟩
      · rw [List.take_add_one, gi, Option.toList_some, List.map_append]; exact s8
      · rw [List.take_add_one, gi, Option.toList_some, List.map_append]; exact s9
    · have hi' : i = ps.length := by omega
      subst hi'
      rw [List.take_of_length_le (Nat.le_refl _)] at hl ht
      have ll : (ps.map (segP f en (inlN inl))).length = ps.length := List.length_map _
      have lt_ : (ps.map (·.tag)).length = ps.length := List.length_map _
      have eA : Ext NoB A A2 := e1.trans ex
      have up : ∀ j, A1.size ≤ j → A.size ≤ j := fun j hj => Nat.le_trans e1.size hj
      cases hfin : f.fin with
      | false =>
        simp [hfin] at hq
        simp [r0, r28, r29, h2.cells, Fl.cells, hfin]
        simp [r2, r3]
        exact hq A2 lv tv hl ht eA (fun j hj => up j (ol j hj)) (fun j hj => up j (ot j hj)) dj
      | true =>
        cases hfa : f.fa with
        | true =>
          simp [hfin, hfa] at hq
          simp [r0, r28, r29, h2.cells, Fl.cells, hfin, hfa]
          simp [r2, r3]
          exact hq A2 lv tv hl ht eA (fun j hj => up j (ol j hj)) (fun j hj => up j (ot j hj)) dj
        | false =>
          simp [hfin, hfa] at hq
          simp [r0, r28, r29, h2.cells, Fl.cells, hfin, hfa]
          refine seg_ok' false true h2 ok fun A4 e4 => ?_
          simp
          generalize hA5 : AHeap.set (AHeap.alloc A4 _) _ _ = A5
          have e5 : Ext NoB A4 A5 := ⟨by rw [← hA5]; simp, fun j hj _ => by rw [← hA5]; simp [show j ≠ A4.size by omega]⟩
          have g5 : A5.get A4.size = some (.cells (segOf f en (inlN inl) false true).cells false 0) := by rw [← hA5]; simp
          clear hA5
          have h5 := (h2.extN e4).extN e5
          have lt5 := AHeap.get_lt g5
          obtain ⟨o5, So5, Si5, c1, c2, c3, _⟩ := id h5
          have : o5 = o := by rw [k2] at c2; cases c2; rfl
          subst this
          simp [r4, r0, c1, Fl.cells, c2]
          refine aend_ok A5 o5 ps en un So5 _ c3 ?_
          simp
          refine wF_first (own_ok f.isn f.peer en A5 _ fun A6 e6 => ?_)
          have g6 := e6.get g5 id
          have lt6 := AHeap.get_lt g6
          simp [g6, lt6, r2, r3]
          generalize hA7 : AHeap.set (AHeap.set A6 A4.size _) A4.size _ = A7
          have e7 : Ext (fun j => j = A4.size) A6 A7 := by rw [← hA7]; exact (Ext.set (S := fun j => j = A4.size) rfl).trans (Ext.set rfl)
          have z7 : A7.size = A6.size := by rw [← hA7]; rfl
          clear hA7
          have e27 : Ext NoB A2 A7 := (((e4.trans e5).trans e6)).trans2 e7 fun j hj q => by have := e4.size; omega
          obtain ⟨a, c, A8, a', cc, A9, p1, p2, s8, s9, x8, x8l, x9, o8, o9, dj9⟩ := both_app (segF f en (inlN inl)) (-1) (hl.ext e27 fun _ _ q => q) (ht.ext e27 fun _ _ q => q) (by omega) ol ot dj (ex.trans e27)
          rw [z7] at p1
          simp only [segF] at p1
          simp [p1, p2, r3]
          have z1 : (ps.map (segP f en (inlN inl)) ++ [segF f en (inlN inl)]).length = ps.length + 1 := by simp
          have z2 : (ps.map (·.tag) ++ [(-1 : Int)]).length = ps.length + 1 := by simp
          refine hq A9 _ _ s8 s9 (e1.trans x9) (fun j hj => up j (o8 j hj)) (fun j hj => up j (o9 j hj)) dj9
  · rw [if_neg hst, if_neg hst] at hq
    simp [h.cells, Fl.cells, hst]
    exact hq A _ _ SliceAt.nil SliceAt.nil Ext.refl (fun j q => (none_own j q).elim) (fun j q => (none_own j q).elim) (fun j q => (none_own j q).elim)
end
end Go.Proofs.Ytidgbapgedegbaa.Fw
