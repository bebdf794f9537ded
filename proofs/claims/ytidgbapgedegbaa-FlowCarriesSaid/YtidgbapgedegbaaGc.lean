/- A flow: taking a segment. -/
import Derived.Test.YtidgbapgedegbaaGb
import Derived.KernelRfl
namespace Go.Proofs.Ytidgbapgedegbaa.Fw
open Go Go.AS Ou
set_option maxRecDepth 100000
set_option linter.unusedSimpArgs false
set_option linter.unusedVariables false
attribute [local irreducible] Trie.set Trie.get Env.rd
attribute [local simp] Nat.add_assoc wD_cons'' wD_nil' wC_seq wC_ops wC_opsD_nil wC_cond wC_skip wC_ret wC_exit wC_block wO_cons' wO_nil wantedA wV_eq lop qop ev wL_some wL_none wPut envOf rd_set rd_leaf eqA thenC blockC wB_true wB_false endF unwindA resultsA resA tupleA rdCell rdCells wrCells cl fillP lay rep binA unA get_set' AHeap.get_alloc oneCell beqd bned idxA

/-- Where a segment acknowledges, if it does. -/
def accS (f : Fl) (en un : Int) (x : Sg) : Option Int := if x.ackOn = true ∧ 0 ≤ un + gap (num f.isn un) x.ack ∧ un + gap (num f.isn un) x.ack ≤ (if f.fin then en + 1 else en) then some (un + gap (num f.isn un) x.ack) else none
def unT (f : Fl) (en un : Int) (x : Sg) : Int := match accS f en un x with | none => un | some a => if min a en ≤ un then un else min a en
def psT (f : Fl) (ps : List Pc) (en un : Int) (x : Sg) : List Pc := match accS f en un x with | none => ps | some a => if min a en ≤ un then ps else ps.drop (taken (min a en) ps).length
def tagsT (f : Fl) (ps : List Pc) (en un : Int) (x : Sg) : List Int := match accS f en un x with | none => [] | some a => if min a en ≤ un then [] else (taken (min a en) ps).map (·.tag)
def faT (f : Fl) (en un : Int) (x : Sg) : Bool := match accS f en un x with | none => f.fa | some a => f.fa || decide (en < a)
def inT (f : Fl) (inl : Option IS) (x : Sg) : Option IS := if x.syn then inl else putI (beg f (inlN inl) x) x.data.data.toList inl

section
variable {A : AHeap} {p : Nat} {f : Fl} {ps : List Pc} {en un : Int} {inl : Option IS} {S : Nat → Prop} {Q : Value → AHeap → Prop}

theorem FlowAt.own {j : Nat} (h : FlowAt A p f ps en un inl S) (hj : S j) : j < A.size := by
  obtain ⟨o, So, Si, h1, h2, h3, h4, h5, h6, h7⟩ := h; exact h7 j hj

/-- The second half: the data. -/
theorem taker_ok (x : Sg) (sv : Value) (tags : List Int) (hx : x.data.data.toList.length < 1000000) (h : FlowAt A p f ps en un inl S) (hb : 0 ≤ inlN inl ∧ inlN inl ≤ 2305843009213693952) (env : Env) (q : Nat) (r0 : env.rd 0 = .pointer (some ⟨p, 0, none⟩)) (r3 : env.rd 3 = .pointer (some ⟨q, 0, none⟩)) (r4 : env.rd 4 = sv) (gq : A.get q = some (.cells x.cells false 0)) (hqS : ¬ S q)
    (hs : SliceAt A 1 sv tags.length (ints tags)) (hsv : ∀ j, Own sv j → ¬ S j)
    (hq : ∀ A', FlowAt A' p f ps en un (inT f inl x) S → SliceAt A' 1 sv tags.length (ints tags) → Ext S A A' → Q sv A') :
    wC T 51 none c51e { env := env, n := 54, dfs := [], A := A } (endF [.inl 4] Q) := by
  unfold c51e
  have lt := h.lt
  have cl := h.cells
  unfold inT at hq
  cases hsy : x.syn with
  | true =>
    rw [hsy, if_pos rfl] at hq
    simp [r3, gq, hsy, r4]
    exact hq A h hs Ext.refl
  | false =>
    rw [hsy, if_neg (by decide)] at hq
    simp [r3, gq, hsy]
    refine wC_opsD_chk ?_
    simp [r0, r3, cl, Fl.cells, gq]
    refine begins_ok x h hb fun A1 e1 => ?_
    have g1 := e1.get gq id
    have c1 := e1.get cl id
    have h1 := h.extN e1
    obtain ⟨o, So, Si, k1, k2, k3, k4, k5, k6, k7⟩ := h1
    cases inl with
    | none =>
      simp only at k4
      simp [r0, r3, k4, g1]
      refine iput_nil A1 _ _ _ ?_
      simp
      refine wE_intro ?_ ?_
      · simp only [List.all_cons, List.all_nil, chkOk, List.nil_append, List.cons_append, List.getElem?_cons_succ, List.getElem?_cons_zero]
        simp [Bx, c1, cl, k4, Fl.cells, vbeq, r3, gq, g1]
      simp [r4]
      exact hq A1 (h.extN e1) (hs.ext e1 fun _ _ q => q) (e1.mono fun _ _ q => q.elim)
    | some t =>
      obtain ⟨i, q1, q2⟩ := k4
      have bb : -9223372036854775808 ≤ beg f (inlN (some t)) x ∧ beg f (inlN (some t)) x < 9223372036854775808 := by unfold beg gap; omega
      simp [r0, r3, q1, g1]
      refine iput_ok A1 i t Si _ (beg f (inlN (some t)) x) x.data.data.toList hx bb q2 fun A2 hi e2 => ?_
      have c2 := e2.get c1 k6.2.1
      have g2 := e2.get g1 fun r => hqS (k5.2.2 q r)
      simp
      refine wE_intro ?_ ?_
      · simp only [List.all_cons, List.all_nil, chkOk, List.nil_append, List.cons_append, List.getElem?_cons_succ, List.getElem?_cons_zero]
        simp [Bx, c1, cl, c2, q1, Fl.cells, vbeq, r3, gq, g1, g2]
      simp [r4]
      refine hq A2 ⟨o, So, Si, c2, k2, k3.ext e2 fun j hj r => k6.2.2 j hj r, ⟨i, q1, hi⟩, k5, k6, fun j hj => Nat.lt_of_lt_of_le (k7 j hj) e2.size⟩ ((hs.ext e1 fun _ _ q => q).ext e2 fun j hj r => hsv j hj (k5.2.2 j r)) ((e1.mono fun _ _ q => q.elim).trans (e2.mono fun j _ r => k5.2.2 j r))

theorem take_ok (x : Sg) (hx : x.data.data.toList.length < 1000000) (h : FlowAt A p f ps en un inl S) (ok : FlOk ps en un) (hb : 0 ≤ inlN inl ∧ inlN inl ≤ 2305843009213693952)
    (hq : ∀ A' sv, FlowAt A' p { f with fa := faT f en un x } (psT f ps en un x) en (unT f en un x) (inT f inl x) S → SliceAt A' 1 sv (tagsT f ps en un x).length (ints (tagsT f ps en un x)) → Ext S A A' → (∀ j, Own sv j → A.size ≤ j) → Q sv A') :
    wF T (.func (.func 51) #[] #[]) [.pointer (some ⟨p, 0, none⟩), .agg ⟨x.cells⟩] A Q := by
  have lt := h.lt
  refine wF_func (first := []) (captured := []) t51 ⟨rfl, by decide⟩ ?_
  dsimp only [c51]
  simp
  generalize hA1 : A.alloc _ = A1
  obtain ⟨g1, e1, z1⟩ := alloc_facts hA1
  simp [g1]
  refine acks_ok' x (h.extN e1) ok fun A2 e2 => ?_
  have g2 := e2.get g1 id
  have h2 := (h.extN e1).extN e2
  have nS : ¬ S A.size := fun q => by have := h.own q; omega
  have e12 := e1.trans e2
  by_cases hac : x.ackOn = true ∧ 0 ≤ un + gap (num f.isn un) x.ack ∧ un + gap (num f.isn un) x.ack ≤ (if f.fin then en + 1 else en)
  · have hacc : accS f en un x = some (un + gap (num f.isn un) x.ack) := if_pos hac
    unfold unT psT tagsT faT at hq
    rw [hacc] at hq
    simp only at hq
    have hac' : (x.ackOn && decide (0 ≤ un + gap (num f.isn un) x.ack) && decide (un + gap (num f.isn un) x.ack ≤ if f.fin then en + 1 else en)) = true := by simp [hac.1, hac.2.1, hac.2.2]
    rw [hac']
    generalize ha : un + gap (num f.isn un) x.ack = a at *
    simp
    refine wC_opsD_chk ?_
    simp [g2]
    refine points_ok' x h2 ok fun A3 e3 => ?_
    rw [ha]
    have h3 := h2.extN e3
    have g3 := e3.get g2 id
    obtain ⟨o, So, Si, k1, k2, k3, k4, k5, k6, k7⟩ := h3
    have c2 := h2.cells
    simp [k1, Fl.cells, k2]
    refine aend_ok A3 o ps en un So _ k3 ?_
    simp
    refine wE_intro ?_ ?_
    · simp only [List.all_cons, List.all_nil, chkOk, List.nil_append, List.cons_append, List.getElem?_cons_succ, List.getElem?_cons_zero]
      simp [Bx, c2, k1, k2, Fl.cells, vbeq]
    have m1 : foldV minV (.int .i64 a) [.int .i64 en] = some (.int .i64 (min a en)) := by
      simp only [foldV, minV]; congr 2; omega
    simp [k1, Fl.cells, k2, m1]
    have fin : ∀ (A4 : AHeap) (sv : Value) (ps' : List Pc) (un' : Int) (tags : List Int) (e : Env), FlowAt A4 p { f with fa := f.fa || decide (en < a) } ps' en un' inl S → SliceAt A4 1 sv tags.length (ints tags) → (∀ j, Own sv j → A3.size ≤ j) → Ext S A3 A4 →
        (ps' = if min a en ≤ un then ps else ps.drop (taken (min a en) ps).length) → (un' = if min a en ≤ un then un else min a en) → (tags = if min a en ≤ un then [] else (taken (min a en) ps).map (·.tag)) → e.rd 0 = .pointer (some ⟨p, 0, none⟩) → e.rd 3 = .pointer (some ⟨A.size, 0, none⟩) → e.rd 4 = sv →
        wC T 51 none c51e { env := e, n := 54, dfs := [], A := A4 } (endF [.inl 4] Q) := by
      intro A4 sv ps' un' tags e hf hs ow ex hp hu ht e0 e3' e4
      have s3 : A.size ≤ A3.size := Nat.le_trans e12.size e3.size
      refine taker_ok x sv tags hx hf hb e A.size e0 e3' e4 (ex.get g3 nS) nS hs (fun j hj q => ?_) fun A5 h5 s5 e5 => ?_
      · have := ow j hj; have := h.own q; omega
      · subst hp; subst hu; subst ht
        exact hq A5 sv h5 s5 (((e12.trans e3).mono fun _ _ q => q.elim).trans (ex.trans e5)) fun j hj => Nat.le_trans s3 (ow j hj)
    have lst : ∀ (A4 : AHeap) (ps' : List Pc) (un' : Int), FlowAt A4 p f ps' en un' inl S → ∀ v, v = (f.fa || decide (en < a)) → ∀ A5, A4.set p (.cells [.int .u32 f.isn, .int .u32 f.peer, .int .i64 f.path, .int .i64 f.state, .int .u16 f.here, .int .u16 f.there, f.o, f.i, .bool f.fin, .bool v, .bool f.ft] false 0) = A5 → FlowAt A5 p { f with fa := f.fa || decide (en < a) } ps' en un' inl S ∧ Ext (fun j => j = p) A4 A5 := by
      intro A4 ps' un' hf v hv A5 hA5
      subst hv
      obtain ⟨g5, e5, z5⟩ := Ou.set_facts hf.lt hA5
      exact ⟨hf.cell (f' := { f with fa := f.fa || decide (en < a) }) e5 (by rw [g5]; rfl) rfl rfl, e5⟩
    have h3 := h2.extN e3
    have Sp : S p := k5.1
    refine aack_ok A3 o ps en un (min a en) So _ k3 ok.few (fun hc A4 e4 => ?_) fun hc hc2 A4 sv ho hs e4 ow => ?_
    · have hc' : min a en ≤ un := by omega
      have k1' := e4.get k1 id
      have h4 := h3.extN e4
      have l4 := h4.lt
      cases hfa : f.fa with
      | true =>
        simp [k1', Fl.cells, hfa, l4, k2]
        generalize hA5 : AHeap.set A4 p _ = A5
        obtain ⟨h5, e5⟩ := lst A4 ps un h4 true (by simp [hfa]) A5 (by rw [← hA5, k2])
        exact fin A5 (.slice none 0 0) ps un [] _ h5 (by simpa [ints] using SliceAt.nil) (fun j ⟨_, _, _, q⟩ => by cases q) ((e4.mono fun _ _ q => q.elim).trans (e5.mono fun j _ q => q ▸ Sp)) (by rw [if_pos hc']) (by rw [if_pos hc']) (by rw [if_pos hc']) (by simp) (by simp) (by simp)
      | false =>
        simp [k1', Fl.cells, hfa, l4, k2]
        generalize hA5 : AHeap.set A4 p _ = A5
        obtain ⟨h5, e5⟩ := lst A4 ps un h4 (decide (en < a)) (by simp [hfa]) A5 (by rw [← hA5, k2])
        exact fin A5 (.slice none 0 0) ps un [] _ h5 (by simpa [ints] using SliceAt.nil) (fun j ⟨_, _, _, q⟩ => by cases q) ((e4.mono fun _ _ q => q.elim).trans (e5.mono fun j _ q => q ▸ Sp)) (by rw [if_pos hc']) (by rw [if_pos hc']) (by rw [if_pos hc']) (by simp) (by simp) (by simp)
    · have hc' : ¬ min a en ≤ un := by omega
      have k1' := e4.get k1 k6.1
      have h4 : FlowAt A4 p f (ps.drop (taken (min a en) ps).length) en (min a en) inl S := by
        refine ⟨o, So, Si, k1', k2, ho, ?_, k5, k6, fun j hj => Nat.lt_of_lt_of_le (k7 j hj) e4.size⟩
        cases inl with
        | none => exact k4
        | some t => obtain ⟨i, q1, q2⟩ := k4; exact ⟨i, q1, q2.ext e4 fun j hj r => k6.2.2 j r hj⟩
      have l4 := h4.lt
      obtain ⟨sa, cs, hsv⟩ := hs.read.val
      subst hsv
      have hs' : SliceAt A4 1 (.slice sa (taken (min a en) ps).length cs) ((taken (min a en) ps).map (·.tag)).length (ints ((taken (min a en) ps).map (·.tag))) := by rw [List.length_map]; exact hs
      have npv : ∀ j, Own (.slice sa (taken (min a en) ps).length cs) j → j ≠ p := fun j hj q => by have := ow j hj; have := k7 p Sp; omega
      cases hfa : f.fa with
      | true =>
        simp [k1', Fl.cells, hfa, l4, k2]
        generalize hA5 : AHeap.set A4 p _ = A5
        obtain ⟨h5, e5⟩ := lst A4 _ _ h4 true (by simp [hfa]) A5 (by rw [← hA5, k2])
        exact fin A5 _ _ _ _ _ h5 (hs'.ext e5 fun j hj q => npv j hj q) ow ((e4.mono fun j _ q => k5.2.1 j q).trans (e5.mono fun j _ q => q ▸ Sp)) (by rw [if_neg hc']) (by rw [if_neg hc']) (by rw [if_neg hc']) (by simp) (by simp) (by simp)
      | false =>
        simp [k1', Fl.cells, hfa, l4, k2]
        generalize hA5 : AHeap.set A4 p _ = A5
        obtain ⟨h5, e5⟩ := lst A4 _ _ h4 (decide (en < a)) (by simp [hfa]) A5 (by rw [← hA5, k2])
        exact fin A5 _ _ _ _ _ h5 (hs'.ext e5 fun j hj q => npv j hj q) ow ((e4.mono fun j _ q => k5.2.1 j q).trans (e5.mono fun j _ q => q ▸ Sp)) (by rw [if_neg hc']) (by rw [if_neg hc']) (by rw [if_neg hc']) (by simp) (by simp) (by simp)
  · have hacc : accS f en un x = none := if_neg hac
    unfold unT psT tagsT faT at hq
    rw [hacc] at hq
    simp only at hq
    have hac' : (x.ackOn && decide (0 ≤ un + gap (num f.isn un) x.ack) && decide (un + gap (num f.isn un) x.ack ≤ if f.fin then en + 1 else en)) = false := by
      rw [Bool.eq_false_iff]
      intro q
      simp only [Bool.and_eq_true, decide_eq_true_eq] at q
      exact hac ⟨q.1.1, q.1.2, q.2⟩
    rw [hac']
    simp
    refine taker_ok x (.slice none 0 0) [] hx h2 hb _ A.size (by simp) (by simp) (by simp) g2 nS (by simpa [ints] using SliceAt.nil) (fun j ⟨_, _, _, q⟩ => by cases q) fun A3 h3 s3 e3 => ?_
    refine hq A3 _ h3 s3 ((e12.mono fun _ _ q => q.elim).trans e3) (fun j ⟨_, _, _, q⟩ => by cases q)
end
end Go.Proofs.Ytidgbapgedegbaa.Fw
