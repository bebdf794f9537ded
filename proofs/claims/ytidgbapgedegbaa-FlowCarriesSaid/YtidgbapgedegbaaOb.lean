/- Contracts of an outlet. -/
import Derived.Test.YtidgbapgedegbaaOa
import Derived.KernelRfl
namespace Go.Proofs.Ytidgbapgedegbaa.Ou
open Go Go.AS
set_option maxRecDepth 100000
set_option linter.unusedSimpArgs false
set_option linter.unusedVariables false
attribute [local irreducible] Trie.set Trie.get Env.rd
attribute [local simp] Nat.add_assoc wD_cons'' wD_nil' wC_seq wC_ops wC_opsD_nil wC_cond wC_skip wC_ret wC_exit wC_block wO_cons' wO_nil wantedA wV_eq lop qop ev wL_some wL_none wPut envOf rd_set rd_leaf eqA thenC blockC wB_true wB_false endF unwindA resultsA resA tupleA rdCell rdCells wrCells cl fillP lay rep binA unA get_set' AHeap.get_alloc oneCell beqd bned idxA

structure Pc where
  at_ : Int
  tag : Int
  text : ByteArray

def pcells (l : List Pc) : List Value := l.flatMap fun p => [.int .i64 p.at_, .int .i64 p.tag, .string p.text]
def Pc.fin (p : Pc) : Int := IntKind.i64.wrap (p.at_ + p.text.size)
def taken (off : Int) (l : List Pc) : List Pc := l.takeWhile fun p => decide (p.fin ≤ off)

theorem pcells_at (l : List Pc) (i : Nat) (hi : i < l.length) : ((pcells l).drop (i * 3)).take 3 = [.int .i64 l[i].at_, .int .i64 l[i].tag, .string l[i].text] := by
  induction l generalizing i with
  | nil => simp at hi
  | cons p l ih =>
    cases i with
    | zero => simp [pcells]
    | succ i =>
      have := ih i (by simpa using hi)
      rw [show (i + 1) * 3 = 3 + i * 3 by omega, ← List.drop_drop]
      simpa [pcells] using this
theorem taken_get (off : Int) (l : List Pc) (i : Nat) (h : i < (taken off l).length) : (taken off l)[i]? = l[i]? := by
  obtain ⟨r, hr⟩ := List.takeWhile_prefix (fun p : Pc => decide (p.fin ≤ off)) (l := l)
  conv => rhs; rw [← hr]
  exact (List.getElem?_append_left h).symm

theorem taken_stop (off : Int) (l : List Pc) (i : Nat) (h : i ≤ (taken off l).length) (hi : i < l.length) (hf : off < l[i].fin) : (taken off l).length = i := by
  rcases Nat.lt_or_ge i (taken off l).length with q | q
  · have g := taken_get off l i q
    rw [List.getElem?_eq_getElem q, List.getElem?_eq_getElem hi] at g
    have g := Option.some.inj g
    have a : (taken off l).all (fun p : Pc => decide (p.fin ≤ off)) = true := List.all_takeWhile
    have := List.all_eq_true.1 a _ (List.getElem_mem q)
    rw [g] at this
    simp at this; omega
  · omega

theorem taken_go (off : Int) (l : List Pc) (i : Nat) (h : i ≤ (taken off l).length) (hi : i < l.length) (hf : ¬ off < l[i].fin) : i + 1 ≤ (taken off l).length := by
  induction l generalizing i with
  | nil => simp at hi
  | cons p l ih =>
    cases i with
    | zero =>
      have : p.fin ≤ off := by simpa using hf
      simp [taken, this]
    | succ i =>
      by_cases hp : p.fin ≤ off
      · have e : taken off (p :: l) = p :: taken off l := by simp [taken, hp]
        rw [e] at h ⊢
        have := ih i (by simpa using h) (by simpa using hi) (by simpa using hf)
        simpa using this
      · have e : taken off (p :: l) = [] := by simp [taken, hp]
        rw [e] at h; simp at h

def OvI (l t d x2 n : Nat) (e : Env) (a : Option Addr) (c : Nat) (off : Int) (ps : List Pc) (A : AHeap) (m : Nat) (st : St) : Prop := ∃ i A1 sv, m + i = n ∧ i ≤ (taken off ps).length ∧ st.n = 26 ∧ st.dfs = [] ∧ st.A = A1 ∧ st.env.rd 0 = .func (.yield l) #[] #[] ∧ st.env.rd 2 = .pointer (some ⟨x2, 0, none⟩) ∧ st.env.rd 9 = .slice a n c ∧ st.env.rd 10 = .int .i64 (n : Nat) ∧ st.env.rd 11 = .int .i64 (i : Nat) ∧
      A1.get l = some (.loop .ready none 108 58 e [27] c9a c9b d) ∧ A1.get t = some (.cells [sv] false 0) ∧ SliceAt A1 1 sv i (ints (((taken off ps).take i).map (·.tag))) ∧ Ext (fun j => j = t ∨ j = l) A A1 ∧ (∀ j, Own sv j → A.size ≤ j)
theorem over1_ok (l t d x1 x2 b : Nat) (e : Env) (due : Value) (n : Nat) (ps : List Pc) (A : AHeap) (off : Int) (en un : Value) (Q : Value → AHeap → Prop)
    (hl : A.get l = some (.loop .ready none 108 58 e [27] c9a c9b d)) (he : e.rd 4 = .pointer (some ⟨t, 0, none⟩)) (ht : A.get t = some (.cells [.slice none 0 0] false 0))
    (h1 : A.get x1 = some (.cells [.pointer (some ⟨b, 0, none⟩)] false 0)) (h2 : A.get x2 = some (.cells [.int .i64 off] false 0)) (hb : A.get b = some (.cells [due, en, un] false 0)) (hd : SliceAt A 3 due n (pcells ps)) (hn : n < 1000)
    (nlt : l ≠ t) (n1 : x1 ≠ l) (n2 : x1 ≠ t) (n3 : x2 ≠ l) (n4 : x2 ≠ t) (n5 : b ≠ l) (n6 : b ≠ t) (n7 : ¬ Own due l) (n8 : ¬ Own due t)
    (hq : ∀ A' sv v, A'.get l = some (.loop .ready none 108 58 e [27] c9a c9b d) → A'.get t = some (.cells [sv] false 0) → SliceAt A' 1 sv (taken off ps).length (ints ((taken off ps).map (·.tag))) → Ext (fun j => j = t ∨ j = l) A A' → (∀ j, Own sv j → A.size ≤ j) → Q v A') :
    wF T (.func (.func 162) ⟨[]⟩ ⟨[.pointer (some ⟨x1, 0, none⟩), .pointer (some ⟨x2, 0, none⟩)]⟩) [.func (.yield l) #[] #[]] A Q := by
  obtain ⟨a, c, rfl⟩ := hd.read.val
  refine wF_func t162 ⟨rfl, by decide⟩ ?_
  dsimp only [c162]; simp [h1, hb]
  refine wC_loop_inv (OvI l t d x2 n e a c off ps A) ?_ n _
    ⟨0, A, .slice none 0 0, rfl, Nat.zero_le _, rfl, rfl, rfl, by simp, by simp, by simp, by simp, by simp, hl, ht, by simpa [ints] using SliceAt.nil, Ext.refl, fun j ⟨_, _, _, q⟩ => by cases q⟩
  rintro m ⟨env, nn, dfs, A'⟩ ⟨i, A1, sv, k1, k2, k3, k4, k5, k6, k7, k8, k9, k10, g1, g2, g3, g4, g5⟩
  simp only at k3 k4 k5 k6 k7 k8 k9 k10
  subst k3; subst k4; subst k5
  have hps : n = ps.length := by
    have := hd.read.length
    have e : ∀ l : List Pc, (pcells l).length = l.length * 3 := by
      intro l
      induction l with
      | nil => rfl
      | cons p l ih => simp only [pcells, List.flatMap_cons, List.length_append, List.length_cons, List.length_nil] at ih ⊢; omega
    rw [e] at this; omega
  by_cases hi : i < n
  · have d2 := (hd.ext g4 (fun j hj q => by rcases q with q | q; exact n8 (q ▸ hj); exact n7 (q ▸ hj)))
    obtain ⟨d1, o1, q1, bs, ro, opn, r0, r1, r2, r3⟩ := d2.read.elem2 hi
    cases r0
    rw [pcells_at ps i (by omega)] at r3
    have z1 : A.size ≤ A'.size := g4.size
    have l1 : l < A.size := AHeap.get_lt hl
    have t1 : t < A.size := AHeap.get_lt ht
    have y1 : x2 < A.size := AHeap.get_lt h2
    have j2 : A'.get x2 = some (.cells [.int .i64 off] false 0) := g4.get h2 (fun q => q.elim n4 n3)
    have r2' : o1 + (i * 3 + 3) ≤ bs.length := by omega
    simp [k6, k7, k8, k9, k10, hi, r1, r2', r3]
    generalize hA2 : AHeap.set (AHeap.alloc A' _) _ _ = A2
    have z2 : A2.size = A'.size + 1 := by rw [← hA2]; rfl
    have e2 : Ext NoB A' A2 := ⟨by omega, fun j hj _ => by rw [← hA2]; simp [show j ≠ A'.size by omega]⟩
    have f2 : A2.get A'.size = some (.cells [.int .i64 ps[i].at_, .int .i64 ps[i].tag, .string ps[i].text] false 0) := by rw [← hA2]; simp
    have j2c := e2.get j2 (fun q => q)
    refine wC_opsD_chk ?_
    simp [k6, k7, k8, k9, k10, f2, j2c]
    refine pend_ok _ _ _ _ _ fun A3 e3 => ?_
    have e23 : Ext NoB A' A3 := e2.trans e3
    have f3 : A3.get A'.size = some (.cells [.int .i64 ps[i].at_, .int .i64 ps[i].tag, .string ps[i].text] false 0) := e3.get f2 (fun q => q)
    have j3 := e23.get j2 (fun q => q)
    have fn0 : IntKind.i64.wrap (ps[i].at_ + ps[i].text.size) = ps[i].fin := rfl
    rw [fn0]
    have j2b := e2.get j2 (fun q => q)
    have ol : ¬ Own sv l := fun q => by have := g5 l q; omega
    have ot : ¬ Own sv t := fun q => by have := g5 t q; omega
    by_cases hf : off < ps[i].fin
    · have hk := taken_stop off ps i k2 (by omega) hf
      simp [k6, k7, k9, k10, k8, j3, hf]
      refine wE_intro ?_ ?_
      · simp only [List.all_cons, List.all_nil, chkOk, List.nil_append, List.cons_append, List.getElem?_cons_succ, List.getElem?_cons_zero]
        simp [Bx, vbeq, k7, j2b, j3]
      simp
      refine hq A3 sv _ (e23.get g1 (fun q => q)) (e23.get g2 (fun q => q)) ?_ (g4.trans2 e23 fun _ _ q => q.elim) g5
      rw [List.take_of_length_le (by omega)] at g3
      rw [hk]
      exact g3.ext e23 fun _ _ q => q
    · simp [k6, k7, k9, k10, k8, j3, hf, f3]
      refine ackyield_ok l t d e sv i _ _ _ _ _ _ (e23.get g1 (fun q => q)) he (e23.get g2 (fun q => q)) (g3.ext e23 fun _ _ q => q) (by omega) nlt ol ot fun A4 sv' p1 p2 p3 p4 p5 => ?_
      simp [k6, k7, k9, k10, k8, j3, hf, f3]
      refine wE_intro ?_ ?_
      · simp only [List.all_cons, List.all_nil, chkOk, List.nil_append, List.cons_append, List.getElem?_cons_succ, List.getElem?_cons_zero]
        simp [Bx, vbeq, k7, j2b, j3]
      simp [k6, k7, k9, k10, k8]
      have kg := taken_go off ps i k2 (by omega) hf
      refine ⟨m - 1, by omega, i + 1, A4, sv', by omega, kg, rfl, rfl, rfl, by simp [k6], by simp [k7], by simp [k8], by simp [k9], by simpa using wrap_succ i (by omega), p1, p2, ?_, (g4.trans2 e23 fun _ _ q => q.elim).trans2 p4 ?_, ?_⟩
      · have e : (taken off ps).take (i + 1) = (taken off ps).take i ++ [ps[i]] := by
          rw [List.take_add_one, taken_get off ps i kg, List.getElem?_eq_getElem (by omega)]; rfl
        rw [e, List.map_append]
        exact p3
      · intro j hj q
        rcases q with q | q | q
        · exact .inl q
        · exact .inr q
        · have := g5 j q; omega
      · intro j hj
        rcases p5 j hj with q | q
        · exact g5 j q
        · have := e23.size; omega
  · have hm : m = 0 := by omega
    have hk : (taken off ps).length = i := by
      have : (taken off ps).length ≤ ps.length := (List.takeWhile_prefix _).length_le
      omega
    simp [k8, k9, k10, hi]
    rw [List.take_of_length_le (by omega)] at g3
    exact hq A' sv _ g1 g2 (by rw [hk]; exact g3) g4 g5

attribute [local simp] Nat.add_assoc

theorem pcells_len (l : List Pc) : (pcells l).length = l.length * 3 := by
  induction l with
  | nil => rfl
  | cons p l ih => simp only [pcells, List.flatMap_cons, List.length_append, List.length_cons, List.length_nil] at ih ⊢; omega
theorem pcells_drop (l : List Pc) (k : Nat) : (pcells l).drop (k * 3) = pcells (l.drop k) := by
  induction l generalizing k with
  | nil => simp [pcells]
  | cons p l ih =>
    cases k with
    | zero => simp
    | succ k =>
      rw [show (k + 1) * 3 = 3 + k * 3 by omega, ← List.drop_drop, List.drop_succ_cons, ← ih k]
      simp [pcells]

theorem ack_ok (b n : Nat) (due : Value) (ps : List Pc) (en un off : Int) (A : AHeap) (Q : Value → AHeap → Prop) (h : A.get b = some (.cells [due, .int .i64 en, .int .i64 un] false 0)) (hd : SliceAt A 3 due n (pcells ps)) (hdb : ¬ Own due b) (hn : n < 1000)
    (hq0 : off ≤ un ∨ en < off → ∀ A', Ext NoB A A' → Q (.slice none 0 0) A')
    (hq : un < off → off ≤ en → ∀ A' sv due', A'.get b = some (.cells [due', .int .i64 en, .int .i64 off] false 0) → SliceAt A' 3 due' (n - (taken off ps).length) (pcells (ps.drop (taken off ps).length)) → ¬ Own due' b →
      SliceAt A' 1 sv (taken off ps).length (ints ((taken off ps).map (·.tag))) → Ext (fun j => j = b) A A' → (∀ j, Own sv j → A.size ≤ j) → (∀ j, Own due' j → Own due j) → Q sv A') :
    wF T (.func (.func 108) #[] #[]) [.pointer (some ⟨b, 0, none⟩), .int .i64 off] A Q := by
  have hb := AHeap.get_lt h
  have hne : b ≠ A.size := by omega
  refine wF_func (first := []) (captured := []) t108 ⟨rfl, by decide⟩ ?_
  by_cases c1 : off ≤ un
  · dsimp only [c108]; simp [h, hne, c1]
    exact hq0 (.inl c1) _ ⟨by simp, fun j hj _ => by simp [show j ≠ A.size by omega]⟩
  · by_cases c2 : en < off
    · dsimp only [c108]; simp [h, hne, c1, c2]
      exact hq0 (.inr c2) _ ⟨by simp, fun j hj _ => by simp [show j ≠ A.size by omega]⟩
    · dsimp only [c108]; simp [h, hne, c1, c2]
      refine over_ok _ _ _ _ ?_
      simp [h, hne]
      refine wC_range ?_
      simp
      refine over1_ok (A.size + 4) A.size (A.size + 3) (A.size + 1) (A.size + 2) b _ due n ps _ off (.int .i64 en) (.int .i64 un) _ (get_alloc_top (by simp)) (by simp) (by simp) (by simp) (by simp) (by simp [h, show b ≠ A.size + 4 by omega, show b ≠ A.size + 3 by omega, show b ≠ A.size + 2 by omega, show b ≠ A.size + 1 by omega, hne])
        (hd.ext (S := NoB) ?_ fun _ _ q => q) hn (by omega) (by omega) (by omega) (by omega) (by omega) (by omega) (by omega) (fun q => by have := hd.own_lt q; omega) (fun q => by have := hd.own_lt q; omega) fun A' sv v p1 p2 p3 p4 p5 => ?_
      · exact Ext.alloc.trans (Ext.alloc.trans (Ext.alloc.trans (Ext.alloc.trans Ext.alloc)))
      · have z5 := AHeap.get_lt p1
        have e5 : Ext (fun j => j = A.size ∨ j = A.size + 4) A A' := Ext.trans (Ext.alloc.trans (Ext.alloc.trans (Ext.alloc.trans (Ext.alloc.trans Ext.alloc)))) p4
        have kn : (taken off ps).length ≤ n := by
          have a1 : (taken off ps).length ≤ ps.length := (List.takeWhile_prefix _).length_le
          have a2 := hd.read.length
          rw [pcells_len] at a2
          omega
        obtain ⟨a, c, hv⟩ := hd.read.val
        subst hv
        obtain ⟨a1, cc1, hv⟩ := p3.read.val
        subst hv
        simp [endR, p1]
        refine ⟨.normal, rfl, ?_⟩
        generalize hA6 : A'.set (A.size + 4) _ = A6
        have e6 : Ext (fun j => j = A.size + 4) A' A6 := by rw [← hA6]; exact Ext.set rfl
        have e56 : Ext (fun j => j = A.size ∨ j = A.size + 4) A A6 := e5.trans2 e6 (by omega)
        have gb := e56.get h (by omega)
        have gd := e6.get (p4.get (b := A.size + 3) (x := .dfr false) (by simp) (by omega)) (by omega)
        have gs := e6.get p2 (by omega)
        have z6 : A'.size ≤ A6.size := e6.size
        obtain ⟨v', q1, q2, q3⟩ := (hd.ext e56 (fun j hj q => by have := hd.own_lt hj; omega)).cut3 (l := (taken off ps).length) (k1 := .i64) (k2 := .i64) (k3 := .i64) (by decide) kn (by omega)
        obtain ⟨a2, cc2, hv⟩ := q2.read.val
        subst hv
        have zb : b < A6.size := by omega
        have zb1 : A.size < A6.size := by omega
        have zb3 : A.size + 3 < A6.size := by omega
        simp [gb, gd, gs, q1, zb, zb1, zb3, hne, hne.symm, show b ≠ A.size + 3 by omega, show A.size + 3 ≠ b by omega]
        generalize hA7 : A6.set b _ = A7
        have e7 : Ext (fun j => j = b) A6 A7 := by rw [← hA7]; exact Ext.set rfl
        have z7 : A7.size = A6.size := by rw [← hA7]; rfl
        have o2 : ¬ Own (.slice a2 (n - (taken off ps).length) cc2) b := fun q => hdb (q3 b q)
        have o1 : ∀ j, Own (.slice a1 (taken off ps).length cc1) j → A.size + 5 ≤ j := fun j q => by have := p5 j q; simpa using this
        have f : Ext (fun j => j = b ∨ j = A.size ∨ j = A.size + 3) A7 ((((A7.set b (.cells [.slice a2 (n - (taken off ps).length) cc2, .int .i64 en, .int .i64 off] false 0)).set A.size (.cells [.slice a1 (taken off ps).length cc1] false 0))).set (A.size + 3) (.dfr true)) := (Ext.set (.inl rfl)).trans ((Ext.set (.inr (.inl rfl))).trans (Ext.set (.inr (.inr rfl))))
        have q2' := (SliceAt.ext q2 e7 fun j hj q => o2 (q ▸ hj)).ext f fun j hj q => ?_
        · refine hq (by omega) (by omega) _ _ (.slice a2 (n - (taken off ps).length) cc2) ?_ (by rw [pcells_drop] at q2'; exact q2') o2 (((p3.ext e6 ?_).ext e7 ?_).ext f ?_) ?_ (fun j hj => by have := o1 j hj; omega) q3
          · simp [hne, show b ≠ A.size + 3 by omega, z7, zb]
          · intro j hj q; have := o1 j hj; omega
          · intro j hj q; have := o1 j hj; omega
          · intro j hj q; have := o1 j hj; omega
          · exact ((e56.mono (S' := fun j => j = b) fun j hj q => by omega).trans2 e7 fun _ _ q => q).trans2 f fun j hj q => by omega
        · have := hd.own_lt (q3 j hj)
          rcases q with q | q | q
          · exact o2 (q ▸ hj)
          · omega
          · omega
end Go.Proofs.Ytidgbapgedegbaa.Ou
