/- An inlet: what is next. -/
import Derived.Test.YtidgbapgedegbaaIa
import Derived.KernelRfl
namespace Go.Proofs.Ytidgbapgedegbaa
open Go Go.AS
set_option maxRecDepth 100000
set_option linter.unusedSimpArgs false
set_option linter.unusedVariables false
attribute [local irreducible] Trie.set Trie.get Env.rd
attribute [local simp] Nat.add_assoc wD_cons'' wD_nil' wC_seq wC_ops wC_opsD_nil wC_cond wC_skip wC_ret wC_exit wC_block wO_cons' wO_nil wantedA wV_eq lop qop ev wL_some wL_none wPut envOf rd_set rd_leaf eqA thenC blockC wB_true wB_false endF unwindA resultsA resA tupleA rdCell rdCells wrCells cl fillP lay rep binA unA get_set' AHeap.get_alloc oneCell beqd bned idxA

theorem wF_first {f : FuncId} {a : Value} {args : List Value} {A : AHeap} {Q : Value → AHeap → Prop} (h : wF T (.func (.func f) #[] #[]) (a :: args) A Q) : wF T (.func (.func f) ⟨[a]⟩ #[]) args A Q := by
  obtain ⟨n, v, A', h1, h2⟩ := h
  refine ⟨n, v, A', ?_, h2⟩
  cases n with
  | zero => cases h1
  | succ n =>
    have e1 := callN_f T n f [] [] (a :: args) A
    have e2 := callN_f T n f [a] [] args A
    have : callN T (n + 1) (.func (.func f) ⟨[a]⟩ ⟨[]⟩) args A = callN T (n + 1) (.func (.func f) ⟨[]⟩ ⟨[]⟩) (a :: args) A := by
      rw [e1, e2]; rfl
    exact this.trans h1

def gatherB (f : Bytes) : Int → Nat → Option (List UInt8)
  | _, 0 => some []
  | off, n + 1 => match f off, gatherB f (off + 1) n with
    | some b, some l => some (b :: l)
    | _, _ => none
theorem gatherB_pre (f : Bytes) : ∀ (l : List UInt8) (off : Int), Pre f off l → gatherB f off l.length = some l
  | [], _, _ => rfl
  | b :: l, off, h => by
    have h0 := h 0 (by simp)
    simp at h0
    have := gatherB_pre f l (off + 1) fun i hi => by
      have := h (i + 1) (by simpa using hi)
      rw [show off + 1 + (i : Int) = off + ((i + 1 : Nat) : Int) by omega, this]; rfl
    simp only [List.length_cons, gatherB, h0, this]
theorem gatherB_some (f : Bytes) : ∀ (n : Nat) (off : Int) (l : List UInt8), gatherB f off n = some l → l.length = n ∧ Pre f off l
  | 0, _, l, h => by cases h; exact ⟨rfl, fun i hi => by simp at hi⟩
  | n + 1, off, l, h => by
    simp only [gatherB] at h
    split at h
    · rename_i b l' hb hl
      cases h
      obtain ⟨h1, h2⟩ := gatherB_some f n (off + 1) l' hl
      refine ⟨by simp [h1], fun i hi => ?_⟩
      cases i with
      | zero => simpa using hb
      | succ i =>
        have := h2 i (by simpa using hi)
        rw [show off + ((i + 1 : Nat) : Int) = off + 1 + (i : Int) by omega, this]; rfl
    · cases h
theorem gatherB_none (f : Bytes) (off : Int) (n : Nat) (h : ¬ ∀ i : Nat, i < n → (f (off + i)).isSome = true) : gatherB f off n = none := by
  cases hg : gatherB f off n with
  | none => rfl
  | some l =>
    obtain ⟨h1, h2⟩ := gatherB_some f n off l hg
    exact absurd (fun i hi => by rw [h2 i (by omega)]; rfl) h

/-- What is next. -/
def nextV (s : IS) (rt : Mp → List UInt8 → Bool) : Int × Mp × List UInt8 := match findM s.ms s.base with
  | none => if (s.f s.base).isSome then (3, mp0, []) else (0, mp0, [])
  | some m => match gatherB s.f s.base m.len.toNat with
    | none => (0, mp0, [])
    | some l => if s.sums && !rt m l then (2, m, l) else (1, m, l)

/-- How a sum is asked for. -/
def RightOk (s : IS) (rt : Mp → List UInt8 → Bool) : Prop := s.sums = true → ∀ (m : Mp) (l : List UInt8) (A : AHeap) (Q : Value → AHeap → Prop), m ∈ s.ms → l.length < 1000000 → (∀ A', Ext NoB A A' → Q (.bool (rt m l)) A') →
  wF T (.func (.func 121) #[] #[]) [.int .u64 (IntKind.u64.wrap (IntKind.u64.wrap (s.idsn + 1) + IntKind.u64.wrap m.off)), .int .u32 (IntKind.u32.wrap (IntKind.i64.wrap (1 + m.at_))), .int .i64 m.len, .string ⟨⟨l⟩⟩, .int .u16 m.sum] A Q

theorem inext_ok (A : AHeap) (i : Nat) (s : IS) (S : Nat → Prop) (rt : Mp → List UInt8 → Bool) (Q : Value → AHeap → Prop) (h : InAt A i s S) (hr : RightOk s rt)
    (hq : ∀ A', Ext NoB A A' → Q (.tuple ⟨[.int .i64 (nextV s rt).1, .agg ⟨mpc (nextV s rt).2.1⟩, .string ⟨⟨(nextV s rt).2.2⟩⟩]⟩) A') :
    wF T (.func (.func 81) #[] #[]) [.pointer (some ⟨i, 0, none⟩)] A Q := by
  have li := h.lt
  have h0 := h
  obtain ⟨p, mb, q, St, h1, h2, h3, h4, h5, h6⟩ := h
  have hb := h2.big
  refine wF_func (first := []) (captured := []) t81 ⟨rfl, by decide⟩ ?_
  dsimp only [c81]
  simp
  generalize hA1 : ((A.alloc _).alloc _).alloc _ = A1
  have e1 : Ext NoB A A1 := by rw [← hA1]; exact ((Ext.alloc).trans Ext.alloc).trans Ext.alloc
  have z1 : A1.size = A.size + 3 := by rw [← hA1]; rfl
  have g0 : A1.get A.size = some (.cells [.pointer (some ⟨i, 0, none⟩)] false 0) := by rw [← hA1]; simp
  have g1 : A1.get (A.size + 1) = some (.cells (mpc mp0) false 0) := by rw [← hA1]; simp [mpc, mp0]
  have g2 : A1.get (A.size + 2) = some (.cells [.string ⟨⟨[]⟩⟩] false 0) := by rw [← hA1]; simp
  clear hA1
  refine iN_ok A1 i s S _ (h0.extN e1) ?_
  have k1 := e1.get h1 id
  simp [g0, k1, show A.size ≠ A.size + 1 by omega]
  refine at_ok A1 q s.room s.base s.ms St s.base _ (h3.ext e1 fun _ _ => id) h4 fun A2 e2 => ?_
  have g0' := e2.get g0 id
  have g1' := e2.get g1 id
  have g2' := e2.get g2 id
  have k1' := e2.get k1 id
  have b1 := AHeap.get_lt g1'
  have b2 := AHeap.get_lt g2'
  have e12 := e1.trans e2
  unfold nextV at hq
  cases hfm : findM s.ms s.base with
  | none =>
    rw [hfm] at hq
    simp only at hq
    simp [atV, mpc, g1', b1, g0', k1', show i ≠ A.size + 1 by omega]
    generalize hA3 : AHeap.set A2 (A.size + 1) _ = A3
    obtain ⟨f1, e3, z3⟩ := set_facts b1 hA3
    have f0 := e3.get g0' (show ¬ A.size = A.size + 1 by omega)
    have f2 := e3.get g2' (show ¬ A.size + 2 = A.size + 1 by omega)
    have fi := e3.get k1' (show ¬ i = A.size + 1 by omega)
    have e13 : Ext NoB A A3 := e12.trans2 e3 fun j hj r => by omega
    have hh := h2.ext e13 id id
    refine wF_first (text_ok A3 p mb s.room s.base s.f _ s.base 0 (by omega) hh (fun A4 l fits hl pre e4 => ?_) fun A4 hn e4 => ?_)
    · have hl0 : l = [] := List.length_eq_zero_iff.1 (by omega)
      subst hl0
      have f0' := e4.get f0 id
      have f1' := e4.get f1 id
      have f2' := e4.get f2 id
      have fi' := e4.get fi id
      have c1 := AHeap.get_lt f1'
      have c2 := AHeap.get_lt f2'
      simp [f2', f0', fi', c2, show i ≠ A.size + 2 by omega]
      generalize hA5 : AHeap.set A4 (A.size + 2) _ = A5
      obtain ⟨i2, e5, z5⟩ := set_facts c2 hA5
      have e15 : Ext NoB A A5 := (e13.trans e4).trans2 e5 fun j hj r => by omega
      have i1 := e5.get f1' (show ¬ A.size + 1 = A.size + 2 by omega)
      have c1' := AHeap.get_lt i1
      have c2' := AHeap.get_lt i2
      refine has_ok A5 p mb s.room s.base s.f _ s.base (h2.ext e15 id id) ?_
      cases hf : (s.f s.base).isSome with
      | true =>
        rw [hf] at hq
        simp [i1, i2, c1', c2']
        refine hq _ ?_
        exact e15.trans2 ((Ext.set (S := fun j => j = A.size + 1 ∨ j = A.size + 2) (.inl rfl)).trans (Ext.set (.inr rfl))) fun j hj r => by omega
      | false =>
        rw [hf] at hq
        simp [i1, i2, c1', c2']
        refine hq _ ?_
        exact e15.trans2 ((Ext.set (S := fun j => j = A.size + 1 ∨ j = A.size + 2) (.inl rfl)).trans (Ext.set (.inr rfl))) fun j hj r => by omega
    · exfalso
      exact hn ⟨⟨by omega, by omega, by omega, by omega, by omega⟩, fun k hk => by omega⟩
  | some m =>
    rw [hfm] at hq
    simp only at hq
    have hm : m ∈ s.ms := List.mem_of_find?_eq_some hfm
    have hml := h4.lens m hm
    obtain ⟨n, hn⟩ : ∃ n : Nat, m.len = (n : Int) := ⟨m.len.toNat, by omega⟩
    rw [hn] at hq hml
    simp only [Int.toNat_natCast] at hq
    simp [atV, mpc, g1', b1, g0', k1', show i ≠ A.size + 1 by omega]
    generalize hA3 : AHeap.set A2 (A.size + 1) _ = A3
    obtain ⟨f1, e3, z3⟩ := set_facts b1 hA3
    have f0 := e3.get g0' (show ¬ A.size = A.size + 1 by omega)
    have f2 := e3.get g2' (show ¬ A.size + 2 = A.size + 1 by omega)
    have fi := e3.get k1' (show ¬ i = A.size + 1 by omega)
    have e13 : Ext NoB A A3 := e12.trans2 e3 fun j hj r => by omega
    have hh := h2.ext e13 id id
    rw [hn]
    refine wF_first (text_ok A3 p mb s.room s.base s.f _ s.base n (by omega) hh (fun A4 l fits hl pre e4 => ?_) fun A4 hnn e4 => ?_)
    · have hl' : l.length = n := by omega
      have gp := gatherB_pre s.f l s.base pre
      rw [hl'] at gp
      rw [gp] at hq
      simp only at hq
      have f0' := e4.get f0 id
      have f1' := e4.get f1 id
      have f2' := e4.get f2 id
      have fi' := e4.get fi id
      have c1 := AHeap.get_lt f1'
      have c2 := AHeap.get_lt f2'
      simp [f2', f0', fi', c2, show i ≠ A.size + 2 by omega]
      generalize hA5 : AHeap.set A4 (A.size + 2) _ = A5
      obtain ⟨i2, e5, z5⟩ := set_facts c2 hA5
      have e15 : Ext NoB A A5 := (e13.trans e4).trans2 e5 fun j hj r => by omega
      have i1 := e5.get f1' (show ¬ A.size + 1 = A.size + 2 by omega)
      have i0 := e5.get f0' (show ¬ A.size = A.size + 2 by omega)
      have ii := e5.get fi' (show ¬ i = A.size + 2 by omega)
      have c1' := AHeap.get_lt i1
      have c2' := AHeap.get_lt i2
      -- the last stores
      have last : ∀ A6, Ext NoB A5 A6 → ∀ v1 v2, Ext NoB A ((A6.set (A.size + 1) v1).set (A.size + 2) v2) := fun A6 e6 v1 v2 =>
        (e15.trans e6).trans2 ((Ext.set (S := fun j => j = A.size + 1 ∨ j = A.size + 2) (.inl rfl)).trans (Ext.set (.inr rfl))) fun j hj r => by omega
      cases hsum : s.sums with
      | false =>
        rw [hsum] at hq
        simp only [Bool.false_and, Bool.false_eq_true, if_false] at hq
        simp
        refine wC_opsD_chk ?_
        simp [i1, i2, c1', c2']
        refine wE_intro ?_ ?_
        · simp only [List.all_cons, List.all_nil, chkOk, List.nil_append, List.cons_append, List.getElem?_cons_succ, List.getElem?_cons_zero]
          simp [Bx, i1, i2, c1', c2', vbeq]
        simp [c1', c2']
        simp only [mpc] at hq
        exact hq _ (last A5 Ext.refl _ _)
      | true =>
        rw [hsum] at hq
        simp only [Bool.true_and] at hq
        simp
        refine wF_func (first := []) (captured := [.pointer (some ⟨A.size, 0, none⟩), .pointer (some ⟨A.size + 1, 0, none⟩), .pointer (some ⟨A.size + 2, 0, none⟩)]) t120 ⟨rfl, by decide⟩ ?_
        dsimp only [c120]
        simp [i0, i1, i2, ii]
        have hr' := hr hsum m l A5
        refine hr' _ hm (by have := h4.lens m hm; have := h4.room2; omega) fun A6 e6 => ?_
        have j1 := e6.get i1 id
        have j2 := e6.get i2 id
        have d1 := AHeap.get_lt j1
        have d2 := AHeap.get_lt j2
        cases hrt : rt m l with
        | true =>
          rw [hrt] at hq
          simp
          refine wC_opsD_chk ?_
          simp [j1, j2, d1, d2]
          refine wE_intro ?_ ?_
          · simp only [List.all_cons, List.all_nil, chkOk, List.nil_append, List.cons_append, List.getElem?_cons_succ, List.getElem?_cons_zero]
            simp [Bx, j1, j2, d1, d2, vbeq]
          simp [d1, d2]
          simp only [mpc] at hq
          exact hq _ (last A6 e6 _ _)
        | false =>
          rw [hrt] at hq
          simp
          refine wC_opsD_chk ?_
          simp [j1, j2, d1, d2]
          refine wE_intro ?_ ?_
          · simp only [List.all_cons, List.all_nil, chkOk, List.nil_append, List.cons_append, List.getElem?_cons_succ, List.getElem?_cons_zero]
            simp [Bx, j1, j2, d1, d2, vbeq]
          simp [d1, d2]
          simp only [mpc] at hq
          exact hq _ (last A6 e6 _ _)
    · have gn : gatherB s.f s.base n = none := gatherB_none _ _ _ fun r => hnn ⟨⟨by omega, by omega, by omega, by omega, by omega⟩, fun k hk => r k (by omega)⟩
      rw [gn] at hq
      simp only at hq
      have f0' := e4.get f0 id
      have f1' := e4.get f1 id
      have f2' := e4.get f2 id
      have c1 := AHeap.get_lt f1'
      have c2 := AHeap.get_lt f2'
      simp [f2', f1', c1, c2]
      have := hq ((((A4.set (A.size + 2) (.cells [.string ⟨⟨[]⟩⟩] false 0)).set (A.size + 1) (.cells (mpc mp0) false 0)).set (A.size + 2) (.cells [.string ⟨⟨[]⟩⟩] false 0)))
        ((e13.trans e4).trans2 (((Ext.set (S := fun j => j = A.size + 1 ∨ j = A.size + 2) (.inr rfl)).trans (Ext.set (.inl rfl))).trans (Ext.set (.inr rfl))) fun j hj r => by omega)
      simpa [mpc, mp0] using this
end Go.Proofs.Ytidgbapgedegbaa
