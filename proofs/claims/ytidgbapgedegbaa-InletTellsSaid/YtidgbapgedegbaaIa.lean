/- An inlet. -/
import Derived.Test.YtidgbapgedegbaaKf
import Derived.Test.YtidgbapgedegbaaHe
import Derived.Test.YtidgbapgedegbaaRd
import Derived.KernelRfl
namespace Go.Proofs.Ytidgbapgedegbaa
open Go Go.AS
set_option maxRecDepth 100000
set_option linter.unusedSimpArgs false
set_option linter.unusedVariables false
attribute [local irreducible] Trie.set Trie.get Env.rd
attribute [local simp] Nat.add_assoc wD_cons'' wD_nil' wC_seq wC_ops wC_opsD_nil wC_cond wC_skip wC_ret wC_exit wC_block wO_cons' wO_nil wantedA wV_eq lop qop ev wL_some wL_none wPut envOf rd_set rd_leaf eqA thenC blockC wB_true wB_false endF unwindA resultsA resA tupleA rdCell rdCells wrCells cl fillP lay rep binA unA get_set' AHeap.get_alloc oneCell beqd bned idxA

structure IS where
  room : Nat
  base : Nat
  f : Bytes
  ms : List Mp
  sums : Bool
  idsn : Int
/-- An inlet in memory; S: its own blocks. -/
def InAt (A : AHeap) (i : Nat) (s : IS) (S : Nat → Prop) : Prop :=
  ∃ p mb q St, A.get i = some (.cells [.pointer (some ⟨p, 0, none⟩), .pointer (some ⟨q, 0, none⟩), .bool s.sums, .int .u64 s.idsn] false 0) ∧ HoleAt A p mb s.room s.base s.f ∧ TabAt A q s.room s.base s.ms St ∧ TabOk s.room s.base s.ms ∧
    (S i ∧ S p ∧ S mb ∧ ∀ j, St j → S j) ∧ (i ≠ p ∧ i ≠ mb ∧ ¬ St i ∧ ¬ St p ∧ ¬ St mb)

theorem InAt.ext {A A' : AHeap} {i : Nat} {s : IS} {S U : Nat → Prop} (h : InAt A i s S) (e : Ext U A A') (hs : ∀ j, S j → ¬ U j) : InAt A' i s S := by
  obtain ⟨p, mb, q, St, h1, h2, h3, h4, h5, h6⟩ := h
  exact ⟨p, mb, q, St, e.get h1 (hs _ h5.1), h2.ext e (hs _ h5.2.1) (hs _ h5.2.2.1), h3.ext e fun j hj => hs _ (h5.2.2.2 j hj), h4, h5, h6⟩
theorem InAt.extN {A A' : AHeap} {i : Nat} {s : IS} {S : Nat → Prop} (h : InAt A i s S) (e : Ext NoB A A') : InAt A' i s S := h.ext e fun _ _ q => q
theorem InAt.lt {A : AHeap} {i : Nat} {s : IS} {S : Nat → Prop} (h : InAt A i s S) : i < A.size := by
  obtain ⟨p, mb, q, St, h1, _⟩ := h; exact AHeap.get_lt h1
theorem InAt.grow {A : AHeap} {i : Nat} {s : IS} {S U : Nat → Prop} (h : InAt A i s S) (hs : ∀ j, S j → U j) : InAt A i s U := by
  obtain ⟨p, mb, q, St, h1, h2, h3, h4, h5, h6⟩ := h
  exact ⟨p, mb, q, St, h1, h2, h3, h4, ⟨hs _ h5.1, hs _ h5.2.1, hs _ h5.2.2.1, fun j hj => hs _ (h5.2.2.2 j hj)⟩, h6⟩

theorem inew_ok (room : Nat) (sums : Bool) (idsn : Int) (h1 : 1 ≤ room) (h2 : room ≤ 2048) (A : AHeap) (Q : Value → AHeap → Prop) (hq : ∀ A' i, Ext NoB A A' → A.size ≤ i → InAt A' i ⟨room, 0, fun _ => none, [], sums, idsn⟩ (fun j => A.size ≤ j ∧ j < A'.size) → Q (.pointer (some ⟨i, 0, none⟩)) A') :
    wF T (.func (.func 27) #[] #[]) [.int .i64 (room : Nat), .bool sums, .int .u64 idsn] A Q := by
  refine wF_func (first := []) (captured := []) t27 ⟨rfl, by decide⟩ ?_
  dsimp only [c27]
  simp
  refine hnew_ok room h1 h2 A _ fun A1 p mb e1 b1 b2 hh => ?_
  simp
  refine tnew_ok room h1 h2 A1 _ fun A2 q e2 b3 ht => ?_
  simp
  generalize hA3 : A2.alloc _ = A3
  obtain ⟨g3, e3, z3⟩ := alloc_facts hA3
  obtain ⟨l1, l2⟩ := hh.lt
  have l3 := ht.lt
  have s1 := e1.size
  have s2 := e2.size
  refine hq A3 A2.size ((e1.trans e2).trans e3) (by omega) ⟨p, mb, q, fun j => j = q, g3, (hh.ext e2 id id).ext e3 id id, ht.ext e3 fun _ _ => id, ⟨List.Pairwise.nil, by simp, Nat.zero_le _, h1, h2, by simp⟩, ⟨?_, ?_, ?_, ?_⟩, by omega, by omega, by omega, by omega, by omega⟩
  · constructor <;> omega
  · constructor <;> omega
  · constructor <;> omega
  · rintro j rfl; constructor <;> omega
theorem inew_bad (room : Int) (sums : Bool) (idsn : Int) (h : room < 1 ∨ 2048 < room) (A : AHeap) (Q : Value → AHeap → Prop) (hq : Q (.pointer none) A) :
    wF T (.func (.func 27) #[] #[]) [.int .i64 room, .bool sums, .int .u64 idsn] A Q := by
  refine wF_func (first := []) (captured := []) t27 ⟨rfl, by decide⟩ ?_
  dsimp only [c27]
  simp
  refine hnew_bad room h A _ ?_
  simp
  refine tnew_bad room h A _ ?_
  simp
  exact hq

theorem iN_ok (A : AHeap) (i : Nat) (s : IS) (S : Nat → Prop) (Q : Value → AHeap → Prop) (h : InAt A i s S) (hq : Q (.int .i64 (s.base : Nat)) A) : wF T (.func (.func 35) #[] #[]) [.pointer (some ⟨i, 0, none⟩)] A Q := by
  obtain ⟨p, mb, q, St, h1, h2, h3, h4, h5, h6⟩ := h
  refine wF_func (first := []) (captured := []) t35 ⟨rfl, by decide⟩ ?_
  dsimp only [c35]
  simp [h1]
  refine base_ok A p mb s.room s.base s.f _ h2 ?_
  simp
  exact hq
theorem iN_nil (A : AHeap) (Q : Value → AHeap → Prop) (hq : Q (.int .i64 0) A) : wF T (.func (.func 35) #[] #[]) [.pointer none] A Q := by
  refine wF_func (first := []) (captured := []) t35 ⟨rfl, by decide⟩ ?_
  dsimp only [c35]; simp
  exact hq

theorem iput_ok (A : AHeap) (i : Nat) (s : IS) (S : Nat → Prop) (Q : Value → AHeap → Prop) (off : Int) (t : List UInt8) (ht : t.length < 1000000) (ho : -9223372036854775808 ≤ off ∧ off < 9223372036854775808) (h : InAt A i s S)
    (hq : ∀ A', InAt A' i { s with f := putB s.room s.base off t s.f } S → Ext S A A' → Q (.int .i64 ((cntB s.room s.base s.f off t : Nat) : Int)) A') :
    wF T (.func (.func 31) #[] #[]) [.pointer (some ⟨i, 0, none⟩), .int .i64 off, .string ⟨⟨t⟩⟩] A Q := by
  obtain ⟨p, mb, q, St, h1, h2, h3, h4, h5, h6⟩ := h
  refine wF_func (first := []) (captured := []) t31 ⟨rfl, by decide⟩ ?_
  dsimp only [c31]
  simp [h1]
  refine put_ok A p mb s.room s.base s.f _ off t ht ho h2 fun A' hh e => ?_
  simp
  exact hq A' ⟨p, mb, q, St, e.get h1 h6.2.1, hh, h3.ext e fun j hj r => h6.2.2.2.2 (r ▸ hj), h4, h5, h6⟩ (e.mono fun j _ r => r ▸ h5.2.2.1)
theorem iput_nil (A : AHeap) (Q : Value → AHeap → Prop) (a b : Value) (hq : Q (.int .i64 0) A) : wF T (.func (.func 31) #[] #[]) [.pointer none, a, b] A Q := by
  refine wF_func (first := []) (captured := []) t31 ⟨rfl, by decide⟩ ?_
  dsimp only [c31]; simp
  exact hq

theorem imap_ok (A : AHeap) (i : Nat) (s : IS) (S : Nat → Prop) (Q : Value → AHeap → Prop) (m : Mp) (hr : m.at_ < 9223372036854775808) (h : InAt A i s S)
    (hq0 : ∀ A', ¬ (MayPut s.room s.base m ∧ findM s.ms m.at_ = none) → Ext NoB A A' → Q (.bool false) A')
    (hq1 : ∀ A' k S', MayPut s.room s.base m → findM s.ms m.at_ = none → Place s.ms m.at_ k → InAt A' i { s with ms := s.ms.take k ++ m :: s.ms.drop k } S' → Ext S A A' → (∀ j, S' j → S j ∨ (A.size ≤ j ∧ j < A'.size)) → Q (.bool true) A') :
    wF T (.func (.func 32) #[] #[]) [.pointer (some ⟨i, 0, none⟩), .agg ⟨mpc m⟩] A Q := by
  have li := h.lt
  have h0 := h
  obtain ⟨p, mb, q, St, h1, h2, h3, h4, h5, h6⟩ := h
  refine wF_func (first := []) (captured := []) t32 ⟨rfl, by decide⟩ ?_
  dsimp only [c32]
  simp [mpc, h1, show i ≠ A.size by omega]
  generalize hA1 : A.alloc _ = A1
  obtain ⟨g1, e1, z1⟩ := alloc_facts hA1
  refine tput_ok A1 q s.room s.base s.ms St m _ hr (h3.ext e1 fun _ _ => id) h4 (fun A2 hn e2 => ?_) fun A2 k S' may fn pl ht tok e2 hs => ?_
  · simp
    exact hq0 A2 hn (e1.trans e2)
  · simp
    have ll := h2.lt
    refine hq1 A2 k (fun j => S j ∨ (A.size ≤ j ∧ j < A2.size)) may fn pl ⟨p, mb, q, S', ?_, ?_, ht, tok, ⟨.inl h5.1, .inl h5.2.1, .inl h5.2.2.1, fun j hj => ?_⟩, h6.1, h6.2.1, fun r => ?_, fun r => ?_, fun r => ?_⟩ ?_ (fun j hj => hj)
    · exact e2.get (e1.get h1 id) h6.2.2.1
    · exact (h2.ext e1 id id).ext e2 h6.2.2.2.1 h6.2.2.2.2
    · rcases hs j hj with r | r
      · exact .inl (h5.2.2.2 j r)
      · exact .inr ⟨by omega, r.2⟩
    · rcases hs i r with r | r
      · exact h6.2.2.1 r
      · omega
    · rcases hs p r with r | r
      · exact h6.2.2.2.1 r
      · omega
    · rcases hs mb r with r | r
      · exact h6.2.2.2.2 r
      · omega
    · exact (e1.mono fun _ _ r => r.elim).trans2 e2 fun j _ r => h5.2.2.2 j r
theorem imap_nil (A : AHeap) (Q : Value → AHeap → Prop) (m : Mp) (hq : ∀ A', Ext NoB A A' → Q (.bool false) A') : wF T (.func (.func 32) #[] #[]) [.pointer none, .agg ⟨mpc m⟩] A Q := by
  refine wF_func (first := []) (captured := []) t32 ⟨rfl, by decide⟩ ?_
  dsimp only [c32]
  simp [mpc]
  exact hq _ Ext.alloc

/-- What an inlet is behind a skip. -/
def skipS (s : IS) (to : Nat) : IS := { s with base := to, f := cutB s.f to, ms := s.ms.filter fun m => decide ((to : Int) ≤ m.at_) }

theorem iskip_ok (A : AHeap) (i : Nat) (s : IS) (S : Nat → Prop) (Q : Value → AHeap → Prop) (n : Int) (h : InAt A i s S)
    (hq : ∀ A' w (to : Nat), (to : Int) = s.base + max 0 (min n (2305843009213693952 - s.base)) → InAt A' i (skipS s to) S → Ext S A A' → Q w A') :
    wF T (.func (.func 38) #[] #[]) [.pointer (some ⟨i, 0, none⟩), .int .i64 n] A Q := by
  obtain ⟨p, mb, q, St, h1, h2, h3, h4, h5, h6⟩ := h
  have hb := h2.big
  refine wF_func (first := []) (captured := []) t38 ⟨rfl, by decide⟩ ?_
  dsimp only [c38]
  simp [h1]
  refine skip_ok A p mb s.room s.base s.f _ n h2 fun A1 w to hto hh e1 => ?_
  have g1 := e1.get h1 (fun r => r.elim h6.1 h6.2.1)
  have t1 := h3.ext e1 fun j hj r => r.elim (fun r => h6.2.2.2.1 (r ▸ hj)) fun r => h6.2.2.2.2 (r ▸ hj)
  simp
  refine wC_opsD_chk ?_
  simp [g1]
  refine wF_func (first := []) (captured := []) t35 ⟨rfl, by decide⟩ ?_
  dsimp only [c35]
  simp [g1]
  refine base_ok A1 p mb s.room to _ _ hh ?_
  simp
  refine cut_ok A1 q s.room s.base s.ms St to _ t1 h4 fun A2 w2 b hbe ht tok e2 => ?_
  have : b = to := by omega
  subst this
  have g2 := e2.get g1 h6.2.2.1
  simp
  refine wE_intro ?_ ?_
  · simp only [List.all_cons, List.all_nil, chkOk, List.nil_append, List.cons_append, List.getElem?_cons_succ, List.getElem?_cons_zero]
    simp [Bx, g1, g2, vbeq]
  simp
  refine hq A2 _ b hto ⟨p, mb, q, St, g2, hh.ext e2 h6.2.2.2.1 h6.2.2.2.2, ht, tok, h5, h6⟩ ?_
  exact (e1.mono fun j _ r => r.elim (fun r => r ▸ h5.2.1) fun r => r ▸ h5.2.2.1).trans (e2.mono fun j _ r => h5.2.2.2 j r)
theorem iskip_nil (A : AHeap) (Q : Value → AHeap → Prop) (a : Value) (hq : ∀ w, Q w A) : wF T (.func (.func 38) #[] #[]) [.pointer none, a] A Q := by
  refine wF_func (first := []) (captured := []) t38 ⟨rfl, by decide⟩ ?_
  dsimp only [c38]; simp
  exact hq _

theorem iraw_ok (A : AHeap) (i : Nat) (s : IS) (S : Nat → Prop) (Q : Value → AHeap → Prop) (n : Int) (h : InAt A i s S)
    (hq : ∀ A' l, Ext NoB A A' → (∀ nx : Nat, NextIs s.base s.f nx → (l.length : Int) = max 0 (min n (nx - s.base))) → Pre s.f s.base l → Q (.string ⟨⟨l⟩⟩) A') :
    wF T (.func (.func 34) #[] #[]) [.pointer (some ⟨i, 0, none⟩), .int .i64 n] A Q := by
  have h0 := h
  obtain ⟨p, mb, q, St, h1, h2, h3, h4, h5, h6⟩ := h
  have hb := h2.big; have r2 := h2.room2
  refine wF_func (first := []) (captured := []) t34 ⟨rfl, by decide⟩ ?_
  dsimp only [c34]
  by_cases c : n < 1
  · simp [c]
    exact hq A [] Ext.refl (fun nx hx => by have := hx.1; simp only [List.length_nil]; omega) (fun i hi => by simp at hi)
  simp [c]
  refine iN_ok A i s S _ h0 ?_
  simp
  refine wC_opsD_chk ?_
  simp [h1]
  refine next_ok A p mb s.room s.base s.f _ h2 fun nx hnx hle => ?_
  have hn1 := hnx.1
  have w1 : IntKind.i64.wrap ((nx : Int) - (s.base : Int)) = ((nx - s.base : Nat) : Int) := by rw [IntWalk.i64_in _ (by omega)]; omega
  obtain ⟨m, hm⟩ : ∃ m : Nat, (m : Int) = min n ((nx - s.base : Nat) : Int) := ⟨(min n ((nx - s.base : Nat) : Int)).toNat, by omega⟩
  have m1 : foldV minV (.int .i64 n) [.int .i64 ((nx - s.base : Nat) : Int)] = some (.int .i64 (m : Int)) := by
    simp only [foldV, minV]; congr 2; omega
  simp [w1, m1]
  refine text_ok A p mb s.room s.base s.f _ s.base m (by omega) h2 (fun A' l fits hl pre e => ?_) fun A' hn e => ?_
  · simp
    refine wE_intro ?_ ?_
    · simp only [List.all_cons, List.all_nil, chkOk, List.nil_append, List.cons_append, List.getElem?_cons_succ, List.getElem?_cons_zero]
      simp [Bx, h1, e.get h1 id, vbeq]
    simp
    refine hq A' l e (fun nx' hx' => ?_) pre
    have : nx' = nx := by
      rcases Nat.lt_trichotomy nx nx' with r | r | r
      · have := hx'.2.2 nx hn1 r; rw [hnx.2.1] at this; cases this
      · exact r.symm
      · have := hnx.2.2 nx' hx'.1 r; rw [hx'.2.1] at this; cases this
    subst this; omega
  · exfalso
    refine hn ⟨⟨by omega, by omega, by omega, by omega, by omega⟩, fun k hk => ?_⟩
    have := hnx.2.2 (s.base + k) (by omega) (by omega)
    simpa using this
end Go.Proofs.Ytidgbapgedegbaa
