/- Both inlets. -/
import Derived.Test.YtidgbapgedegbaaJg
import Derived.KernelRfl
namespace Go.Proofs.Ytidgbapgedegbaa
open Go Go.AS
set_option maxRecDepth 100000
set_option linter.unusedSimpArgs false
set_option linter.unusedVariables false
attribute [local irreducible] Trie.set Trie.get Env.rd
attribute [local simp ↓] wV_b2s
attribute [local simp] Nat.add_assoc wD_cons'' wD_nil' wC_seq wC_ops wC_opsD_nil wC_cond wC_skip wC_ret wC_exit wC_block wO_cons' wO_nil wantedA wV_eq lop qop ev wL_some wL_none wPut envOf rd_set rd_leaf eqA thenC blockC wB_true wB_false endF unwindA resultsA resA tupleA rdCell rdCells wrCells cl fillP lay rep binA unA get_set' AHeap.get_alloc oneCell beqd bned idxA

theorem rinput_ok (A : AHeap) (r h t : Nat) (s : IS) (lm : List Mp) (R : Nat → Prop) (K : Nat) (off : Int) (l : List UInt8) (H : RIn A r h t s lm R K) (I : IOk s) (hl : l.length < 1000000) (ho : -9223372036854775808 ≤ off ∧ off < 9223372036854775808) (Q : Value → AHeap → Prop)
    (hq : ∀ A', RIn A' r h t { s with f := putB s.room s.base off l s.f } lm R K → Ext R A A' → Q (.int .i64 ((cntB s.room s.base s.f off l : Nat) : Int)) A') :
    wF T (.func (.func 75) #[] #[]) [.pointer (some ⟨h, 0, none⟩), .int .i64 off, .string ⟨⟨l⟩⟩] A Q := by
  obtain ⟨g, ⟨Rh, Rt, hh, ht, d1, d2⟩, fm, len, rr, lt⟩ := H
  refine rput_ok A h s.room s.base s.f Rh off l hh I.r2 I.big hl ho _ fun A1 hh1 e1 => ?_
  have z1 := e1.size
  exact hq A1 ⟨e1.get g fun q => (d1 r q).2 rfl, ⟨Rh, Rt, hh1, ht.ext e1 fun j hj q => (d2 j hj).2.2 q, d1, d2⟩, fm, len, rr, fun j hj => by have := lt j hj; omega⟩ (e1.mono fun j _ q => (d1 j q).1)
theorem rinmap_ok (A : AHeap) (r h t : Nat) (s : IS) (lm : List Mp) (R : Nat → Prop) (K : Nat) (m : Mp) (H : RIn A r h t s lm R K) (hK : K < 10000) (I : IOk s) (Q : Value → AHeap → Prop)
    (hq0 : ∀ A', ¬ (MayPut s.room s.base m ∧ findM s.ms m.at_ = none) → Ext NoB A A' → Q (.bool false) A')
    (hq1 : ∀ A' R', MayPut s.room s.base m → findM s.ms m.at_ = none → (∀ p, Place s.ms m.at_ p → RIn A' r h t { s with ms := s.ms.take p ++ m :: s.ms.drop p } (lm ++ [m]) R' (K + 1)) → Ext R A A' → (∀ j, R' j → R j ∨ (A.size ≤ j ∧ j < A'.size)) → Q (.bool true) A') :
    wF T (.func (.func 77) #[] #[]) [.pointer (some ⟨t, 0, none⟩), .agg ⟨mpc m⟩] A Q := by
  obtain ⟨g, ⟨Rh, Rt, hh, ht, d1, d2⟩, fm, len, rr, lt⟩ := H
  refine rtput_ok A t s.room s.base lm Rt m ht (by omega) I.r2 I.big _ (fun A1 hno e1 => hq0 A1 (by rw [← fm]; exact hno) e1) fun A1 Rt' may fn ht1 e1 hR => ?_
  have z1 := e1.size
  have g1 := e1.get g fun q => (d2 r q).2.1 rfl
  have hh1 := hh.ext e1 fun j hj q => (d2 j q).2.2 hj
  rw [fm] at fn
  have lr := AHeap.get_lt g
  refine hq1 A1 (fun j => R j ∨ (A.size ≤ j ∧ j < A1.size)) may fn (fun p hp => ⟨g1, ⟨Rh, Rt', hh1, ht1, fun j hj => ⟨.inl (d1 j hj).1, (d1 j hj).2⟩, fun j hj => ?_⟩, fun a => ?_, ?_, .inl rr, fun j hj => hj.elim (fun z => by have := lt j z; omega) fun z => z.2⟩) (e1.mono fun j _ q => (d2 j q).1) fun j hj => hj
  · rcases hR j hj with z | z
    · exact ⟨.inl (d2 j z).1, (d2 j z).2⟩
    · exact ⟨.inr z, by omega, fun q => by have := lt j (d1 j q).1; omega⟩
  · rw [find_snoc lm m (by rw [fm]; exact fn) a]
    simp only
    rw [find_ins hp fn a, fm]
  · rw [List.length_append, List.length_singleton]; omega
structure Bo (A : AHeap) (i r h t : Nat) (s : IS) (lm : List Mp) (S R : Nat → Prop) (K : Nat) : Prop where
  a : InAt A i s S
  b : RIn A r h t s lm R K
  dis : ∀ j, S j → ¬ R j
  lS : ∀ j, S j → j < A.size
  ok : IOk s
theorem Bo.extN {A A' : AHeap} {i r h t : Nat} {s : IS} {lm : List Mp} {S R : Nat → Prop} {K : Nat} (B : Bo A i r h t s lm S R K) (e : Ext NoB A A') : Bo A' i r h t s lm S R K :=
  ⟨B.a.extN e, B.b.ext e fun _ _ q => q, B.dis, fun j hj => Nat.lt_of_lt_of_le (B.lS j hj) e.size, B.ok⟩
theorem iok_of {A : AHeap} {i : Nat} {s : IS} {S : Nat → Prop} (h : InAt A i s S) (hs : ∀ m ∈ s.ms, ∃ n : Nat, m.sum = n ∧ n < 65536) : IOk s := by
  obtain ⟨p, mb, q, St, h1, h2, h3, h4, h5, h6⟩ := h
  exact ⟨h2.room1, h2.room2, h2.big, h2.dom, fun m hm => ⟨(h4.lens m hm).1, (h4.lens m hm).2, hs m hm⟩⟩
theorem IOk.sum {s : IS} (I : IOk s) : ∀ m ∈ s.ms, ∃ n : Nat, m.sum = n ∧ n < 65536 := fun m hm => (I.ms m hm).2.2
theorem IOk.right {s : IS} (I : IOk s) : RightOk s (rtF s.idsn) := right_in s I.sum
/-- What stays behind both. -/
def Kp2 (A A' : AHeap) (S R : Nat → Prop) : Prop := Ext (fun j => S j ∨ R j) A A'
theorem bo_put {A : AHeap} {i r h t : Nat} {s : IS} {lm : List Mp} {S R : Nat → Prop} {K : Nat} (B : Bo A i r h t s lm S R K) (off : Int) (l : List UInt8) (hl : l.length < 1000000) (ho : -9223372036854775808 ≤ off ∧ off < 9223372036854775808) :
    (∀ Q : Value → AHeap → Prop, (∀ A1, (RIn A1 r h t s lm R K) → Ext S A A1 → (∀ Q2 : Value → AHeap → Prop, (∀ A2, Bo A2 i r h t { s with f := putB s.room s.base off l s.f } lm S R K → Ext (fun j => S j ∨ R j) A A2 → Ext R A1 A2 → Q2 (.int .i64 ((cntB s.room s.base s.f off l : Nat) : Int)) A2) → wF T (.func (.func 75) #[] #[]) [.pointer (some ⟨h, 0, none⟩), .int .i64 off, .string ⟨⟨l⟩⟩] A1 Q2) → Q (.int .i64 ((cntB s.room s.base s.f off l : Nat) : Int)) A1) →
      wF T (.func (.func 31) #[] #[]) [.pointer (some ⟨i, 0, none⟩), .int .i64 off, .string ⟨⟨l⟩⟩] A Q) := by
  intro Q hq
  refine iput_ok A i s S _ off l hl ho B.a fun A1 a1 e1 => ?_
  have b1 := B.b.ext e1 fun j hj q => B.dis j q hj
  refine hq A1 b1 e1 fun Q2 hq2 => ?_
  refine rinput_ok A1 r h t s lm R K off l b1 B.ok hl ho _ fun A2 b2 e2 => ?_
  have a2 := a1.ext e2 fun j hj q => B.dis j hj q
  exact hq2 A2 ⟨a2, b2, B.dis, fun j hj => Nat.lt_of_lt_of_le (B.lS j hj) (Nat.le_trans e1.size e2.size), iok_of a2 B.ok.sum⟩ ((e1.mono fun _ _ q => .inl q).trans (e2.mono fun _ _ q => .inr q)) e2
theorem bo_map {A : AHeap} {i r h t : Nat} {s : IS} {lm : List Mp} {S R : Nat → Prop} {K : Nat} (B : Bo A i r h t s lm S R K) (hK : K < 10000) (m : Mp) (hm : m.at_ < 9223372036854775808) (hsum : ∃ n : Nat, m.sum = n ∧ n < 65536) :
    ∀ Q : Value → AHeap → Prop, (∀ b A1 S1, RIn A1 r h t s lm R K → Ext S A A1 → (∀ j, S1 j → S j ∨ (A.size ≤ j ∧ j < A1.size)) → (∀ Q2 : Value → AHeap → Prop, (∀ A2 s2 lm2 R2, Bo A2 i r h t s2 lm2 S1 R2 (K + 1) → Ext R A1 A2 → (∀ j, R2 j → R j ∨ (A1.size ≤ j ∧ j < A2.size)) → Q2 (.bool b) A2) → wF T (.func (.func 77) #[] #[]) [.pointer (some ⟨t, 0, none⟩), .agg ⟨mpc m⟩] A1 Q2) → Q (.bool b) A1) →
      wF T (.func (.func 32) #[] #[]) [.pointer (some ⟨i, 0, none⟩), .agg ⟨mpc m⟩] A Q := by
  intro Q hq
  refine imap_ok A i s S _ m hm B.a (fun A1 hno e1 => ?_) fun A1 p S1 may fn pl a1 e1 hS => ?_
  · have b1 := B.b.ext e1 fun _ _ q => q
    refine hq false A1 S b1 (e1.mono fun _ _ q => q.elim) (fun j hj => .inl hj) fun Q2 hq2 => ?_
    refine rinmap_ok A1 r h t s lm R K m b1 hK B.ok _ (fun A2 _ e2 => ?_) fun A2 R2 may fn _ _ _ => absurd ⟨may, fn⟩ hno
    have b2 := b1.ext e2 fun _ _ q => q
    exact hq2 A2 s lm R ⟨(B.a.extN e1).extN e2, ⟨b2.g, b2.rs, b2.fm, Nat.le_succ_of_le b2.len, b2.rr, b2.lt⟩, B.dis, fun j hj => Nat.lt_of_lt_of_le (B.lS j hj) (Nat.le_trans e1.size e2.size), B.ok⟩ (e2.mono fun _ _ q => q.elim) fun j hj => .inl hj
  · have b1 := B.b.ext e1 fun j hj q => B.dis j q hj
    refine hq true A1 S1 b1 e1 hS fun Q2 hq2 => ?_
    refine rinmap_ok A1 r h t s lm R K m b1 hK B.ok _ (fun A2 hno _ => absurd ⟨may, fn⟩ hno) fun A2 R2 _ _ b2 e2 hR => ?_
    have z1 := e1.size
    have z2 := e2.size
    have dS : ∀ j, S1 j → ¬ R j := fun j hj q => (hS j hj).elim (fun z => B.dis j z q) fun z => by have := B.b.lt j q; omega
    have a2 := a1.ext e2 fun j hj q => dS j hj q
    refine hq2 A2 _ _ R2 ⟨a2, b2 p pl, fun j hj q => (hR j q).elim (dS j hj) fun z => ?_, fun j hj => (hS j hj).elim (fun z => by have := B.lS j z; omega) fun z => by omega, iok_of a2 fun x hx => ?_⟩ e2 hR
    · exact (hS j hj).elim (fun y => by have := B.lS j y; omega) fun y => by omega
    · rcases (mem_ins (p := p)).1 hx with q | q
      · rw [q]; exact hsum
      · exact B.ok.sum x q
theorem bo_skip {A : AHeap} {i r h t : Nat} {s : IS} {lm : List Mp} {S R : Nat → Prop} {K : Nat} (B : Bo A i r h t s lm S R K) (hK : K < 10000) (n : Int) (hn : -9223372036854775808 ≤ n ∧ n < 9223372036854775808) :
    ∀ Q : Value → AHeap → Prop, (∀ w A1, Ext S A A1 → (∀ Q2 : Value → AHeap → Prop, (∀ w2 A2 s2 lm2 R2, Bo A2 i r h t s2 lm2 S R2 K → Ext R A1 A2 → (∀ j, R2 j → R j ∨ (A1.size ≤ j ∧ j < A2.size)) → Q2 w2 A2) → wF T (.func (.func 80) #[] #[]) [.pointer (some ⟨r, 0, none⟩), .int .i64 n] A1 Q2) → Q w A1) →
      wF T (.func (.func 38) #[] #[]) [.pointer (some ⟨i, 0, none⟩), .int .i64 n] A Q := by
  intro Q hq
  refine iskip_ok A i s S _ n B.a fun A1 w to hto a1 e1 => ?_
  have b1 := B.b.ext e1 fun j hj q => B.dis j q hj
  have z1 := e1.size
  refine hq w A1 e1 fun Q2 hq2 => ?_
  refine rinskip_ok A1 r h t s lm R K n b1 (by omega) B.ok hn _ fun A2 w2 to2 lm2 R2 hto2 b2 e2 hR => ?_
  have : to2 = to := by omega
  subst this
  have z2 := e2.size
  have a2 := a1.ext e2 fun j hj q => B.dis j hj q
  exact hq2 w2 A2 _ lm2 R2 ⟨a2, b2, fun j hj q => (hR j q).elim (B.dis j hj) fun z => by have := B.lS j hj; omega, fun j hj => by have := B.lS j hj; omega, iok_of a2 fun x hx => B.ok.sum x ((List.mem_filter.1 hx).1)⟩ e2 hR
end Go.Proofs.Ytidgbapgedegbaa
