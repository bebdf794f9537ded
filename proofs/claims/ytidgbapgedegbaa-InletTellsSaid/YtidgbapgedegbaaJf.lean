/- The reference's inlet: contracts. -/
import Derived.Test.YtidgbapgedegbaaJd
import Derived.Test.YtidgbapgedegbaaJe
import Derived.Test.YtidgbapgedegbaaJa
import Derived.Test.YtidgbapgedegbaaDl
import Derived.KernelRfl
namespace Go.Proofs.Ytidgbapgedegbaa
open Go Go.AS
set_option maxRecDepth 100000
set_option linter.unusedSimpArgs false
set_option linter.unusedVariables false
attribute [local irreducible] Trie.set Trie.get Env.rd
attribute [local simp ↓] wV_b2s
attribute [local simp] Nat.add_assoc wD_cons'' wD_nil' wC_seq wC_ops wC_opsD_nil wC_cond wC_skip wC_ret wC_exit wC_block wO_cons' wO_nil wantedA wV_eq lop qop ev wL_some wL_none wPut envOf rd_set rd_leaf eqA thenC blockC wB_true wB_false endF unwindA resultsA resA tupleA rdCell rdCells wrCells cl fillP lay rep binA unA get_set' AHeap.get_alloc oneCell beqd bned idxA

structure RIn (A : AHeap) (r h t : Nat) (s : IS) (lm : List Mp) (R : Nat → Prop) (K : Nat) : Prop where
  g : A.get r = some (.cells [.pointer (some ⟨h, 0, none⟩), .pointer (some ⟨t, 0, none⟩), .bool s.sums, .int .u64 s.idsn] false 0)
  rs : ∃ Rh Rt : Nat → Prop, HAt A h s.room s.base s.f Rh ∧ RTAt A t s.room s.base lm Rt ∧ (∀ j, Rh j → R j ∧ j ≠ r) ∧ (∀ j, Rt j → R j ∧ j ≠ r ∧ ¬ Rh j)
  fm : ∀ a, findM lm a = findM s.ms a
  len : lm.length ≤ K
  rr : R r
  lt : ∀ j, R j → j < A.size
/-- What an inlet keeps. -/
structure IOk (s : IS) : Prop where
  r1 : 1 ≤ s.room
  r2 : s.room ≤ 2048
  big : s.base ≤ 2305843009213693952
  dom : ∀ k b, s.f k = some b → (s.base : Int) ≤ k ∧ k < (s.base : Int) + s.room
  ms : ∀ m ∈ s.ms, 1 ≤ m.len ∧ m.len ≤ s.room ∧ ∃ n : Nat, m.sum = n ∧ n < 65536
theorem RIn.ext {A A' : AHeap} {r h t : Nat} {s : IS} {lm : List Mp} {R U : Nat → Prop} {K : Nat} (H : RIn A r h t s lm R K) (e : Ext U A A') (hs : ∀ j, R j → ¬ U j) : RIn A' r h t s lm R K := by
  obtain ⟨g, ⟨Rh, Rt, h1, h2, h3, h4⟩, fm, len, rr, lt⟩ := H
  exact ⟨e.get g (hs _ rr), ⟨Rh, Rt, h1.ext e fun j hj => hs _ (h3 j hj).1, h2.ext e fun j hj => hs _ (h4 j hj).1, h3, h4⟩, fm, len, rr, fun j hj => Nat.lt_of_lt_of_le (lt j hj) e.size⟩
theorem rN_ok (A : AHeap) (r h t : Nat) (s : IS) (lm : List Mp) (R : Nat → Prop) (K : Nat) (H : RIn A r h t s lm R K) (Q : Value → AHeap → Prop) (hq : Q (.int .i64 (s.base : Nat)) A) : wF T (.func (.func 76) #[] #[]) [.pointer (some ⟨r, 0, none⟩)] A Q := by
  obtain ⟨g, ⟨Rh, Rt, ⟨bv, h1, _⟩, _⟩, _⟩ := H
  refine wF_func (first := []) (captured := []) t76 ⟨rfl, by decide⟩ ?_
  dsimp only [c76]
  simp [g, h1]
  exact hq
theorem rsum_ok (A : AHeap) (idsn : Int) (m : Mp) (l : List UInt8) (hl : l.length < 900000) (Q : Value → AHeap → Prop) (hq : ∀ A', Ext NoB A A' → Q (.int .u16 ((sumF idsn m l : Nat) : Int)) A') : wF T (.func (.func 79) #[] #[]) [.int .u64 idsn, .agg ⟨mpc m⟩, .string ⟨⟨l⟩⟩] A Q := by
  refine wF_func (first := []) (captured := []) t79 ⟨rfl, by decide⟩ ?_
  dsimp only [c79]
  simp [mpc]
  generalize hA1 : A.alloc _ = A1
  obtain ⟨g1, e1, z1⟩ := alloc_facts hA1
  obtain ⟨dn, hd1, hd2⟩ := u64_nat (IntKind.u64.wrap (idsn + 1) + IntKind.u64.wrap m.off)
  obtain ⟨sn, hs1, hs2⟩ := u32_nat (IntKind.i64.wrap (1 + m.at_))
  simp [g1, hd1, hs1]
  refine ofRef_ok A1 dn sn m.len l hd2 hs2 hl _ fun A2 e2 => ?_
  have : ofN dn sn m.len l = sumF idsn m l := by unfold sumF dsnF ssnF; rw [hd1, hs1]
  rw [this]
  simp
  exact hq A2 (e1.trans e2)
set_option maxHeartbeats 1600000 in
theorem rnext_ok (A : AHeap) (r h t : Nat) (s : IS) (lm : List Mp) (R : Nat → Prop) (K : Nat) (H : RIn A r h t s lm R K) (hK : K < 100000) (I : IOk s) (Q : Value → AHeap → Prop) (hq : ∀ A', Ext NoB A A' → Q (.tuple ⟨[.int .i64 (nextV s (rtF s.idsn)).1, .agg ⟨mpc (nextV s (rtF s.idsn)).2.1⟩, .string ⟨⟨(nextV s (rtF s.idsn)).2.2⟩⟩]⟩) A') :
    wF T (.func (.func 82) #[] #[]) [.pointer (some ⟨r, 0, none⟩)] A Q := by
  have H0 := H
  have lr := AHeap.get_lt H.g
  refine wF_func (first := []) (captured := []) t82 ⟨rfl, by decide⟩ ?_
  dsimp only [c82]
  simp
  refine wC_opsD_chk ?_
  generalize hA1 : A.alloc _ = A1
  obtain ⟨g1, e1, z1⟩ := alloc_facts hA1
  have H1 := H0.ext e1 fun _ _ => id
  have gr1 := H1.g
  simp [gr1]
  refine rN_ok A1 r h t s lm R K H1 _ ?_
  simp
  obtain ⟨Rh, Rt, hh, ht, _⟩ := H1.rs
  refine rtat_ok A1 t s.room s.base lm Rt s.base ht (by have := H1.len; omega) _ fun A2 e2 => ?_
  rw [H1.fm]
  obtain ⟨fmv, hfm⟩ : ∃ x, x = findM s.ms s.base := ⟨_, rfl⟩
  rw [← hfm]
  have g2 := e2.get g1 id
  have gr2 := e2.get gr1 id
  simp [mpc]
  generalize hA3 : AHeap.set (A2.alloc _) A2.size _ = A3
  have e3 : Ext NoB A2 A3 := ⟨by rw [← hA3]; simp, fun j hj _ => by rw [← hA3]; simp [show j ≠ A2.size by omega]⟩
  have g3 := e3.get g2 id
  have gr3 := e3.get gr2 id
  have z2 := e2.size
  have k3 : A3.get A2.size = some (.cells (mpc (fmv.getD mp0)) false 0) := by rw [← hA3]; simp [mpc]
  have e13 := (e1.trans e2).trans e3
  have H3 := H0.ext e13 fun _ _ => id
  have l3 := AHeap.get_lt g3
  refine wE_intro ?_ ?_
  · simp only [List.all_cons, List.all_nil, chkOk, List.nil_append, List.cons_append, List.getElem?_cons_succ, List.getElem?_cons_zero]
    simp [Bx, gr1, vbeq]
  obtain ⟨Rh3, Rt3, hh3, ht3, _⟩ := H3.rs
  cases fmv with
  | none =>
    have hnx : nextV s (rtF s.idsn) = if (s.f s.base).isSome then (3, mp0, []) else (0, mp0, []) := by unfold nextV; rw [← hfm]
    rw [hnx] at hq
    simp
    refine wC_opsD_chk ?_
    simp [gr3]
    refine rN_ok A3 r h t s lm R K H3 _ ?_
    simp
    refine rhas_ok A3 h s.room s.base s.f Rh3 _ hh3 I.r2 I.big I.dom _ ?_
    simp
    refine wE_intro ?_ ?_
    · simp only [List.all_cons, List.all_nil, chkOk, List.nil_append, List.cons_append, List.getElem?_cons_succ, List.getElem?_cons_zero]
      simp [Bx, gr3, vbeq]
    have e4 : Ext NoB A (A3.set A.size (.cells (mpc mp0) false 0)) := ⟨by simp; have := e13.size; omega, fun j hj _ => by simp [show j ≠ A.size by omega]; exact e13.keep j hj id⟩
    have hq4 := hq _ e4
    simp only [mpc, mp0] at hq4
    cases hs : (s.f s.base).isSome with
    | true =>
      rw [hs] at hq4
      simp [g3, l3]
      simpa [mpc, mp0] using hq4
    | false =>
      rw [hs] at hq4
      simp [g3, l3]
      simpa [mpc, mp0] using hq4
  | some m =>
    obtain ⟨q1, q2⟩ := findM_mem hfm.symm
    obtain ⟨m1, m2, n, m3, m4⟩ := I.ms m q1
    simp only [Option.getD_some] at k3
    simp only [mpc] at k3
    have lk3 := AHeap.get_lt k3
    simp [gr3, k3]
    refine rtext_ok A3 h s.room s.base s.f Rh3 m.at_ m.len hh3 I.r2 I.big I.dom _ fun A4 e4 => ?_
    have htv : textV s.room s.base s.f m.at_ m.len = gatherB s.f s.base m.len.toNat := by
      unfold textV
      rw [if_neg (by omega), q2]
    rw [htv]
    have g4 := e4.get g3 id
    have k4 := e4.get k3 id
    have gr4 := e4.get gr3 id
    have l4 := AHeap.get_lt g4
    have lk4 := AHeap.get_lt k4
    have e14 := e13.trans e4
    have z14 := e14.size
    have fin : ∀ (B : AHeap) (x : Mp), Ext NoB A B → Ext NoB A (B.set A.size (.cells (mpc x) false 0)) := fun B x e => ⟨by simp; have := e.size; omega, fun j hj _ => by simp [show j ≠ A.size by omega]; exact e.keep j hj id⟩
    cases hg : gatherB s.f s.base m.len.toNat with
    | none =>
      have hnx : nextV s (rtF s.idsn) = (0, mp0, []) := by unfold nextV; rw [← hfm]; simp only; rw [hg]
      rw [hnx] at hq
      have hq4 := hq _ (fin A4 mp0 e14)
      simp only [mpc, mp0] at hq4
      simp [g4, l4]
      simpa [mpc, mp0] using hq4
    | some l =>
      have hll := (gatherB_some _ _ _ _ hg).1
      have hnx : nextV s (rtF s.idsn) = if s.sums && !rtF s.idsn m l then (2, m, l) else (1, m, l) := by unfold nextV; rw [← hfm]; simp only; rw [hg]
      rw [hnx] at hq
      cases hs : s.sums with
      | false =>
        rw [hs] at hq gr4
        have hq4 := hq _ (fin A4 m e14)
        simp only [mpc] at hq4
        simp [gr4, g4, k4, l4]
        simpa [mpc] using hq4
      | true =>
        rw [hs] at hq gr4
        obtain ⟨dn, hd1, hd2⟩ := u64_nat (IntKind.u64.wrap (s.idsn + 1) + IntKind.u64.wrap m.off)
        obtain ⟨sn, hs1, hs2⟩ := u32_nat (IntKind.i64.wrap (1 + m.at_))
        have hrt : rtF s.idsn m l = rightN dn sn m.len l n := by
          unfold rtF dsnF ssnF; rw [hd1, hs1, m3]
        rw [m3] at k4
        simp [gr4, k4, hd1, hs1]
        refine rightRef_ok A4 dn sn n m.len l hd2 hs2 m4 (by have := I.r2; omega) _ fun A5 e5 => ?_
        rw [← hrt]
        have g5 := e5.get g4 id
        have k5 := e5.get k4 id
        have l5 := AHeap.get_lt g5
        have hq4 := hq _ (fin A5 m (e14.trans e5))
        simp only [mpc] at hq4
        rw [m3] at hq4
        cases hr : rtF s.idsn m l with
        | true =>
          rw [hr] at hq4
          simp [g5, k5, l5]
          simpa [mpc, m3] using hq4
        | false =>
          rw [hr] at hq4
          simp [g5, k5, l5]
          simpa [mpc, m3] using hq4
end Go.Proofs.Ytidgbapgedegbaa
