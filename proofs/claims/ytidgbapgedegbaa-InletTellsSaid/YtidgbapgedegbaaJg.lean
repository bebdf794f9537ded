/- The reference's inlet: new, raw, skip, put. -/
import Derived.Test.YtidgbapgedegbaaJf
import Derived.KernelRfl
namespace Go.Proofs.Ytidgbapgedegbaa
open Go Go.AS
set_option maxRecDepth 100000
set_option linter.unusedSimpArgs false
set_option linter.unusedVariables false
attribute [local irreducible] Trie.set Trie.get Env.rd
attribute [local simp ↓] wV_b2s
attribute [local simp] Nat.add_assoc wD_cons'' wD_nil' wC_seq wC_ops wC_opsD_nil wC_cond wC_skip wC_ret wC_exit wC_block wO_cons' wO_nil wantedA wV_eq lop qop ev wL_some wL_none wPut envOf rd_set rd_leaf eqA thenC blockC wB_true wB_false endF unwindA resultsA resA tupleA rdCell rdCells wrCells cl fillP lay rep binA unA get_set' AHeap.get_alloc oneCell beqd bned idxA

theorem rN2_ok (A : AHeap) (r h room base : Nat) (x y z bv : Value) (g : A.get r = some (.cells [.pointer (some ⟨h, 0, none⟩), x, y, z] false 0)) (h1 : A.get h = some (.cells [.int .i64 (room : Nat), .int .i64 (base : Nat), bv] false 0)) (Q : Value → AHeap → Prop) (hq : Q (.int .i64 (base : Nat)) A) : wF T (.func (.func 76) #[] #[]) [.pointer (some ⟨r, 0, none⟩)] A Q := by
  refine wF_func (first := []) (captured := []) t76 ⟨rfl, by decide⟩ ?_
  dsimp only [c76]
  simp [g, h1]
  exact hq
theorem find_filter (n : Int) (l : List Mp) (a : Int) : findM (l.filter fun m => decide (n ≤ m.at_)) a = if n ≤ a then findM l a else none := by
  unfold findM
  rw [List.find?_filter]
  by_cases c : n ≤ a
  · rw [if_pos c]
    congr 1
    funext m
    by_cases e : m.at_ = a
    · simp [e, c]
    · simp [e]
  · rw [if_neg c, List.find?_eq_none]
    intro m _
    simp only [Bool.and_eq_true, decide_eq_true_eq, not_and]
    intro h1 h2
    omega
theorem find_snoc (l : List Mp) (m : Mp) (h : findM l m.at_ = none) (a : Int) : findM (l ++ [m]) a = if a = m.at_ then some m else findM l a := by
  unfold findM at *
  rw [List.find?_append]
  by_cases e : a = m.at_
  · subst e
    rw [if_pos rfl, h]; simp
  · rw [if_neg e]
    cases List.find? (fun m => decide (m.at_ = a)) l with
    | some x => rfl
    | none => simp [show ¬ m.at_ = a from fun q => e q.symm]
theorem rnew_ok (A : AHeap) (room : Nat) (sums : Bool) (idsn : Int) (h1 : 1 ≤ room) (h2 : room ≤ 2048) (Q : Value → AHeap → Prop) (hq : ∀ A' r h t, Ext NoB A A' → RIn A' r h t ⟨room, 0, fun _ => none, [], sums, idsn⟩ [] (fun j => A.size ≤ j ∧ j < A'.size) 0 → Q (.pointer (some ⟨r, 0, none⟩)) A') : wF T (.func (.func 28) #[] #[]) [.int .i64 (room : Nat), .bool sums, .int .u64 idsn] A Q := by
  refine wF_func (first := []) (captured := []) t28 ⟨rfl, by decide⟩ ?_
  dsimp only [c28]
  simp
  refine rhnew_ok A room h1 h2 _ fun A1 h e1 H1 => ?_
  simp
  refine rtnew_ok A1 room h1 h2 _ fun A2 t e2 H2 => ?_
  simp
  generalize hA3 : A2.alloc _ = A3
  obtain ⟨g3, e3, z3⟩ := alloc_facts hA3
  have z1 := e1.size
  have z2 := e2.size
  refine hq A3 A2.size h t ((e1.trans e2).trans e3) ⟨g3, ⟨_, _, H1.ext (e2.trans e3) fun _ _ q => q, H2.ext e3 fun _ _ q => q, fun j hj => ⟨⟨hj.1, by omega⟩, by omega⟩, fun j hj => ⟨⟨by omega, by omega⟩, by omega, fun q => by omega⟩⟩, fun _ => rfl, Nat.le_refl _, ⟨by omega, by omega⟩, fun j hj => hj.2⟩
theorem rnew_bad (A : AHeap) (room : Int) (sums : Bool) (idsn : Int) (h : room < 1 ∨ 2048 < room) (Q : Value → AHeap → Prop) (hq : Q (.pointer none) A) : wF T (.func (.func 28) #[] #[]) [.int .i64 room, .bool sums, .int .u64 idsn] A Q := by
  refine wF_func (first := []) (captured := []) t28 ⟨rfl, by decide⟩ ?_
  dsimp only [c28]
  simp
  refine rhnew_bad A room h _ ?_
  simp
  refine rtnew_bad A room h _ ?_
  simp
  exact hq
def RwI (A : AHeap) (r : Nat) (s : IS) (n : Int) (m : Nat) (st : St) : Prop := ∃ l : List UInt8, Pre s.f s.base l ∧ l.length ≤ s.room ∧ (l.length : Int) ≤ max 0 n ∧ m = s.room - l.length ∧ st.n = 41 ∧ st.dfs = [] ∧ Ext NoB A st.A ∧ (st.env.rd 0 = .pointer (some ⟨r, 0, none⟩) ∧ st.env.rd 1 = .int .i64 n ∧ st.env.rd 5 = .string ⟨⟨l⟩⟩)
set_option maxHeartbeats 1600000 in
theorem rraw_ok (A : AHeap) (r h t : Nat) (s : IS) (lm : List Mp) (R : Nat → Prop) (K : Nat) (n : Int) (H : RIn A r h t s lm R K) (I : IOk s) (Q : Value → AHeap → Prop)
    (hq : ∀ A' l, Ext NoB A A' → (∀ nx : Nat, NextIs s.base s.f nx → (l.length : Int) = max 0 (min n (nx - s.base))) → Pre s.f s.base l → Q (.string ⟨⟨l⟩⟩) A') :
    wF T (.func (.func 83) #[] #[]) [.pointer (some ⟨r, 0, none⟩), .int .i64 n] A Q := by
  have H0 := H
  refine wF_func (first := []) (captured := []) t83 ⟨rfl, by decide⟩ ?_
  dsimp only [c83]
  simp
  refine wC_loop_inv (RwI A r s n) ?_ s.room _ ⟨[], fun i hi => by simp at hi, Nat.zero_le _, by simp only [List.length_nil]; omega, rfl, rfl, rfl, Ext.refl, by simp, by simp, by simp⟩
  rintro m ⟨env, nn, dfs, B⟩ ⟨l, pre, hlr, hln, rfl, s1, s2, ex, r0, r1, r5⟩
  simp only at s1 s2 ex r0 r1 r5
  subst s1; subst s2
  have HB := H0.ext ex fun _ _ => id
  have gB := HB.g
  obtain ⟨Rh, Rt, hh, ht, _⟩ := HB.rs
  obtain ⟨bv, hc, _⟩ := id hh
  have r2 := I.r2
  have big := I.big
  have w1 : IntKind.i64.wrap ((s.base : Int) + (l.length : Int)) = (s.base : Int) + (l.length : Int) := IntWalk.i64_in _ (by omega)
  have up : ∀ nx : Nat, NextIs s.base s.f nx → s.base + l.length ≤ nx := fun nx hx => by
    by_cases c : s.base + l.length ≤ nx
    · exact c
    · exfalso
      have hx1 := hx.1
      have := pre (nx - s.base) (by omega)
      rw [show (s.base : Int) + ((nx - s.base : Nat) : Int) = (nx : Int) by have := hx.1; omega, hx.2.1] at this
      cases this
  simp
  refine wC_opsD_chk ?_
  by_cases c1 : (l.length : Int) < n
  · simp [r0, r1, r5, c1, gB]
    refine rN_ok B r h t s lm R K HB _ ?_
    simp [r5, w1]
    refine rhas_ok B h s.room s.base s.f Rh _ hh r2 big I.dom _ ?_
    simp
    cases hf : s.f ((s.base : Int) + (l.length : Int)) with
    | none =>
      simp
      refine wE_intro ?_ ?_
      · simp only [List.all_cons, List.all_nil, chkOk, List.nil_append, List.cons_append, List.getElem?_cons_succ, List.getElem?_cons_zero]
        simp [Bx, gB, r0, vbeq]
      simp [r5]
      refine hq B l ex (fun nx hx => ?_) pre
      have h1 := up nx hx
      have h2 : nx = s.base + l.length := by
        by_cases c : s.base + l.length < nx
        · exfalso
          have := hx.2.2 (s.base + l.length) (by omega) c
          rw [show ((s.base + l.length : Nat) : Int) = (s.base : Int) + (l.length : Int) by omega, hf] at this
          cases this
        · omega
      omega
    | some b =>
      have hd := I.dom _ _ hf
      simp
      refine wE_intro ?_ ?_
      · simp only [List.all_cons, List.all_nil, chkOk, List.nil_append, List.cons_append, List.getElem?_cons_succ, List.getElem?_cons_zero]
        simp [Bx, gB, r0, vbeq]
      simp
      refine wC_opsD_chk ?_
      simp [r0, gB]
      refine rN_ok B r h t s lm R K HB _ ?_
      simp [r5, w1]
      refine rtext_ok B h s.room s.base s.f Rh _ 1 hh r2 big I.dom _ fun B2 e2 => ?_
      have htv : textV s.room s.base s.f ((s.base : Int) + (l.length : Int)) 1 = some [b] := by
        unfold textV
        rw [if_neg (by have := I.r1; omega)]
        show gatherB s.f _ 1 = _
        simp only [gatherB, hf]
      rw [htv]
      simp
      refine wE_intro ?_ ?_
      · simp only [List.all_cons, List.all_nil, chkOk, List.nil_append, List.cons_append, List.getElem?_cons_succ, List.getElem?_cons_zero]
        simp [Bx, gB, r0, vbeq]
      have m1 : IntKind.i64.max = 9223372036854775807 := rfl
      have f3 : binA .add (.string ⟨⟨l⟩⟩) (.string ⟨⟨[b]⟩⟩) = some (.string ⟨⟨l ++ [b]⟩⟩) := by
        simp only [binA]
        exact if_neg (by rw [m1]; show ¬ (((l.length + 1 : Nat) : Int) > 9223372036854775807); omega)
      simp [-binA, r5, f3]
      refine ⟨s.room - (l.length + 1), by omega, l ++ [b], fun i hi => ?_, by simp; omega, by simp; omega, by simp, rfl, rfl, ex.trans e2, by simp [r0], by simp [r1], by simp⟩
      by_cases e : i < l.length
      · rw [List.getElem_append_left e]; exact pre i e
      · have : i = l.length := by simp at hi; omega
        subst this
        simp [hf]
  · simp [r0, r1, r5, c1]
    refine wE_intro ?_ ?_
    · simp only [List.all_cons, List.all_nil, chkOk, List.nil_append, List.cons_append, List.getElem?_cons_succ, List.getElem?_cons_zero]
      simp [Bx, wantedA]
    simp [r5]
    exact hq B l ex (fun nx hx => by have := up nx hx; omega) pre
set_option maxHeartbeats 1600000 in
theorem rinskip_ok (A : AHeap) (r h t : Nat) (s : IS) (lm : List Mp) (R : Nat → Prop) (K : Nat) (n : Int) (H : RIn A r h t s lm R K) (hK : K < 100000) (I : IOk s) (hn : -9223372036854775808 ≤ n ∧ n < 9223372036854775808) (Q : Value → AHeap → Prop)
    (hq : ∀ A' w (to : Nat) lm' R', (to : Int) = s.base + max 0 (min n (2305843009213693952 - s.base)) → RIn A' r h t (skipS s to) lm' R' K → Ext R A A' → (∀ j, R' j → R j ∨ (A.size ≤ j ∧ j < A'.size)) → Q w A') :
    wF T (.func (.func 80) #[] #[]) [.pointer (some ⟨r, 0, none⟩), .int .i64 n] A Q := by
  obtain ⟨g, ⟨Rh, Rt, hh, ht, d1, d2⟩, fm, len, rr, lt⟩ := H
  have big := I.big
  refine wF_func (first := []) (captured := []) t80 ⟨rfl, by decide⟩ ?_
  dsimp only [c80]
  simp [g]
  refine rskip_ok A h s.room s.base s.f Rh n hh I.r2 I.big I.dom hn _ fun A1 w to Rh' hto hh1 e1 hR1 => ?_
  have g1 := e1.get g fun q => (d1 r q).2 rfl
  have ht1 := ht.ext e1 fun j hj q => (d2 j hj).2.2 q
  have z1 := e1.size
  simp
  refine wC_opsD_chk ?_
  simp [g1]
  obtain ⟨bv1, hc1, _⟩ := id hh1
  refine rN2_ok A1 r h s.room to _ _ _ bv1 g1 hc1 _ ?_
  simp
  refine rtcut_ok A1 t s.room s.base to lm Rt ht1 (by omega) (by omega) (by omega) _ fun A2 w2 Rt' ht2 e2 hR2 => ?_
  have g2 := e2.get g1 fun q => (d2 r q).2.1 rfl
  have z2 := e2.size
  have ndis : ∀ j, Rt j → ¬ Rh' j := fun j hj q => (hR1 j q).elim (fun z => (d2 j hj).2.2 z) fun z => by have := lt j (d2 j hj).1; omega
  have hlt1 : ∀ j, Rh' j → j < A1.size := fun j q => (hR1 j q).elim (fun z => by have := lt j (d1 j z).1; omega) fun z => z.2
  have hh2 := hh1.ext e2 fun j hj q => ndis j q hj
  simp
  refine wE_intro ?_ ?_
  · simp only [List.all_cons, List.all_nil, chkOk, List.nil_append, List.cons_append, List.getElem?_cons_succ, List.getElem?_cons_zero]
    simp [Bx, g1, vbeq]
  simp
  have lr := AHeap.get_lt g
  refine hq A2 _ to _ (fun j => R j ∨ (A.size ≤ j ∧ j < A2.size)) hto ⟨g2, ⟨Rh', Rt', hh2, ht2, fun j hj => ?_, fun j hj => ?_⟩, fun a => ?_, Nat.le_trans (List.length_filter_le _ _) len, .inl rr, fun j hj => hj.elim (fun z => by have := lt j z; omega) fun z => z.2⟩ ?_ fun j hj => hj
  · rcases hR1 j hj with z | z
    · exact ⟨.inl (d1 j z).1, (d1 j z).2⟩
    · exact ⟨.inr ⟨z.1, by omega⟩, by omega⟩
  · rcases hR2 j hj with z | z
    · exact ⟨.inl (d2 j z).1, (d2 j z).2.1, ndis j z⟩
    · exact ⟨.inr ⟨by omega, z.2⟩, by omega, fun q => by have := hlt1 j q; omega⟩
  · simp only [skipS]
    rw [find_filter, find_filter, fm]
  · exact (e1.mono fun j _ q => (d1 j q).1).trans2 e2 fun j _ q => (d2 j q).1
end Go.Proofs.Ytidgbapgedegbaa
