/- The reference's hole: contracts. -/
import Derived.Test.YtidgbapgedegbaaJb
import Derived.Test.YtidgbapgedegbaaKt
import Derived.KernelRfl
namespace Go.Proofs.Ytidgbapgedegbaa
open Go Go.AS
set_option maxRecDepth 100000
set_option linter.unusedSimpArgs false
set_option linter.unusedVariables false
attribute [local irreducible] Trie.set Trie.get Env.rd
attribute [local simp ↓] wV_b2s
attribute [local simp] Nat.add_assoc wD_cons'' wD_nil' wC_seq wC_ops wC_opsD_nil wC_cond wC_skip wC_ret wC_exit wC_block wO_cons' wO_nil wantedA wV_eq lop qop ev wL_some wL_none wPut envOf rd_set rd_leaf eqA thenC blockC wB_true wB_false endF unwindA resultsA resA tupleA rdCell rdCells wrCells cl fillP lay rep binA unA get_set' AHeap.get_alloc oneCell beqd bned idxA

theorem set_rep (n i : Nat) (h : i < n) (x y : Value) : (List.replicate i x ++ List.replicate (n - i) y).set i x = List.replicate (i + 1) x ++ List.replicate (n - (i + 1)) y := by
  refine List.ext_getElem? fun k => ?_
  rw [List.getElem?_set]
  by_cases e : i = k
  · subst e
    rw [if_pos rfl, if_pos (by simp; omega), List.getElem?_append_left (by simp), List.getElem?_replicate, if_pos (by omega)]
  · rw [if_neg e]
    by_cases c : k < i
    · rw [List.getElem?_append_left (by simp; omega), List.getElem?_append_left (by simp; omega), List.getElem?_replicate, List.getElem?_replicate, if_pos (by omega), if_pos (by omega)]
    · rw [List.getElem?_append_right (by simp; omega), List.getElem?_append_right (by simp; omega), List.getElem?_replicate, List.getElem?_replicate]
      simp only [List.length_replicate]
      by_cases c2 : k < n
      · rw [if_pos (by omega), if_pos (by omega)]
      · rw [if_neg (by omega), if_neg (by omega)]
def EmI (A : AHeap) (n : Nat) (m : Nat) (st : St) : Prop := ∃ i, i ≤ n ∧ m = n - i ∧ st.n = 16 ∧ st.dfs = [] ∧ Ext NoB A st.A ∧ st.A.get A.size = some (.cells (List.replicate i (.int .i64 (-1)) ++ List.replicate (n - i) (.int .i64 0)) false 0) ∧ st.env.rd 0 = .int .i64 (n : Nat) ∧ st.env.rd 3 = .slice (some ⟨A.size, 0, none⟩) n n ∧ st.env.rd 4 = .int .i64 (i : Nat)
theorem rep_one (n : Nat) (x : Value) : rep n [x] = List.replicate n x := by
  induction n with
  | zero => rfl
  | succ n ih => simp [rep, ih, List.replicate_succ]
set_option maxHeartbeats 1600000 in
theorem empty_ok (A : AHeap) (n : Nat) (hn : n < 100000) (Q : Value → AHeap → Prop) (hq : ∀ A' v, Ext NoB A A' → SliceAt A' 1 v n (List.replicate n (.int .i64 (-1))) → (∀ j, Own v j → A.size ≤ j) → Q v A') : wF T (.func (.func 113) #[] #[]) [.int .i64 (n : Nat)] A Q := by
  refine wF_func (first := []) (captured := []) t113 ⟨rfl, by decide⟩ ?_
  dsimp only [c113]
  have hfit : (n : Int) ≤ 4294967296 := by omega
  simp [-rep, rep_one, hfit]
  generalize hA1 : AHeap.alloc A _ = A1
  obtain ⟨g1, e1, z1⟩ := alloc_facts hA1
  refine wC_loop_inv (EmI A n) ?_ n _ ⟨0, by omega, rfl, rfl, rfl, e1, by simpa using g1, by simp, by simp, by simp⟩
  rintro m ⟨env, nn, dfs, B⟩ ⟨i, hi, rfl, s1, s2, ex, g, r0, r3, r4⟩
  simp only at s1 s2 ex g r0 r3 r4
  subst s1; subst s2
  by_cases c : i < n
  · have w1 : IntKind.i64.wrap ((i : Int) + 1) = (i : Int) + 1 := IntWalk.i64_in _ (by omega)
    have lg := AHeap.get_lt g
    simp [r0, r3, r4, c, g, lg, w1, show i + 1 ≤ i + (n - i) by omega]
    refine ⟨n - (i + 1), by omega, i + 1, by omega, rfl, rfl, rfl, ?_, ?_, by simp [r0], by simp [r3], by simp⟩
    · exact ⟨by simp; exact ex.size, fun j hj _ => by simp [show j ≠ A.size by omega]; exact ex.keep j hj id⟩
    · have sr := set_rep n i c (.int .i64 (-1)) (.int .i64 0)
      simp at sr
      simp [lg, sr]
  · have : i = n := by omega
    subst this
    simp [r0, r3, r4]
    refine hq B _ ex (.inr ⟨A.size, 0, i, _, 0, rfl, g, by simp, by simp, .inr (.inl ⟨rfl, Nat.lt_of_lt_of_le (show i < 100000 by omega) (by decide)⟩)⟩) fun j ⟨_, _, _, hj⟩ => by cases hj; exact Nat.le_refl _
/-- The reference's hole in memory. -/
def HAt (A : AHeap) (h room base : Nat) (f : Bytes) (R : Nat → Prop) : Prop := ∃ bv, A.get h = some (.cells [.int .i64 (room : Nat), .int .i64 (base : Nat), bv] false 0) ∧ SliceAt A 1 bv room (hcl room base f) ∧ R h ∧ ∀ j, Own bv j → R j ∧ j ≠ h
theorem HAt.ext {A A' : AHeap} {h room base : Nat} {f : Bytes} {R U : Nat → Prop} (H : HAt A h room base f R) (e : Ext U A A') (hs : ∀ j, R j → ¬ U j) : HAt A' h room base f R := by
  obtain ⟨bv, h1, h2, h3, h4⟩ := H
  exact ⟨bv, e.get h1 (hs _ h3), h2.ext e fun j hj => hs _ (h4 j hj).1, h3, h4⟩
theorem HAt.grow {A : AHeap} {h room base : Nat} {f : Bytes} {R R' : Nat → Prop} (H : HAt A h room base f R) (hs : ∀ j, R j → R' j) : HAt A h room base f R' := by
  obtain ⟨bv, h1, h2, h3, h4⟩ := H
  exact ⟨bv, h1, h2, hs _ h3, fun j hj => ⟨hs _ (h4 j hj).1, (h4 j hj).2⟩⟩
theorem rhnew_ok (A : AHeap) (room : Nat) (h1 : 1 ≤ room) (h2 : room ≤ 2048) (Q : Value → AHeap → Prop) (hq : ∀ A' h, Ext NoB A A' → HAt A' h room 0 (fun _ => none) (fun j => A.size ≤ j ∧ j < A'.size) → Q (.tuple ⟨[.pointer (some ⟨h, 0, none⟩), .int .i64 0]⟩) A') : wF T (.func (.func 73) #[] #[]) [.int .i64 (room : Nat)] A Q := by
  refine wF_func (first := []) (captured := []) t73 ⟨rfl, by decide⟩ ?_
  dsimp only [c73]
  simp [show ¬ (room : Int) < 1 by omega, show ¬ (2048 : Int) < (room : Int) by omega]
  refine empty_ok A room (by omega) _ fun A1 v e1 hvv ho => ?_
  obtain ⟨va, vc, rfl⟩ := hvv.read.val
  simp
  have hc : hcl room 0 (fun _ => none) = List.replicate room (.int .i64 (-1)) := by
    refine List.ext_getElem (by simp [hcl]) fun i h1 h2 => ?_
    simp [hcl, hv]
  generalize hA2 : A1.alloc _ = A2
  obtain ⟨g2, e2, z2⟩ := alloc_facts hA2
  refine hq A2 A1.size (e1.trans e2) ⟨_, g2, by rw [hc]; exact hvv.ext e2 fun _ _ => id, ⟨e1.size, by omega⟩, fun j hj => ?_⟩
  have := hvv.own_lt hj
  exact ⟨⟨ho j hj, by omega⟩, by omega⟩
theorem rhnew_bad (A : AHeap) (room : Int) (h : room < 1 ∨ 2048 < room) (Q : Value → AHeap → Prop) (hq : Q (.tuple ⟨[.pointer none, .int .i64 2]⟩) A) : wF T (.func (.func 73) #[] #[]) [.int .i64 room] A Q := by
  refine wF_func (first := []) (captured := []) t73 ⟨rfl, by decide⟩ ?_
  dsimp only [c73]
  by_cases c : room < 1
  · simp [c]; exact hq
  · have : (2048 : Int) < room := by omega
    simp [c, this]; exact hq
theorem rhas_ok (A : AHeap) (h room base : Nat) (f : Bytes) (R : Nat → Prop) (off : Int) (H : HAt A h room base f R) (hr : room ≤ 2048) (hb : base ≤ 2305843009213693952) (hdom : ∀ k b, f k = some b → (base : Int) ≤ k ∧ k < (base : Int) + room) (Q : Value → AHeap → Prop) (hq : Q (.bool (f off).isSome) A) : wF T (.func (.func 115) #[] #[]) [.pointer (some ⟨h, 0, none⟩), .int .i64 off] A Q := by
  obtain ⟨bv, h1, h2, h3, h4⟩ := H
  refine wF_func (first := []) (captured := []) t115 ⟨rfl, by decide⟩ ?_
  dsimp only [c115]
  have w1 : IntKind.i64.wrap ((base : Int) + (room : Int)) = (base : Int) + (room : Int) := IntWalk.i64_in _ (by omega)
  have hno : ¬ ((base : Int) ≤ off ∧ off < (base : Int) + room) → (f off).isSome = false := fun hn => by
    cases hf : f off with
    | none => rfl
    | some b => exact absurd (hdom _ _ hf) hn
  by_cases c1 : (base : Int) ≤ off
  · by_cases c2 : off < (base : Int) + room
    · obtain ⟨i, hi⟩ : ∃ i : Nat, off = (base : Int) + (i : Int) := ⟨(off - base).toNat, by omega⟩
      subst hi
      have hir : i < room := by omega
      have w2 : IntKind.i64.wrap ((base : Int) + (i : Int) - (base : Int)) = (i : Int) := by rw [IntWalk.i64_in _ (by omega)]; omega
      obtain ⟨d, o, c, bs, ro, op, y1, y2, y3⟩ := h2.read.cell hir
      rw [hcl_at _ _ _ hir] at y3
      subst y1
      simp [h1, w1, w2, c1, c2, hir, y2, y3]
      have e : (decide (0 ≤ hv (f ((base : Int) + (i : Int))))) = (f ((base : Int) + (i : Int))).isSome := by
        cases f ((base : Int) + (i : Int)) with
        | none => rfl
        | some b => simp [hv]
      rw [e]; exact hq
    · rw [hno (fun q => c2 q.2)] at hq
      simp [h1, w1, c1, c2]
      exact hq
  · rw [hno (fun q => c1 q.1)] at hq
    simp [h1, w1, c1]
    exact hq
def HpI (A : AHeap) (h room base : Nat) (off : Int) (t : List UInt8) (f : Bytes) (bv : Value) (m : Nat) (st : St) : Prop := ∃ i, i ≤ room ∧ m = room - i ∧ st.n = 76 ∧ st.dfs = [] ∧ st.A.get h = some (.cells [.int .i64 (room : Nat), .int .i64 (base : Nat), bv] false 0) ∧ SliceAt st.A 1 bv room (hcl room base (putB i base off t f)) ∧ Ext (Own bv) A st.A ∧
  (st.env.rd 0 = .pointer (some ⟨h, 0, none⟩) ∧ st.env.rd 1 = .int .i64 off ∧ st.env.rd 2 = .string ⟨⟨t⟩⟩ ∧ st.env.rd 7 = .int .i64 ((cntB i base f off t : Nat) : Int) ∧ st.env.rd 8 = .int .i64 (i : Nat))
/-- A cell of a slice is set. -/
theorem slice_set1 {A : AHeap} {n i : Nat} {v y : Value} {cs : List Value} (h : SliceAt A 1 v n cs) (hi : i < n) : ∃ d o c bs op, v = .slice (some ⟨d, o, none⟩) n c ∧ A.get d = some (.cells bs false op) ∧ o + i + 1 ≤ bs.length ∧ bs[o + i]? = cs[i]? ∧ SliceAt (A.set d (.cells (bs.set (o + i) y) false op)) 1 v n (cs.set i y) := by
  rcases h with ⟨_, h2, _⟩ | ⟨d, o, c, bs, op, h1, h2, h3, h4, h5⟩
  · omega
  · have hl := AHeap.get_lt h2
    rw [Nat.mul_one] at h3 h4
    refine ⟨d, o, c, bs, op, h1, h2, by omega, ?_, .inr ⟨d, o, c, bs.set (o + i) y, op, h1, by simp [hl], by rw [List.length_set, Nat.mul_one]; exact h3, ?_, ?_⟩⟩
    · rw [h4, List.getElem?_take_of_lt hi, List.getElem?_drop]
    · rw [h4, Nat.mul_one]
      refine List.ext_getElem? fun k => ?_
      rw [List.getElem?_set]
      by_cases e : i = k
      · subst e
        rw [if_pos rfl, if_pos (by rw [List.length_take, List.length_drop]; omega), List.getElem?_take_of_lt hi, List.getElem?_drop, List.getElem?_set, if_pos rfl, if_pos (by omega)]
      · rw [if_neg e]
        by_cases c : k < n
        · rw [List.getElem?_take_of_lt c, List.getElem?_take_of_lt c, List.getElem?_drop, List.getElem?_drop, List.getElem?_set, if_neg (by omega)]
        · rw [List.getElem?_take_eq_none (by omega), List.getElem?_take_eq_none (by omega)]
    · rw [List.length_set]; exact h5
set_option maxHeartbeats 1600000 in
theorem rput_ok (A : AHeap) (h room base : Nat) (f : Bytes) (R : Nat → Prop) (off : Int) (t : List UInt8) (H : HAt A h room base f R) (hr : room ≤ 2048) (hb : base ≤ 2305843009213693952) (ht : t.length < 1000000) (ho : -9223372036854775808 ≤ off ∧ off < 9223372036854775808) (Q : Value → AHeap → Prop)
    (hq : ∀ A', HAt A' h room base (putB room base off t f) R → Ext R A A' → Q (.int .i64 ((cntB room base f off t : Nat) : Int)) A') :
    wF T (.func (.func 75) #[] #[]) [.pointer (some ⟨h, 0, none⟩), .int .i64 off, .string ⟨⟨t⟩⟩] A Q := by
  have H0 := H
  obtain ⟨bv, h1, h2, h3, h4⟩ := H
  refine wF_func (first := []) (captured := []) t75 ⟨rfl, by decide⟩ ?_
  dsimp only [c75]
  have w1 : IntKind.i64.wrap (4611686018427387904 - (t.length : Int)) = 4611686018427387904 - (t.length : Int) := IntWalk.i64_in _ (by omega)
  have w2 : IntKind.i64.wrap ((base : Int) - (t.length : Int)) = (base : Int) - (t.length : Int) := IntWalk.i64_in _ (by omega)
  by_cases o1 : 4611686018427387904 - (t.length : Int) ≤ off
  · have := hq A (by rw [putB_away _ _ _ _ _ (.inl (by omega))]; exact H0) Ext.refl
    rw [cntB_away _ _ _ _ _ (.inl (by omega))] at this
    simp [w1, o1]
    exact this
  · by_cases o2 : off < (base : Int) - (t.length : Int)
    · have := hq A (by rw [putB_away _ _ _ _ _ (.inr (by omega))]; exact H0) Ext.refl
      rw [cntB_away _ _ _ _ _ (.inr (by omega))] at this
      simp [w1, w2, o1, o2, h1]
      exact this
    · simp [w1, w2, o1, o2, h1]
      refine wC_loop_inv (HpI A h room base off t f bv) ?_ room _ ⟨0, by omega, rfl, rfl, rfl, h1, by rw [putB_0]; exact h2, Ext.refl, by simp, by simp, by simp, by simp [cntB_0], by simp⟩
      rintro m ⟨env, nn, dfs, B⟩ ⟨i, hi, rfl, s1, s2, g, sa, ex, r0, r1, r2, r7, r8⟩
      simp only at s1 s2 g sa ex r0 r1 r2 r7 r8
      subst s1; subst s2
      have hcl := cntB_le i base f t off
      by_cases c : i < room
      · have st := putB_more room base i off t f c
        have sc := cntB_step base i f t off
        have wi : IntKind.i64.wrap ((i : Int) + 1) = (i : Int) + 1 := IntWalk.i64_in _ (by omega)
        have wk : IntKind.i64.wrap ((base : Int) + (i : Int)) = (base : Int) + (i : Int) := IntWalk.i64_in _ (by omega)
        by_cases k1 : off ≤ (base : Int) + (i : Int)
        · obtain ⟨p, hp⟩ : ∃ p : Nat, (base : Int) + (i : Int) - off = (p : Int) := ⟨((base : Int) + (i : Int) - off).toNat, by omega⟩
          have wp : IntKind.i64.wrap ((base : Int) + (i : Int) - off) = (p : Int) := by rw [hp]; exact IntWalk.i64_in _ (by omega)
          by_cases k2 : p < t.length
          · cases hf : f ((base : Int) + (i : Int)) with
            | none =>
              have hcond : off ≤ (base : Int) + (i : Int) ∧ (base : Int) + (i : Int) - off < (t.length : Int) ∧ f ((base : Int) + (i : Int)) = none := ⟨k1, by omega, hf⟩
              have st1 := st.1 hcond
              rw [if_pos hcond] at sc
              obtain ⟨d, o, cc, bs, op, y1, y2, y3, y4, y5⟩ := slice_set1 (y := .int .i64 (((t[p]).toNat : Nat) : Int)) sa c
              rw [hcl_at _ _ _ c, putB_i, hf] at y4
              have wc : IntKind.i64.wrap (((t[p]).toNat : Nat) : Int) = (((t[p]).toNat : Nat) : Int) := by have := UInt8.toNat_lt t[p]; exact IntWalk.i64_in _ (by omega)
              have wn : IntKind.i64.wrap (((cntB i base f off t : Nat) : Int) + 1) = ((cntB (i + 1) base f off t : Nat) : Int) := by rw [sc, IntWalk.i64_in _ (by omega)]; omega
              have hidx : ((base : Int) + (i : Int) - off).toNat = p := by omega
              have nd : h ≠ d := fun q => (h4 d (by rw [y1]; exact ⟨_, _, _, rfl⟩)).2 q.symm
              subst y1
              have hv1 : hv none = -1 := rfl
              rw [hv1] at y4
              have ld := AHeap.get_lt y2
              have y3' : o + (i + 1) ≤ bs.length := by omega
              simp [r0, r1, r2, r7, r8, c, g, wi, wk, wp, k1, k2, y2, y3', y4, wc, wn]
              refine ⟨room - (i + 1), by omega, i + 1, by omega, rfl, rfl, rfl, by simp [nd, g], ?_, ?_, by simp [r0], by simp [r1], by simp [r2], by simp, by simp⟩
              · rw [st1]
                simp only [hidx]
                exact y5
              · exact ex.trans (Ext.set ⟨_, _, _, rfl⟩)
            | some b =>
              have hcond : ¬ (off ≤ (base : Int) + (i : Int) ∧ (base : Int) + (i : Int) - off < (t.length : Int) ∧ f ((base : Int) + (i : Int)) = none) := fun q => by rw [hf] at q; cases q.2.2
              have st2 := st.2 hcond
              rw [if_neg hcond, Nat.add_zero] at sc
              obtain ⟨d, o, cc, bs, ro, op, y1, y2, y3⟩ := sa.read.cell c
              rw [hcl_at _ _ _ c, putB_i, hf] at y3
              have hv1 : ¬ hv (some b) < 0 := by simp [hv]
              rw [y1] at g
              simp [r0, r1, r2, r7, r8, c, g, wi, wk, wp, k1, k2, y2, y3, hv1]
              exact ⟨room - (i + 1), by omega, i + 1, by omega, rfl, rfl, rfl, by rw [y1]; exact g, by rw [st2]; exact sa, ex, by simp [r0], by simp [r1], by simp [r2], by simp [r7, sc], by simp⟩
          · have hcond : ¬ (off ≤ (base : Int) + (i : Int) ∧ (base : Int) + (i : Int) - off < (t.length : Int) ∧ f ((base : Int) + (i : Int)) = none) := fun q => by omega
            have st2 := st.2 hcond
            rw [if_neg hcond, Nat.add_zero] at sc
            simp [r0, r1, r2, r7, r8, c, g, wi, wk, wp, k1, k2]
            exact ⟨room - (i + 1), by omega, i + 1, by omega, rfl, rfl, rfl, g, by rw [st2]; exact sa, ex, by simp [r0], by simp [r1], by simp [r2], by simp [r7, sc], by simp⟩
        · have hcond : ¬ (off ≤ (base : Int) + (i : Int) ∧ (base : Int) + (i : Int) - off < (t.length : Int) ∧ f ((base : Int) + (i : Int)) = none) := fun q => k1 q.1
          have st2 := st.2 hcond
          rw [if_neg hcond, Nat.add_zero] at sc
          simp [r0, r1, r2, r7, r8, c, g, wi, wk, k1]
          exact ⟨room - (i + 1), by omega, i + 1, by omega, rfl, rfl, rfl, g, by rw [st2]; exact sa, ex, by simp [r0], by simp [r1], by simp [r2], by simp [r7, sc], by simp⟩
      · have : i = room := by omega
        subst this
        simp [r0, r7, r8, g]
        exact hq B ⟨bv, g, sa, h3, h4⟩ (ex.mono fun j _ q => (h4 j q).1)
end Go.Proofs.Ytidgbapgedegbaa
