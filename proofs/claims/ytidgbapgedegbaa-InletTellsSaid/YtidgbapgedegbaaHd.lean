/- A hole: put. -/
import Derived.Test.YtidgbapgedegbaaHc
import Derived.KernelRfl
namespace Go.Proofs.Ytidgbapgedegbaa
open Go Go.AS
set_option maxRecDepth 100000
set_option linter.unusedSimpArgs false
set_option linter.unusedVariables false
attribute [local irreducible] Trie.set Trie.get Env.rd
attribute [local simp] Nat.add_assoc wD_cons'' wD_nil' wC_seq wC_ops wC_opsD_nil wC_cond wC_skip wC_ret wC_exit wC_block wO_cons' wO_nil wantedA wV_eq lop qop ev wL_some wL_none wPut envOf rd_set rd_leaf eqA thenC blockC wB_true wB_false endF unwindA resultsA resA tupleA rdCell rdCells wrCells cl fillP lay rep binA unA get_set' AHeap.get_alloc oneCell beqd bned idxA

/-- The bytes behind a text that came. -/
def putB (room base : Nat) (off : Int) (l : List UInt8) (f : Bytes) : Bytes := fun k => match f k with
  | some b => some b
  | none => if (base : Int) ≤ k ∧ k < (base : Int) + room ∧ off ≤ k then l[(k - off).toNat]? else none
/-- How many of them are new. -/
def cntB (room base : Nat) (f : Bytes) : Int → List UInt8 → Nat
  | _, [] => 0
  | off, _ :: l => (if (base : Int) ≤ off ∧ off < (base : Int) + room ∧ f off = none then 1 else 0) + cntB room base f (off + 1) l

theorem cntB_app (room base : Nat) (f : Bytes) (b : UInt8) : ∀ (l : List UInt8) (off : Int), cntB room base f off (l ++ [b]) = cntB room base f off l + (if (base : Int) ≤ off + l.length ∧ off + l.length < (base : Int) + room ∧ f (off + l.length) = none then 1 else 0)
  | [], off => by simp [cntB]
  | c :: l, off => by
    simp only [List.cons_append, cntB, cntB_app room base f b l (off + 1), List.length_cons]
    rw [show off + 1 + (l.length : Int) = off + ((l.length + 1 : Nat) : Int) by omega, Nat.add_assoc]
theorem cntB_le (room base : Nat) (f : Bytes) : ∀ (l : List UInt8) (off : Int), cntB room base f off l ≤ l.length
  | [], off => by simp [cntB]
  | c :: l, off => by have := cntB_le room base f l (off + 1); simp only [cntB, List.length_cons]; split <;> omega
theorem cntB_out (room base : Nat) (f : Bytes) : ∀ (l : List UInt8) (off : Int), (off + l.length ≤ base ∨ (base : Int) + room ≤ off) → cntB room base f off l = 0
  | [], off, _ => rfl
  | c :: l, off, h => by
    simp only [List.length_cons] at h
    rw [cntB, if_neg (by omega), cntB_out room base f l (off + 1) (by omega)]
theorem cntB_app2 (room base : Nat) (f : Bytes) : ∀ (l2 l : List UInt8) (off : Int), cntB room base f off (l ++ l2) = cntB room base f off l + cntB room base f (off + l.length) l2
  | [], l, off => by simp [cntB]
  | b :: l2, l, off => by
    rw [show l ++ b :: l2 = (l ++ [b]) ++ l2 by simp, cntB_app2 room base f l2, cntB_app, cntB]
    simp only [List.length_append, List.length_cons, List.length_nil]
    rw [show off + ((l.length + (0 + 1) : Nat) : Int) = off + l.length + 1 by omega]
    omega

/-- The yield: one byte more. -/
theorem putyield_ok (l q3 q6 p mb room base d n0 : Nat) (e : Env) (f : Bytes) (at_ : Int) (b : UInt8) (A : AHeap) (Q : Value → AHeap → Prop) (hl : A.get l = some (.loop .ready none 84 30 e [15, 16] c84a (.block 1 c84b) d)) (h3 : e.rd 3 = .pointer (some ⟨q3, 0, none⟩)) (h6 : e.rd 6 = .pointer (some ⟨q6, 0, none⟩))
    (g3 : A.get q3 = some (.cells [.pointer (some ⟨p, 0, none⟩)] false 0)) (g6 : A.get q6 = some (.cells [.int .i64 (n0 : Nat)] false 0)) (hn : n0 < 1000000000) (h : HoleAt A p mb room base f) (hd : l ≠ q3 ∧ l ≠ q6 ∧ l ≠ p ∧ l ≠ mb ∧ q6 ≠ q3 ∧ q6 ≠ p ∧ q6 ≠ mb ∧ q3 ≠ mb) (hb1 : (base : Int) ≤ at_) (hb2 : at_ < (base : Int) + room)
    (hq : ∀ A' e', A'.get l = some (.loop .ready none 84 30 e' [15, 16] c84a (.block 1 c84b) d) → e'.rd 3 = .pointer (some ⟨q3, 0, none⟩) → e'.rd 6 = .pointer (some ⟨q6, 0, none⟩) → A'.get q6 = some (.cells [.int .i64 ((n0 + (if f at_ = none then 1 else 0) : Nat) : Int)] false 0) →
      HoleAt A' p mb room base (fun k => if f k = none ∧ k = at_ then some b else f k) → Ext (fun j => j = l ∨ j = q6 ∨ j = mb) A A' → Q (.bool true) A') :
    wF T (.func (.yield l) #[] #[]) [.int .i64 at_, byt b] A Q := by
  obtain ⟨d1, d2, d3, d4, d5, d6, d7, d8⟩ := hd
  have b1 := AHeap.get_lt hl
  have b3 := AHeap.get_lt g3
  have b6 := AHeap.get_lt g6
  refine wF_yield hl rfl (by decide) ?_
  dsimp only [c84a, c84b]; simp [midY, hl, b1, h3, g3, d1, d1.symm, byt]
  generalize hA3 : AHeap.set A l _ = A3
  obtain ⟨l3, e3, z3⟩ := set_facts b1 hA3
  have h' := h.ext e3 d3.symm d4.symm
  refine has_ok A3 p mb room base f _ at_ h' ?_
  have g3' := e3.get g3 d1.symm
  have g6' := e3.get g6 d2.symm
  have b1' := AHeap.get_lt l3
  cases hf : f at_ with
  | some y =>
    simp [endY, l3, jumpOf, b1']
    generalize hA4 : AHeap.set A3 l _ = A4
    obtain ⟨l4, e4, z4⟩ := set_facts b1' hA4
    refine hq A4 _ (by rw [l4]) (by simp [h3]) (by simp [h6]) (by rw [e4.get g6' d2.symm]; simp [hf]) ?_ ((e3.trans e4).mono fun _ _ q => .inl q)
    have h4 := h'.ext e4 d3.symm d4.symm
    have : (fun k => if f k = none ∧ k = at_ then some b else f k) = f := funext fun k => by
      split
      · rename_i q; rw [q.2, hf] at q; cases q.1
      · rfl
    rw [this]; exact h4
  | none =>
    obtain ⟨es, c, m1, m2⟩ := h'.map.get at_
    rw [hf] at m2
    simp only [Option.map_none] at m2
    have hc := h'.cell
    have b6' := AHeap.get_lt g6'
    have lmb := AHeap.get_lt m1
    have w : IntKind.i64.wrap ((n0 : Int) + 1) = ((n0 + 1 : Nat) : Int) := by rw [IntWalk.i64_in _ (by omega)]; omega
    simp [h3, g3', hc, m1, m2, h6, g6', d5, d5.symm, d6, d6.symm, d7, d7.symm, d8, w, b6', lmb, endY, l3, d1, d1.symm, d2, d2.symm, d4, d4.symm, b1', jumpOf]
    generalize hA4 : AHeap.set A3 mb _ = A4
    have mp := h'.map.put2 (n := at_) (byt b) (by rw [hf]; rfl) m1
    simp only [byt] at mp
    rw [hA4] at mp
    obtain ⟨_, e4, z4⟩ := set_facts lmb hA4
    have b6'' : q6 < A4.size := by omega
    generalize hA5 : AHeap.set A4 q6 _ = A5
    obtain ⟨g65, e5, z5⟩ := set_facts b6'' hA5
    have b1'' : l < A5.size := by omega
    generalize hA6 : AHeap.set A5 l _ = A6
    obtain ⟨l6, e6, z6⟩ := set_facts b1'' hA6
    refine hq A6 _ l6 (by simp [h3]) (by simp [h6]) (by rw [e6.get g65 d2.symm]; simp [hf]) ?_ ?_
    · refine ⟨e6.get (e5.get (e4.get hc h.ne) d6.symm) d3.symm, ((mp.ext e5 d7.symm).ext e6 d4.symm).congr fun k => ?_, h.ne, ?_, h.room1, h.room2, h.big⟩
      · by_cases hk : k = at_
        · subst hk; simp [hf, byt]
        · simp [hk]
      · intro k y hy
        by_cases hk : k = at_
        · subst hk; exact ⟨hb1, hb2⟩
        · simp [hk] at hy
          exact h.dom k y hy
    · exact ((e3.mono (S' := fun j => j = l ∨ j = q6 ∨ j = mb) fun _ _ q => .inl q).trans (e4.mono fun _ _ q => .inr (.inr q))).trans ((e5.mono fun _ _ q => .inr (.inl q)).trans (e6.mono fun _ _ q => .inl q))

theorem putB_none (room base : Nat) (off : Int) (l : List UInt8) (f : Bytes) (h : off + l.length ≤ base ∨ (base : Int) + room ≤ off) : putB room base off l f = f := funext fun k => by
  unfold putB
  cases hf : f k with
  | some b => rfl
  | none =>
    simp only
    split
    · rename_i q
      rw [List.getElem?_eq_none]; omega
    · rfl
theorem putB_step (room base : Nat) (off : Int) (l : List UInt8) (f : Bytes) (i : Nat) (hi : i < l.length) (h1 : (base : Int) ≤ off + i) (h2 : off + i < (base : Int) + room) :
    putB room base off (l.take (i + 1)) f = fun k => if putB room base off (l.take i) f k = none ∧ k = off + i then some l[i] else putB room base off (l.take i) f k := funext fun k => by
  unfold putB
  cases hf : f k with
  | some b => simp
  | none =>
    simp only
    by_cases hw : (base : Int) ≤ k ∧ k < (base : Int) + room ∧ off ≤ k
    · rw [if_pos hw, if_pos hw]
      by_cases hk : k = off + i
      · have e : (k - off).toNat = i := by omega
        have t1 : (l.take (i + 1))[i]? = some l[i] := by rw [List.getElem?_take, if_pos (by omega), List.getElem?_eq_getElem hi]
        have t2 : (l.take i)[i]? = none := by rw [List.getElem?_eq_none]; rw [List.length_take]; omega
        rw [e, t1, t2, if_pos ⟨rfl, hk⟩]
      · rw [if_neg (by simp [hk])]
        rw [List.getElem?_take, List.getElem?_take]
        by_cases q : (k - off).toNat < i
        · rw [if_pos (by omega), if_pos q]
        · rw [if_neg (by omega), if_neg q]
    · rw [if_neg hw, if_neg hw, if_neg]
      rintro ⟨_, q⟩; omega
theorem putB_far (room base : Nat) (off : Int) (l : List UInt8) (f : Bytes) (i : Nat) (h2 : (base : Int) + room ≤ off + i) : putB room base off l f = putB room base off (l.take i) f := funext fun k => by
  unfold putB
  cases hf : f k with
  | some b => rfl
  | none =>
    simp only
    split
    · rw [List.getElem?_take, if_pos (by omega)]
    · rfl
theorem putB_dom {room base : Nat} {off : Int} {l : List UInt8} {f : Bytes} (h : ∀ k b, f k = some b → (base : Int) ≤ k ∧ k < (base : Int) + room) : ∀ k b, putB room base off l f k = some b → (base : Int) ≤ k ∧ k < (base : Int) + room := fun k b q => by
  unfold putB at q
  cases hf : f k with
  | some y => exact h k y hf
  | none =>
    rw [hf] at q
    simp only at q
    split at q
    · omega
    · cases q

def ItI (l q3 q6 p mb room base d n0 p3 p4 p5 : Nat) (off : Int) (t : List UInt8) (f : Bytes) (A : AHeap) (k : Nat) (st : St) : Prop := ∃ (i : Nat) (e : Env), i + k = t.length + 1 ∧ (base : Int) ≤ off + i ∧ st.n = 59 ∧ st.dfs = [] ∧ st.env.rd 0 = .func (.yield l) #[] #[] ∧ st.env.rd 1 = .pointer (some ⟨p4, 0, none⟩) ∧ st.env.rd 2 = .pointer (some ⟨p5, 0, none⟩) ∧ st.env.rd 3 = .pointer (some ⟨p3, 0, none⟩) ∧ st.env.rd 5 = .int .i64 (i : Nat) ∧
  st.A.get l = some (.loop .ready none 84 30 e [15, 16] c84a (.block 1 c84b) d) ∧ e.rd 3 = .pointer (some ⟨q3, 0, none⟩) ∧ e.rd 6 = .pointer (some ⟨q6, 0, none⟩) ∧ st.A.get q6 = some (.cells [.int .i64 ((n0 + cntB room base f off (t.take i) : Nat) : Int)] false 0) ∧
  HoleAt st.A p mb room base (putB room base off (t.take i) f) ∧ Ext (fun j => j = l ∨ j = q6 ∨ j = mb) A st.A

theorem putiter_ok (l q3 q6 p mb room base d n0 p3 p4 p5 : Nat) (e : Env) (f : Bytes) (off : Int) (t : List UInt8) (A : AHeap) (Q : Value → AHeap → Prop) (hl : A.get l = some (.loop .ready none 84 30 e [15, 16] c84a (.block 1 c84b) d)) (h3 : e.rd 3 = .pointer (some ⟨q3, 0, none⟩)) (h6 : e.rd 6 = .pointer (some ⟨q6, 0, none⟩))
    (g3 : A.get q3 = some (.cells [.pointer (some ⟨p, 0, none⟩)] false 0)) (g6 : A.get q6 = some (.cells [.int .i64 (n0 : Nat)] false 0)) (hn : n0 < 1000) (ht : t.length < 1000000) (ho : -9223372036854775808 ≤ off ∧ off < 9223372036854775808) (h : HoleAt A p mb room base f) (hd : l ≠ q3 ∧ l ≠ q6 ∧ l ≠ p ∧ l ≠ mb ∧ q6 ≠ q3 ∧ q6 ≠ p ∧ q6 ≠ mb ∧ q3 ≠ mb)
    (k3 : A.get p3 = some (.cells [.pointer (some ⟨p, 0, none⟩)] false 0)) (k4 : A.get p4 = some (.cells [.int .i64 off] false 0)) (k5 : A.get p5 = some (.cells [.string ⟨⟨t⟩⟩] false 0)) (hk : ∀ j, j = p3 ∨ j = p4 ∨ j = p5 → ¬ (j = l ∨ j = q6 ∨ j = mb))
    (hq : ∀ A' w e', A'.get l = some (.loop .ready none 84 30 e' [15, 16] c84a (.block 1 c84b) d) → A'.get q6 = some (.cells [.int .i64 ((n0 + cntB room base f off t : Nat) : Int)] false 0) →
      HoleAt A' p mb room base (putB room base off t f) → Ext (fun j => j = l ∨ j = q6 ∨ j = mb) A A' → Q w A') :
    wF T (.func (.func 152) #[] ⟨[.pointer (some ⟨p4, 0, none⟩), .pointer (some ⟨p5, 0, none⟩), .pointer (some ⟨p3, 0, none⟩)]⟩) [.func (.yield l) #[] #[]] A Q := by
  refine wF_func (first := []) (captured := [.pointer (some ⟨p4, 0, none⟩), .pointer (some ⟨p5, 0, none⟩), .pointer (some ⟨p3, 0, none⟩)]) t152 ⟨rfl, by decide⟩ ?_
  dsimp only [c152]
  have hb := h.big; have r2 := h.room2
  have w1 : IntKind.i64.wrap (4611686018427387904 - (t.length : Int)) = 4611686018427387904 - (t.length : Int) := IntWalk.i64_in _ (by omega)
  have w2 : IntKind.i64.wrap ((base : Int) - (t.length : Int)) = (base : Int) - (t.length : Int) := IntWalk.i64_in _ (by omega)
  have none_ : ∀ w, (off + t.length ≤ base ∨ (base : Int) + room ≤ off) → Q w A := fun w q => by
    refine hq A w e hl ?_ ?_ Ext.refl
    · rw [cntB_out _ _ _ _ _ q]; exact g6
    · rw [putB_none _ _ _ _ _ q]; exact h
  by_cases c1 : 4611686018427387904 - (t.length : Int) ≤ off
  · simp [k3, k4, k5, w1, c1, undef]
    exact none_ _ (by omega)
  by_cases c2 : off < (base : Int) - (t.length : Int)
  · simp [k3, k4, k5, w1, c1, h.cell, w2, c2]
    exact none_ _ (by omega)
  have w3 : IntKind.i64.wrap ((base : Int) - off) = (base : Int) - off := IntWalk.i64_in _ (by omega)
  obtain ⟨i0, hi0⟩ : ∃ i0 : Nat, (i0 : Int) = max 0 ((base : Int) - off) := ⟨(max 0 ((base : Int) - off)).toNat, by omega⟩
  have m1 : foldV maxV (.int .i64 0) [.int .i64 ((base : Int) - off)] = some (.int .i64 (i0 : Int)) := by
    simp only [foldV, maxV]; congr 2; omega
  simp [k3, k4, k5, w1, c1, h.cell, w2, c2, w3, m1]
  have z0 : cntB room base f off (t.take i0) = 0 ∧ putB room base off (t.take i0) f = f := by
    by_cases q : off < base
    · exact ⟨cntB_out _ _ _ _ _ (.inl (by rw [List.length_take]; omega)), putB_none _ _ _ _ _ (.inl (by rw [List.length_take]; omega))⟩
    · have : i0 = 0 := by omega
      subst this
      exact ⟨rfl, funext fun k => by unfold putB; cases f k <;> simp⟩
  have hi0t : i0 ≤ t.length := by omega
  refine wC_loop_inv (ItI l q3 q6 p mb room base d n0 p3 p4 p5 off t f A) ?_ (t.length + 1 - i0) _ ⟨i0, e, by omega, by omega, rfl, rfl, by simp, by simp, by simp, by simp, by simp, hl, h3, h6, by rw [z0.1]; exact g6, by rw [z0.2]; exact h, Ext.refl⟩
  clear h3 h6 hl g6
  rintro k ⟨env, nn, dfs, A1⟩ ⟨i, e', ki, kb, s1, s2, r0, r1, r2', r3, r5, hl, h3, h6, g6, hh, ex⟩
  simp only at s1 s2 r0 r1 r2' r3 r5 hl g6 hh ex
  subst s1; subst s2
  have k3' := ex.get k3 (hk _ (.inl rfl))
  have k4' := ex.get k4 (hk _ (.inr (.inl rfl)))
  have k5' := ex.get k5 (hk _ (.inr (.inr rfl)))
  have w4 : IntKind.i64.wrap (off + (i : Int)) = off + (i : Int) := IntWalk.i64_in _ (by omega)
  have w5 : IntKind.i64.wrap ((base : Int) + (room : Int)) = (base : Int) + (room : Int) := IntWalk.i64_in _ (by omega)
  by_cases a1 : i < t.length
  · by_cases a2 : off + (i : Int) < (base : Int) + (room : Int)
    · have gi : t[i]? = some t[i] := List.getElem?_eq_getElem a1
      simp [r0, r1, r2', r3, r5, k3', k4', k5', hh.cell, a1, a2, w4, w5]
      have g3' := ex.get g3 fun q => by
        obtain ⟨d1, d2, d3, d4, d5, d6, d7, d8⟩ := hd
        rcases q with q | q | q
        · exact d1 q.symm
        · exact d5 q.symm
        · exact d8 q
      have cl := cntB_le room base f (t.take i) off
      rw [List.length_take] at cl
      refine putyield_ok l q3 q6 p mb room base d _ e' _ (off + i) t[i] A1 _ hl h3 h6 g3' g6 (by omega) hh hd kb a2 fun A2 e2 l2 b3 b6 g62 hh2 x2 => ?_
      have w6 : IntKind.i64.wrap ((i : Int) + 1) = ((i + 1 : Nat) : Int) := by rw [IntWalk.i64_in _ (by omega)]; omega
      simp [r5]
      refine ⟨k - 1, by omega, i + 1, e2, by omega, by omega, rfl, rfl, by simp [r0], by simp [r1], by simp [r2'], by simp [r3], by simpa using w6, l2, b3, b6, ?_, ?_, ex.trans x2⟩
      · rw [g62]
        congr 5
        rw [List.take_add_one, gi, Option.toList_some, cntB_app, Nat.add_assoc]
        congr 2
        rw [List.length_take, Nat.min_eq_left (by omega)]
        have : putB room base off (t.take i) f (off + i) = f (off + i) := by
          unfold putB
          cases f (off + i) with
          | some b => rfl
          | none =>
            simp only
            rw [if_pos ⟨kb, a2, by omega⟩, List.getElem?_eq_none]
            rw [List.length_take]; omega
        rw [this]
        simp [kb, a2]
      · rw [putB_step room base off t f i a1 kb a2]; exact hh2
    · simp [r0, r1, r2', r3, r5, k3', k4', k5', hh.cell, a1, a2, w4, w5]
      refine hq A1 _ e' hl ?_ ?_ ex
      · rw [g6]; congr 5
        have : t = t.take i ++ t.drop i := (List.take_append_drop i t).symm
        conv => rhs; rw [this]
        rw [cntB_app2, cntB_out room base f (t.drop i) _ (.inr (by rw [List.length_take]; omega)), Nat.add_zero]
      · rw [putB_far room base off t f i (by omega)]; exact hh
  · have hi : t.take i = t := List.take_of_length_le (by omega)
    simp [r0, r1, r2', r3, r5, k3', k4', k5', hh.cell, a1]
    rw [hi] at g6 hh
    exact hq A1 _ e' hl g6 hh ex
end Go.Proofs.Ytidgbapgedegbaa
