/- Texts of this claim, one behind the other. -/
import Derived.Test.YtigknpfjhegkgaaGreatCa
import Derived.KernelRfl
section
/- Two stretches of a row that change their places. -/
namespace Go.Proofs.YtigknpfjhegkgaaGreat
open Go Go.AS
set_option maxRecDepth 100000
set_option linter.unusedSimpArgs false
set_option linter.unusedVariables false
attribute [local irreducible] Trie.set Trie.get Env.rd
attribute [local simp ↓] wV_b2s
attribute [local simp] Nat.add_assoc wD_cons'' wD_nil' wC_seq wC_ops wC_opsD_nil wC_cond wC_skip wC_ret wC_exit wC_block wO_cons' wO_nil wantedA wV_eq lop qop ev wL_some wL_none wPut envOf rd_set rd_leaf eqA thenC blockC wB_true wB_false endF unwindA resultsA resA tupleA rdCell rdCells wrCells cl fillP lay rep bi_eql bi_neq bi_lss bi_leq bi_gtr bi_geq bi_add bi_sub bs_eql bs_neq bi_shr4 unA get_set' AHeap.get_alloc oneCell beqd bned idxA


def RoI (A0 : AHeap) (d o c n0 m : Nat) (cv : Value) (t : List Nat) (k : Nat) (st : St) : Prop := ∃ i j l, k = i + j ∧ 0 < i ∧ 0 < j ∧ st.n = 58 ∧ st.dfs = [] ∧ (st.env.rd 0 = .slice (some ⟨d, o, none⟩) n0 c ∧ st.env.rd 2 = .int .i64 (m : Nat) ∧ st.env.rd 4 = cv ∧ st.env.rd 10 = .int .i64 (i : Nat) ∧ st.env.rd 11 = .int .i64 (j : Nat)) ∧ RowAt st.A d o l ∧ l.length = n0 ∧ Turn l t m i j ∧ Ext (Only d) A0 st.A
theorem rotate_ok (A : AHeap) (d o c : Nat) (l t : List Nat) (a m b : Nat) (cv : Value) (h : RowAt A d o l) (ham : a < m) (hmb : m < b) (ht : Turn l t m (m - a) (b - m)) (hl : l.length < 1000000) (Q : Value → AHeap → Prop) (hq : ∀ A', Ext (Only d) A A' → RowAt A' d o t → Q (.tuple ⟨[]⟩) A') :
    wF T (.func (.func 145) #[] #[]) [.slice (some ⟨d, o, none⟩) l.length c, .int .i64 (a : Nat), .int .i64 (m : Nat), .int .i64 (b : Nat), cv] A Q := by
  refine wF_func (first := []) (captured := []) t145 ⟨rfl, by decide⟩ ?_
  dsimp only [c145]
  have tl := turn_len ht
  have wi : IntKind.i64.wrap ((m : Int) - (a : Int)) = ((m - a : Nat) : Int) := by rw [show (m : Int) - (a : Int) = ((m - a : Nat) : Int) by omega]; exact IntWalk.i64_in _ (by omega)
  have wj : IntKind.i64.wrap ((b : Int) - (m : Int)) = ((b - m : Nat) : Int) := by rw [show (b : Int) - (m : Int) = ((b - m : Nat) : Int) by omega]; exact IntWalk.i64_in _ (by omega)
  obtain ⟨i0, hi0⟩ : ∃ i, i = m - a := ⟨_, rfl⟩
  obtain ⟨j0, hj0⟩ : ∃ j, j = b - m := ⟨_, rfl⟩
  rw [← hi0] at wi ht tl
  rw [← hj0] at wj ht tl
  simp [wi, wj]
  refine wC_loop_inv (RoI A d o c l.length m cv t) ?_ (i0 + j0) _ ⟨i0, j0, l, rfl, by omega, by omega, rfl, rfl, ⟨by simp, by simp, by simp, by simp, by simp⟩, h, rfl, ht, Ext.refl⟩
  rintro m' ⟨env, nn, dfs, B⟩ ⟨i, j, k, rfl, hi, hj, k1, k2, ⟨r0, r2, r4, r10, r11⟩, hr, hkl, hT, eB⟩
  simp only at k1 k2 r0 r2 r4 r10 r11 hr eB
  subst k1; subst k2
  have hTl := turn_len hT
  have w1 : IntKind.i64.wrap ((m : Int) - (i : Int)) = ((m - i : Nat) : Int) := by rw [show (m : Int) - (i : Int) = ((m - i : Nat) : Int) by omega]; exact IntWalk.i64_in _ (by omega)
  obtain ⟨mi, hmi⟩ : ∃ x, x = m - i := ⟨_, rfl⟩
  rw [← hmi] at w1
  by_cases hij : i = j
  · subst hij
    simp [r0, r2, r4, r10, r11, w1, ← hkl]
    refine swapRange_ok B d o c k mi m i cv hr (by omega) (by omega) (by omega) _ fun C eC hC => ?_
    simp
    refine hq C (eB.trans eC) ?_
    rw [hmi, turn_same hT] at hC
    exact hC
  · have hne : ¬ (i : Int) = (j : Int) := by omega
    by_cases hgt : j < i
    · have hgti : (j : Int) < (i : Int) := by omega
      have w2 : IntKind.i64.wrap ((i : Int) - (j : Int)) = ((i - j : Nat) : Int) := by rw [show (i : Int) - (j : Int) = ((i - j : Nat) : Int) by omega]; exact IntWalk.i64_in _ (by omega)
      obtain ⟨y, hy⟩ : ∃ x, x = i - j := ⟨_, rfl⟩
      rw [← hy] at w2
      simp [r0, r2, r4, r10, r11, hij, hne, hgt, hgti, w1, ← hkl]
      refine swapRange_ok B d o c k mi m j cv hr (by omega) (by omega) (by omega) _ fun C eC hC => ?_
      simp [r10, r11, w2]
      have hT' := turn_more hT hgt
      rw [← hmi, ← hy] at hT'
      exact ⟨y + j, by omega, y, j, _, rfl, by omega, hj, rfl, rfl, ⟨by simp [r0, hkl], by simp [r2], by simp [r4], by simp, by simp [r11]⟩, hC, by rw [swp_len, hkl], hT', eB.trans eC⟩
    · have hgti : ¬ (j : Int) < (i : Int) := by omega
      have w2 : IntKind.i64.wrap ((j : Int) - (i : Int)) = ((j - i : Nat) : Int) := by rw [show (j : Int) - (i : Int) = ((j - i : Nat) : Int) by omega]; exact IntWalk.i64_in _ (by omega)
      obtain ⟨y, hy⟩ : ∃ x, x = j - i := ⟨_, rfl⟩
      rw [← hy] at w2
      have w3 : IntKind.i64.wrap ((m : Int) + (j : Int)) = ((m + j : Nat) : Int) := IntWalk.i64_in _ (by omega)
      obtain ⟨p, hp⟩ : ∃ x, x = m + j := ⟨_, rfl⟩
      rw [← hp] at w3
      have w4 : IntKind.i64.wrap ((p : Int) - (i : Int)) = ((p - i : Nat) : Int) := by rw [show (p : Int) - (i : Int) = ((p - i : Nat) : Int) by omega]; exact IntWalk.i64_in _ (by omega)
      obtain ⟨q, hqq⟩ : ∃ x, x = p - i := ⟨_, rfl⟩
      rw [← hqq] at w4
      simp [r0, r2, r4, r10, r11, hij, hne, hgt, hgti, w1, w3, w4, ← hkl]
      refine swapRange_ok B d o c k mi q i cv hr (by omega) (by omega) (by omega) _ fun C eC hC => ?_
      simp [r10, r11, w2]
      have hT' := turn_less hT (by omega)
      rw [← hmi, ← hy, ← hp, ← hqq] at hT'
      exact ⟨i + y, by omega, i, y, _, rfl, hi, by omega, rfl, rfl, ⟨by simp [r0, hkl], by simp [r2], by simp [r4], by simp [r10], by simp⟩, hC, by rw [swp_len, hkl], hT', eB.trans eC⟩
end Go.Proofs.YtigknpfjhegkgaaGreat
end

section
/- A row put in order, one place behind the other. -/
namespace Go.Proofs.YtigknpfjhegkgaaGreat
open Go Go.AS
set_option maxRecDepth 100000
set_option linter.unusedSimpArgs false
set_option linter.unusedVariables false
attribute [local irreducible] Trie.set Trie.get Env.rd
attribute [local simp ↓] wV_b2s
attribute [local simp] Nat.add_assoc wD_cons'' wD_nil' wC_seq wC_ops wC_opsD_nil wC_cond wC_skip wC_ret wC_exit wC_block wO_cons' wO_nil wantedA wV_eq lop qop ev wL_some wL_none wPut envOf rd_set rd_leaf eqA thenC blockC wB_true wB_false endF unwindA resultsA resA tupleA rdCell rdCells wrCells cl fillP lay rep bi_eql bi_neq bi_lss bi_leq bi_gtr bi_geq bi_add bi_sub bs_eql bs_neq bi_shr4 unA get_set' AHeap.get_alloc oneCell beqd bned idxA


/-- A function that compares by rank, while only the row's block changes. -/
def Vd (r : Nat → Int) (x : Nat) : Prop := x < 1000000 ∧ 0 ≤ r x
def Cmp (r : Nat → Int) (cv : Value) (d : Nat) (A : AHeap) : Prop := ∀ B, Ext (Only d) A B → ∀ (x y : Nat), Vd r x → Vd r y → ∀ Q : Value → AHeap → Prop, (∀ B' n, Ext NoB B B' → (n < 0 ↔ r x < r y) → Q (.int .i64 n) B') → wF T cv [.int .i64 (x : Nat), .int .i64 (y : Nat)] B Q
theorem Cmp.ext {r : Nat → Int} {cv : Value} {d : Nat} {A A' : AHeap} (h : Cmp r cv d A) (e : Ext (Only d) A A') : Cmp r cv d A' := fun B eB => h B (e.trans eB)
theorem only {d : Nat} {A B : AHeap} (h : Ext NoB A B) : Ext (Only d) A B := h.mono fun _ _ q => q.elim
theorem swap_at (x s t : List Nat) (u v : Nat) : ((x ++ (s ++ (u :: (v :: t)))).set (x.length + s.length + 1) u).set (x.length + s.length) v = x ++ (s ++ (v :: (u :: t))) := by
  rw [List.set_append_right _ _ (by omega), List.set_append_right _ _ (by omega), List.set_append_right _ _ (by omega), List.set_append_right _ _ (by omega)]
  congr 2
  rw [show x.length + s.length + 1 - x.length - s.length = 1 by omega, show x.length + s.length - x.length - s.length = 0 by omega]
  rfl
theorem at_app (x s t : List Nat) (u : Nat) : (x ++ (s ++ (u :: t))).getD (x.length + s.length) 0 = u := by
  rw [List.getD_eq_getElem?_getD, List.getElem?_append_right (by omega), List.getElem?_append_right (by omega), show x.length + s.length - x.length - s.length = 0 by omega]
  rfl
def InI (A0 : AHeap) (d o c n0 a b i : Nat) (cv : Value) (r : Nat → Int) (x w S : List Nat) (v : Nat) (m : Nat) (st : St) : Prop := ∃ S1 S2, m = S1.length ∧ S = S1 ++ S2 ∧ (∀ y ∈ S2, Be r v y) ∧ st.n = 53 ∧ st.dfs = [] ∧ (st.env.rd 0 = .slice (some ⟨d, o, none⟩) n0 c ∧ st.env.rd 1 = .int .i64 (a : Nat) ∧ st.env.rd 2 = .int .i64 (b : Nat) ∧ st.env.rd 3 = cv ∧ st.env.rd 8 = .int .i64 (i : Nat) ∧ st.env.rd 9 = .int .i64 ((a + S1.length : Nat) : Int)) ∧ RowAt st.A d o (x ++ (S1 ++ (v :: (S2 ++ w)))) ∧ Ext (Only d) A0 st.A
def OuI (A0 : AHeap) (d o c n0 a b : Nat) (cv : Value) (r : Nat → Int) (x z L : List Nat) (m : Nat) (st : St) : Prop := ∃ i S, a + 1 ≤ i ∧ i ≤ b ∧ m + i = b ∧ IsOrd r (L.take (i - a)) S ∧ st.n = 53 ∧ st.dfs = [] ∧ (st.env.rd 0 = .slice (some ⟨d, o, none⟩) n0 c ∧ st.env.rd 1 = .int .i64 (a : Nat) ∧ st.env.rd 2 = .int .i64 (b : Nat) ∧ st.env.rd 3 = cv ∧ st.env.rd 8 = .int .i64 (i : Nat)) ∧ RowAt st.A d o (x ++ (S ++ (L.drop (i - a) ++ z))) ∧ Ext (Only d) A0 st.A
theorem insertion_ok (r : Nat → Int) (A : AHeap) (d o c : Nat) (x L z : List Nat) (cv : Value) (hr : RowAt A d o (x ++ (L ++ z))) (hc : Cmp r cv d A) (hL : L.Pairwise (· < ·)) (hn : (x ++ (L ++ z)).length < 1000000) (hv : ∀ y ∈ L, Vd r y) (hL0 : 0 < L.length) (Q : Value → AHeap → Prop) (hq : ∀ A' L', Ext (Only d) A A' → IsOrd r L L' → RowAt A' d o (x ++ (L' ++ z)) → Q (.tuple ⟨[]⟩) A') :
    wF T (.func (.func 126) #[] #[]) [.slice (some ⟨d, o, none⟩) (x ++ (L ++ z)).length c, .int .i64 (x.length : Nat), .int .i64 ((x.length + L.length : Nat) : Int), cv] A Q := by
  refine wF_func (first := []) (captured := []) t126 ⟨rfl, by decide⟩ ?_
  dsimp only [c126]
  have hlen : (x ++ (L ++ z)).length = x.length + L.length + z.length := by simp [Nat.add_assoc]
  obtain ⟨n0, hn0⟩ : ∃ n, n = (x ++ (L ++ z)).length := ⟨_, rfl⟩
  obtain ⟨a, ha⟩ : ∃ n, n = x.length := ⟨_, rfl⟩
  obtain ⟨b, hb⟩ : ∃ n, n = x.length + L.length := ⟨_, rfl⟩
  rw [← hn0, ← hb, ← ha]
  rw [← hn0] at hlen hn
  have w1 : IntKind.i64.wrap ((a : Int) + 1) = ((a + 1 : Nat) : Int) := IntWalk.i64_in _ (by omega)
  obtain ⟨a1, ha1⟩ : ∃ n, n = a + 1 := ⟨_, rfl⟩
  rw [← ha1] at w1
  simp [w1]
  have first : ∃ v0 L0, L = v0 :: L0 := by
    cases L with
    | nil => simp at hL0
    | cons v0 L0 => exact ⟨v0, L0, rfl⟩
  obtain ⟨v0, L0, rfl⟩ := first
  refine wC_loop_inv (OuI A d o c n0 a b cv r x z (v0 :: L0)) ?_ (b - a1) _ ⟨a1, [v0], by omega, by simp at hb; omega, by simp at hb; omega, ?_, rfl, rfl, ⟨by simp, by simp, by simp, by simp, by simp⟩, ?_, Ext.refl⟩
  rotate_left
  · rw [ha1, show a + 1 - a = 1 by omega]; exact ⟨List.Perm.refl _, by simp [Ord]⟩
  · rw [ha1, show a + 1 - a = 1 by omega]; exact hr
  generalize hLL : v0 :: L0 = LL at *
  rintro m ⟨env, nn, dfs, B⟩ ⟨i, S, i1, i2, hm, hS, k1, k2, ⟨r0, r1, r2, r3, r8⟩, hrow, eB⟩
  simp only at k1 k2 r0 r1 r2 r3 r8 hrow eB
  subst k1; subst k2
  by_cases hi : i < b
  case neg =>
    have hib : i = b := by omega
    have hii : ¬ (i : Int) < (b : Int) := by omega
    have e1 : LL.take (i - a) = LL := List.take_of_length_le (by omega)
    have e2 : LL.drop (i - a) = [] := List.drop_eq_nil_of_le (by omega)
    rw [e1] at hS
    rw [e2] at hrow
    simp [r2, r8, hii, hi]
    exact hq B S eB hS hrow
  have hii : (i : Int) < (b : Int) := by omega
  have hk : i - a < LL.length := by omega
  have hd : LL.drop (i - a) = LL[i - a] :: LL.drop (i - a + 1) := List.drop_eq_getElem_cons hk
  have ht : LL.take (i - a + 1) = LL.take (i - a) ++ [LL[i - a]] := by rw [List.take_add_one, List.getElem?_eq_getElem hk]; rfl
  have hvm : LL[i - a] ∈ LL := List.getElem_mem hk
  have hup : ∀ y ∈ LL.take (i - a), y < LL[i - a] := by
    intro y hy
    obtain ⟨k, hk1, hk2, rfl⟩ := mem_take hy
    exact (List.pairwise_iff_getElem.1 hL) k (i - a) hk1 hk hk2
  rw [hd] at hrow
  generalize LL[i - a] = v at hrow ht hvm hup
  have hv1 := hv v hvm
  have hSl : S.length = i - a := by rw [hS.1.length_eq, List.length_take]; omega
  have wi : IntKind.i64.wrap ((i : Int) + 1) = ((i + 1 : Nat) : Int) := IntWalk.i64_in _ (by omega)
  simp [r0, r1, r2, r3, r8, hii, hi]
  refine wC_loop_inv (InI A d o c n0 a b i cv r x (LL.drop (i - a + 1) ++ z) S v) ?_ S.length _ ⟨S, [], rfl, by simp, by simp, rfl, rfl, ⟨by simp [r0], by simp [r1], by simp [r2], by simp [r3], by simp [r8], by simp; omega⟩, by simpa using hrow, eB⟩
  rintro m2 ⟨env, nn, dfs, C⟩ ⟨S1, S2, rfl, hS12, hS2, k1, k2, ⟨r0, r1, r2, r3, r8, r9⟩, hrow, eC⟩
  simp only at k1 k2 r0 r1 r2 r3 r8 r9 hrow eC
  subst k1; subst k2
  have hw : ∀ (e : AHeap) (env' : Env), Ext NoB C e → env'.rd 0 = .slice (some ⟨d, o, none⟩) n0 c → env'.rd 1 = .int .i64 (a : Nat) → env'.rd 2 = .int .i64 (b : Nat) → env'.rd 3 = cv → env'.rd 8 = .int .i64 ((i + 1 : Nat) : Int) → (∀ y ∈ S1, Be r y v) → ∃ m', m' < m ∧ OuI A d o c n0 a b cv r x z LL m' { env := env', n := 53, dfs := [], A := e } := by
    intro e env' he z0 z1 z2 z3 z8 hS1
    refine ⟨m - 1, by omega, i + 1, S1 ++ v :: S2, by omega, by omega, by omega, ?_, rfl, rfl, ⟨z0, z1, z2, z3, z8⟩, ?_, eC.trans (only he)⟩
    · have hp := put_in (x := v) (hS12 ▸ hS.2) hS1 hS2
      refine ⟨hp.1.trans ?_, hp.2⟩
      rw [show i + 1 - a = i - a + 1 by omega, ht, ← hS12]
      exact List.Perm.append_right _ hS.1
    · rw [show i + 1 - a = i - a + 1 by omega]
      have := hrow.ext he (fun q => q)
      simpa using this
  rcases List.eq_nil_or_concat S1 with rfl | ⟨s, u, hs⟩
  · have r9' : env.rd 9 = .int .i64 (a : Nat) := by rw [r9]; rfl
    simp [r1, r8, r9', wi]
    exact hw C _ Ext.refl (by simp [r0]) (by simp [r1]) (by simp [r2]) (by simp [r3]) (by simp) (by simp)
  · rw [List.concat_eq_append] at hs
    subst hs
    obtain ⟨j1, hj1⟩ : ∃ j, j = a + s.length := ⟨_, rfl⟩
    have hll : (s ++ [u]).length = s.length + 1 := by simp
    have hSS : S.length = s.length + 1 + S2.length := by rw [hS12]; simp; omega
    have r9' : env.rd 9 = .int .i64 ((j1 + 1 : Nat) : Int) := by rw [r9, show a + (s ++ [u]).length = j1 + 1 by rw [hll]; omega]
    have hlt : a < j1 + 1 := by omega
    have hlti : (a : Int) < ((j1 + 1 : Nat) : Int) := by omega
    obtain ⟨j, hj⟩ : ∃ j, j = j1 + 1 := ⟨_, rfl⟩
    rw [← hj] at r9' hlti hlt
    have wj : IntKind.i64.wrap ((j : Int) - 1) = (j1 : Nat) := by rw [show (j : Int) - 1 = (j1 : Nat) by omega]; exact IntWalk.i64_in _ (by omega)
    have e1 : x ++ ((s ++ [u]) ++ (v :: (S2 ++ (LL.drop (i - a + 1) ++ z)))) = x ++ (s ++ (u :: (v :: (S2 ++ (LL.drop (i - a + 1) ++ z))))) := by simp
    rw [e1] at hrow
    obtain ⟨bs, opn, hB⟩ := hrow
    have hkl : (x ++ (s ++ (u :: (v :: (S2 ++ (LL.drop (i - a + 1) ++ z)))))).length = n0 := by
      have : (LL.drop (i - a + 1)).length = LL.length - (i - a + 1) := List.length_drop
      simp only [List.length_append, List.length_cons, this]
      omega
    have hjn : j < n0 := by rw [← hkl]; simp only [List.length_append, List.length_cons]; omega
    have gu : bs[o + j1]? = some (.int .i64 (u : Nat)) := by
      have := hB.at (i := j1) (by rw [hkl]; omega)
      rw [hj1, ha, at_app, ← ha, ← hj1] at this
      exact this
    have gv : bs[o + j]? = some (.int .i64 (v : Nat)) := by
      have := hB.at (i := j) (by rw [hkl]; omega)
      have e2 : (x ++ (s ++ (u :: (v :: (S2 ++ (LL.drop (i - a + 1) ++ z)))))) = x ++ ((s ++ [u]) ++ (v :: (S2 ++ (LL.drop (i - a + 1) ++ z)))) := e1.symm
      have e3 : j = x.length + (s ++ [u]).length := by rw [hll]; omega
      rw [e2, e3, at_app, ← e3] at this
      exact this
    have g1 := hB.get
    have g2 := hB.le
    rw [hkl] at g2
    have hum : u ∈ LL.take (i - a) := hS.1.subset (by rw [hS12]; simp)
    have huv := hup u hum
    simp [r0, r1, r3, r9', hlt, hlti, wj, hjn, show j1 < n0 by omega, g1, gu, gv, show o + (j + 1) ≤ bs.length by omega, show o + (j1 + 1) ≤ bs.length by omega]
    refine hc C eC v u hv1 (hv u (List.mem_of_mem_take hum)) _ fun D n eD hn0' => ?_
    have g1D := eD.get g1 id
    by_cases hneg : n < 0
    · have hvu : Be r v u := (Be.of_lt huv).2 (hn0'.1 hneg)
      simp [hneg, r0, r1, r3, r9', wj, hjn, show j1 < n0 by omega, g1D, gu, gv, show o + (j + 1) ≤ bs.length by omega, show o + (j1 + 1) ≤ bs.length by omega, AHeap.get_lt g1D, show ¬ j = j1 by omega]
      refine ⟨s.length, by omega, s, u :: S2, rfl, by rw [hS12]; simp, ?_, rfl, rfl, ⟨by simp [r0], by simp [r1], by simp [r2], by simp [r3], by simp [r8], by simp [hj1]⟩, ?_, ((eC.trans (only eD)).trans (Ext.set rfl)).trans (Ext.set rfl)⟩
      · intro y hy
        rcases List.mem_cons.1 hy with q | q
        · rw [q]; exact hvu
        · exact hS2 y q
      · have hBD : RowB D d o _ bs opn := ⟨g1D, hB.le, hB.eq⟩
        have h2 := (hBD.set j u).set j1 v
        have e5 := swap_at x s (S2 ++ (LL.drop (i - a + 1) ++ z)) u v
        rw [← ha, ← hj1, ← hj] at e5
        rw [e5] at h2
        exact ⟨_, _, h2⟩
    · have hbu : Be r u v := (Be.of_lt' huv).2 fun q => hneg (hn0'.2 q)
      simp [hneg, r8, wi]
      refine hw D _ eD (by simp [r0]) (by simp [r1]) (by simp [r2]) (by simp [r3]) (by simp) ?_
      intro y hy
      have hord : Ord r (s ++ [u]) := (hS12 ▸ hS.2 : Ord r ((s ++ [u]) ++ S2)).left
      rcases List.mem_append.1 hy with q | q
      · exact (hord.cross y q u (by simp)).trans hbu
      · rw [List.mem_singleton.1 q]; exact hbu
end Go.Proofs.YtigknpfjhegkgaaGreat
end

section
/- A merge's first arms: one place put into a row in order. -/
namespace Go.Proofs.YtigknpfjhegkgaaGreat
open Go Go.AS
set_option maxRecDepth 100000
set_option linter.unusedSimpArgs false
set_option linter.unusedVariables false
attribute [local irreducible] Trie.set Trie.get Env.rd
attribute [local simp ↓] wV_b2s
attribute [local simp] Nat.add_assoc wD_cons'' wD_nil' wC_seq wC_ops wC_opsD_nil wC_cond wC_skip wC_ret wC_exit wC_block wO_cons' wO_nil wantedA wV_eq lop qop ev wL_some wL_none wPut envOf rd_set rd_leaf eqA thenC blockC wB_true wB_false endF unwindA resultsA resA tupleA rdCell rdCells wrCells cl fillP lay rep bi_eql bi_neq bi_lss bi_leq bi_gtr bi_geq bi_add bi_sub bs_eql bs_neq bi_shr4 unA get_set' AHeap.get_alloc oneCell beqd bned idxA


theorem swap_at' (x s t : List Nat) (u v : Nat) : ((x ++ (s ++ (v :: (u :: t)))).set (x.length + s.length) u).set (x.length + s.length + 1) v = x ++ (s ++ (u :: (v :: t))) := by
  rw [List.set_append_right _ _ (by omega), List.set_append_right _ _ (by omega), List.set_append_right _ _ (by omega), List.set_append_right _ _ (by omega)]
  congr 2
  rw [show x.length + s.length + 1 - x.length - s.length = 1 by omega, show x.length + s.length - x.length - s.length = 0 by omega]
  rfl
theorem at_next (x s t : List Nat) (u v : Nat) : (x ++ (s ++ (v :: (u :: t)))).getD (x.length + s.length + 1) 0 = u := by
  rw [List.getD_eq_getElem?_getD, List.getElem?_append_right (by omega), List.getElem?_append_right (by omega), show x.length + s.length + 1 - x.length - s.length = 1 by omega]
  rfl
def ShI (A0 : AHeap) (d o c n0 i : Nat) (x w B1 : List Nat) (v : Nat) (m : Nat) (st : St) : Prop := ∃ D E, m = E.length ∧ B1 = D ++ E ∧ st.n = 220 ∧ st.dfs = [] ∧ (st.env.rd 0 = .slice (some ⟨d, o, none⟩) n0 c ∧ st.env.rd 10 = .int .i64 (i : Nat) ∧ st.env.rd 13 = .int .i64 ((x.length + D.length : Nat) : Int)) ∧ RowAt st.A d o (x ++ (D ++ (v :: (E ++ w)))) ∧ Ext (Only d) A0 st.A
theorem shift_ok (A : AHeap) (d o c n0 i : Nat) (x w B1 : List Nat) (v : Nat) (h : RowAt A d o (x ++ (v :: (B1 ++ w)))) (hn : (x ++ (v :: (B1 ++ w))).length = n0) (hl : n0 < 1000000) (hi : i = x.length + 1 + B1.length)
    (env : Env) (r0 : env.rd 0 = .slice (some ⟨d, o, none⟩) n0 c) (r1 : env.rd 1 = .int .i64 (x.length : Nat)) (r10 : env.rd 10 = .int .i64 (i : Nat)) (K : AExit → St → Prop) (hK : ∀ env' A', Ext (Only d) A A' → RowAt A' d o (x ++ (B1 ++ (v :: w))) → K .ret { env := env', n := 220, dfs := [], A := A' }) :
    wC T 127 none c127u { env := env, n := 220, dfs := [], A := A } K := by
  dsimp only [c127u]
  simp [r1]
  refine wC_loop_inv (ShI A d o c n0 i x w B1 v) ?_ B1.length _ ⟨[], B1, rfl, rfl, rfl, rfl, ⟨by simp [r0], by simp [r10], by simp⟩, by simpa using h, Ext.refl⟩
  rintro m ⟨env, nn, dfs, B⟩ ⟨D, E, rfl, hDE, k1, k2, ⟨r0, r10, r13⟩, hr, eB⟩
  simp only at k1 k2 r0 r10 r13 hr eB
  subst k1; subst k2
  have hBl : B1.length = D.length + E.length := by rw [hDE]; simp
  have wi : IntKind.i64.wrap ((i : Int) - 1) = ((x.length + B1.length : Nat) : Int) := by rw [show (i : Int) - 1 = ((x.length + B1.length : Nat) : Int) by omega]; exact IntWalk.i64_in _ (by simp only [List.length_append, List.length_cons] at hn; omega)
  simp only [List.length_append, List.length_cons] at hn
  obtain ⟨p, hp⟩ : ∃ p, p = x.length + B1.length := ⟨_, rfl⟩
  obtain ⟨k, hk⟩ : ∃ k, k = x.length + D.length := ⟨_, rfl⟩
  rw [← hp] at wi
  rw [← hk] at r13
  match E, hBl, hr, hDE with
  | [], hBl, hr, hDE =>
    have hE0 : D = B1 := by rw [hDE]; simp
    have hii : ¬ (k : Int) < (p : Int) := by simp at hBl; omega
    have hii2 : ¬ k < p := by simp at hBl; omega
    simp [r10, r13, wi, hii, hii2]
    rw [hE0] at hr
    exact hK _ _ eB hr
  | u :: E, hBl, hr, hDE =>
    simp only [List.length_cons] at hBl
    have hii : (k : Int) < (p : Int) := by omega
    have hii2 : k < p := by omega
    obtain ⟨bs, opn, hB⟩ := hr
    have g1 := hB.get
    have g2 := hB.le
    simp only [List.length_append, List.length_cons] at g2
    have gv : bs[o + k]? = some (.int .i64 (v : Nat)) := by
      have := hB.at (i := k) (by simp only [List.length_append, List.length_cons]; omega)
      rw [hk, at_app, ← hk] at this
      exact this
    have gu : bs[o + (k + 1)]? = some (.int .i64 (u : Nat)) := by
      have := hB.at (i := k + 1) (by simp only [List.length_append, List.length_cons]; omega)
      rw [hk] at this
      have e := at_next x D (E ++ w) u v
      show bs[o + (k + 1)]? = _
      rw [hk, this]
      exact congrArg (fun z => some (Value.int .i64 ((z : Nat) : Int))) e
    have wk : IntKind.i64.wrap ((k : Int) + 1) = ((k + 1 : Nat) : Int) := IntWalk.i64_in _ (by omega)
    obtain ⟨k', hk'⟩ : ∃ k', k' = k + 1 := ⟨_, rfl⟩
    rw [← hk'] at wk gu
    simp [r0, r10, r13, wi, hii, hii2, wk, g1, gu, gv, show k < n0 by omega, show k' < n0 by omega, show o + (k + 1) ≤ bs.length by omega, show o + (k' + 1) ≤ bs.length by omega, AHeap.get_lt g1, show ¬ k = k' by omega, show ¬ k' = k by omega]
    refine ⟨E.length, by omega, D ++ [u], E, rfl, by rw [hDE]; simp, rfl, rfl, ⟨by simp [r0], by simp [r10], by simp; omega⟩, ?_, (eB.trans (Ext.set rfl)).trans (Ext.set rfl)⟩
    have h2 := (hB.set k u).set k' v
    have e5 := swap_at' x D (E ++ w) u v
    rw [← hk, ← hk'] at e5
    have e6 : x ++ (D ++ (v :: (u :: E ++ w))) = x ++ (D ++ (v :: (u :: (E ++ w)))) := rfl
    rw [e6, e5] at h2
    have e7 : x ++ ((D ++ [u]) ++ (v :: (E ++ w))) = x ++ (D ++ (u :: (v :: (E ++ w)))) := by simp
    rw [e7]
    exact ⟨_, _, h2⟩
def SgI (A0 : AHeap) (d o c n0 i : Nat) (x w A2 : List Nat) (v : Nat) (m : Nat) (st : St) : Prop := ∃ E F, m = E.length ∧ A2 = E ++ F ∧ st.n = 220 ∧ st.dfs = [] ∧ (st.env.rd 0 = .slice (some ⟨d, o, none⟩) n0 c ∧ st.env.rd 14 = .int .i64 (i : Nat) ∧ st.env.rd 17 = .int .i64 ((i + E.length : Nat) : Int)) ∧ RowAt st.A d o (x ++ (E ++ (v :: (F ++ w)))) ∧ Ext (Only d) A0 st.A
theorem shiftL_ok (A : AHeap) (d o c n0 i mm : Nat) (x w A2 : List Nat) (v : Nat) (h : RowAt A d o (x ++ (A2 ++ (v :: w)))) (hn : (x ++ (A2 ++ (v :: w))).length = n0) (hl : n0 < 1000000) (hi : i = x.length) (hm : mm = x.length + A2.length)
    (env : Env) (r0 : env.rd 0 = .slice (some ⟨d, o, none⟩) n0 c) (r2 : env.rd 2 = .int .i64 (mm : Nat)) (r14 : env.rd 14 = .int .i64 (i : Nat)) (K : AExit → St → Prop) (hK : ∀ env' A', Ext (Only d) A A' → RowAt A' d o (x ++ (v :: (A2 ++ w))) → K .ret { env := env', n := 220, dfs := [], A := A' }) :
    wC T 127 none c127v { env := env, n := 220, dfs := [], A := A } K := by
  dsimp only [c127v]
  simp [r2]
  refine wC_loop_inv (SgI A d o c n0 i x w A2 v) ?_ A2.length _ ⟨A2, [], rfl, by simp, rfl, rfl, ⟨by simp [r0], by simp [r14], by simp; omega⟩, by simpa using h, Ext.refl⟩
  rintro m ⟨env, nn, dfs, B⟩ ⟨E, F, rfl, hEF, k1, k2, ⟨r0, r14, r17⟩, hr, eB⟩
  simp only at k1 k2 r0 r14 r17 hr eB
  subst k1; subst k2
  have hAl : A2.length = E.length + F.length := by rw [hEF]; simp
  simp only [List.length_append, List.length_cons] at hn
  rcases List.eq_nil_or_concat E with rfl | ⟨s, u, hs⟩
  · have r17' : env.rd 17 = .int .i64 (i : Nat) := by rw [r17]; rfl
    simp [r14, r17']
    have hF : F = A2 := by rw [hEF]; rfl
    rw [hF] at hr
    exact hK _ _ eB hr
  · rw [List.concat_eq_append] at hs
    subst hs
    have hll : (s ++ [u]).length = s.length + 1 := by simp
    obtain ⟨j1, hj1⟩ : ∃ j, j = i + s.length := ⟨_, rfl⟩
    have r17' : env.rd 17 = .int .i64 ((j1 + 1 : Nat) : Int) := by rw [r17, show i + (s ++ [u]).length = j1 + 1 by rw [hll]; omega]
    obtain ⟨j, hj⟩ : ∃ j, j = j1 + 1 := ⟨_, rfl⟩
    rw [← hj] at r17'
    have hlt : i < j := by omega
    have hlti : (i : Int) < (j : Int) := by omega
    have wj : IntKind.i64.wrap ((j : Int) - 1) = (j1 : Nat) := by rw [show (j : Int) - 1 = (j1 : Nat) by omega]; exact IntWalk.i64_in _ (by omega)
    have e1 : x ++ ((s ++ [u]) ++ (v :: (F ++ w))) = x ++ (s ++ (u :: (v :: (F ++ w)))) := by simp
    rw [e1] at hr
    obtain ⟨bs, opn, hB⟩ := hr
    have hkl : (x ++ (s ++ (u :: (v :: (F ++ w))))).length = n0 := by simp only [List.length_append, List.length_cons]; omega
    have gu : bs[o + j1]? = some (.int .i64 (u : Nat)) := by
      have := hB.at (i := j1) (by rw [hkl]; omega)
      rw [hj1, hi, at_app, ← hi, ← hj1] at this
      exact this
    have gv : bs[o + j]? = some (.int .i64 (v : Nat)) := by
      have := hB.at (i := j) (by rw [hkl]; omega)
      have e3 : j = x.length + (s ++ [u]).length := by rw [hll]; omega
      rw [← e1, e3, at_app, ← e3] at this
      exact this
    have g1 := hB.get
    have g2 := hB.le
    rw [hkl] at g2
    simp [r0, r14, r17', hlt, hlti, wj, g1, gu, gv, show j < n0 by omega, show j1 < n0 by omega, show o + (j + 1) ≤ bs.length by omega, show o + (j1 + 1) ≤ bs.length by omega, AHeap.get_lt g1, show ¬ j = j1 by omega, show ¬ j1 = j by omega]
    refine ⟨s.length, by omega, s, u :: F, rfl, by rw [hEF]; simp, rfl, rfl, ⟨by simp [r0], by simp [r14], by simp; omega⟩, ?_, (eB.trans (Ext.set rfl)).trans (Ext.set rfl)⟩
    have h2 := (hB.set j u).set j1 v
    have e5 := swap_at x s (F ++ w) u v
    rw [← hi, ← hj1, ← hj] at e5
    rw [e5] at h2
    exact ⟨_, _, h2⟩
end Go.Proofs.YtigknpfjhegkgaaGreat
end

section
/- A merge's first arms: the search. -/
namespace Go.Proofs.YtigknpfjhegkgaaGreat
open Go Go.AS
set_option maxRecDepth 100000
set_option linter.unusedSimpArgs false
set_option linter.unusedVariables false
attribute [local irreducible] Trie.set Trie.get Env.rd
attribute [local simp ↓] wV_b2s
attribute [local simp] Nat.add_assoc wD_cons'' wD_nil' wC_seq wC_ops wC_opsD_nil wC_cond wC_skip wC_ret wC_exit wC_block wO_cons' wO_nil wantedA wV_eq lop qop ev wL_some wL_none wPut envOf rd_set rd_leaf eqA thenC blockC wB_true wB_false endF unwindA resultsA resA tupleA rdCell rdCells wrCells cl fillP lay rep bi_eql bi_neq bi_lss bi_leq bi_gtr bi_geq bi_add bi_sub bs_eql bs_neq bi_shr4 unA get_set' AHeap.get_alloc oneCell beqd bned idxA


theorem ord_take {r : Nat → Int} {B : List Nat} (hb : Ord r B) {k v : Nat} (hk : k < B.length) (h : Be r B[k] v) : ∀ y ∈ B.take (k + 1), Be r y v := by
  intro y hy
  obtain ⟨i, hi, hi2, rfl⟩ := mem_take hy
  rcases Nat.lt_or_ge i k with q | q
  · exact (hb.at q hk).trans h
  · have : i = k := by omega
    subst this; exact h
theorem ord_drop {r : Nat → Int} {B : List Nat} (hb : Ord r B) {k v : Nat} (hk : k < B.length) (h : Be r v B[k]) : ∀ y ∈ B.drop k, Be r v y := by
  intro y hy
  obtain ⟨i, hi, hi2, rfl⟩ := mem_drop hy
  rcases Nat.lt_or_ge k i with q | q
  · exact h.trans (hb.at q hi)
  · have : i = k := by omega
    subst this; exact h
theorem bi_shr1 (n : Nat) : binA .shr (.int .u64 (n : Nat)) (.int .u64 1) = some (.int .u64 ((n / 2 : Nat) : Int)) := by
  simp only [binA]
  rw [if_neg (by decide)]
  congr 2
  show (n : Int).fdiv (2 ^ (min (1 : Int).toNat 64)) = _
  rw [show (2 : Int) ^ (min (1 : Int).toNat 64) = 2 from rfl, Int.fdiv_eq_ediv_of_nonneg _ (by decide)]
  exact (Int.natCast_ediv n 2).symm
/-- The middle of two numbers, as the code has it. -/
theorem mid_facts (i j : Nat) (h : i + j < 4000000) : ∃ y m : Nat, y = i + j ∧ m = y / 2 ∧ IntKind.i64.wrap ((i : Int) + (j : Int)) = (y : Nat) ∧ IntKind.u64.wrap (y : Int) = (y : Nat) ∧ binA .shr (.int .u64 (y : Nat)) (.int .u64 1) = some (.int .u64 (m : Nat)) ∧ IntKind.i64.wrap (m : Int) = (m : Nat) ∧ IntKind.i64.wrap ((m : Int) + 1) = ((m + 1 : Nat) : Int) := by
  refine ⟨i + j, (i + j) / 2, rfl, rfl, ?_, ?_, bi_shr1 _, ?_, ?_⟩
  · rw [show (i : Int) + (j : Int) = ((i + j : Nat) : Int) by simp]; exact IntWalk.i64_in _ (by omega)
  · generalize i + j = y at h
    exact IntWalk.u64_in _ (by omega)
  · generalize hz : (i + j) / 2 = z
    exact IntWalk.i64_in _ (by omega)
  · generalize hz : (i + j) / 2 = z
    exact IntWalk.i64_in _ (by omega)
def SeI (A0 : AHeap) (d o c n0 a m b : Nat) (cv : Value) (r : Nat → Int) (l B : List Nat) (v : Nat) (q : Nat) (st : St) : Prop := ∃ i j, q = j - i ∧ m ≤ i ∧ i ≤ j ∧ j ≤ b ∧ (∀ y ∈ B.take (i - m), Be r y v) ∧ (∀ y ∈ B.drop (j - m), Be r v y) ∧ st.n = 220 ∧ st.dfs = [] ∧ (st.env.rd 0 = .slice (some ⟨d, o, none⟩) n0 c ∧ st.env.rd 1 = .int .i64 (a : Nat) ∧ st.env.rd 4 = cv ∧ st.env.rd 10 = .int .i64 (i : Nat) ∧ st.env.rd 11 = .int .i64 (j : Nat)) ∧ RowAt st.A d o l ∧ Ext (Only d) A0 st.A
theorem arm1_ok (r : Nat → Int) (A : AHeap) (d o c : Nat) (l : List Nat) (a m b : Nat) (x B z : List Nat) (v : Nat) (cv : Value) (H : Halves r l a m b x [v] B z) (h : RowAt A d o l) (hl : l.length < 1000000) (hc : Cmp r cv d A) (hv : ∀ y ∈ l, Vd r y)
    (env : Env) (r0 : env.rd 0 = .slice (some ⟨d, o, none⟩) l.length c) (r1 : env.rd 1 = .int .i64 (a : Nat)) (r2 : env.rd 2 = .int .i64 (m : Nat)) (r3 : env.rd 3 = .int .i64 (b : Nat)) (r4 : env.rd 4 = cv) (K : AExit → St → Prop) (hK : ∀ env' A' t, Ext (Only d) A A' → IsOrd r ([v] ++ B) t → RowAt A' d o (x ++ (t ++ z)) → K .ret { env := env', n := 220, dfs := [], A := A' }) :
    wC T 127 none c127s { env := env, n := 220, dfs := [], A := A } K := by
  dsimp only [c127s]
  have hm : m = a + 1 := by have := H.lm; simp at this; omega
  have hlb := H.lb
  have hla := H.la
  have hlen : l.length = x.length + 1 + B.length + z.length := by rw [H.eq]; simp only [List.length_append, List.length_cons, List.length_nil]; omega
  simp [r2, r3]
  refine wC_loop_inv (SeI A d o c l.length a m b cv r l B v) ?_ (b - m) _ ⟨m, b, rfl, by omega, by omega, by omega, by simp, by rw [List.drop_eq_nil_of_le (by omega)]; simp, rfl, rfl, ⟨by simp [r0], by simp [r1], by simp [r4], by simp, by simp⟩, h, Ext.refl⟩
  rintro q ⟨env, nn, dfs, C⟩ ⟨i, j, rfl, hi1, hij, hj1, hlo, hhi, k1, k2, ⟨r0, r1, r4, r10, r11⟩, hr, eC⟩
  simp only at k1 k2 r0 r1 r4 r10 r11 hr eC
  subst k1; subst k2
  by_cases hlt : i < j
  case neg =>
    have hii : ¬ (i : Int) < (j : Int) := by omega
    have hje : j = i := by omega
    subst hje
    simp [r10, r11, hii, hlt]
    have e0 : B = B.take (j - m) ++ B.drop (j - m) := (List.take_append_drop _ _).symm
    have hB1 : (B.take (j - m)).length = j - m := by rw [List.length_take]; omega
    generalize B.take (j - m) = B1 at e0 hlo hB1
    generalize B.drop (j - m) = B2 at e0 hhi
    have el : l = x ++ (v :: (B1 ++ (B2 ++ z))) := by rw [H.eq, e0]; simp
    rw [el] at hr
    refine shift_ok C d o c l.length j x (B2 ++ z) B1 v hr (by rw [← el]) hl (by omega) _ (by simp [r0]) (by simp [r1, hla]) (by simp [r10]) K fun env' A' e1 h1 => ?_
    have hp := put_in (x := v) (e0 ▸ H.oB) hlo hhi
    refine hK env' A' (B1 ++ v :: B2) (eC.trans e1) ⟨hp.1.trans ?_, hp.2⟩ (by simpa using h1)
    rw [e0]
    exact List.perm_append_comm
  have hii : (i : Int) < (j : Int) := by omega
  obtain ⟨y, hh, hy, hhm, w1, w2, w3, w4, w5⟩ := mid_facts i j (by omega)
  have hh1 : i ≤ hh := by omega
  have hh2 : hh < j := by omega
  obtain ⟨u, w, eu, ew, mu, mw, huw, c1, c2⟩ := H.cmp (i := a) (j := hh) (by omega) (by omega) (by omega) (by omega)
  have huv : u = v := by simpa using mu
  subst huv
  obtain ⟨kB, ekB⟩ := H.atB (k := hh) (by omega) (by omega)
  rw [ekB] at ew
  have ew' : B[hh - m] = w := Option.some.inj ew
  obtain ⟨bs, opn, hB⟩ := hr
  have g1 := hB.get
  have g2 := hB.le
  have hal : a < l.length := by omega
  have hhl : hh < l.length := by omega
  have gu : bs[o + a]? = some (.int .i64 (u : Nat)) := by
    have := hB.at hal
    rw [List.getD_eq_getElem?_getD, eu] at this
    exact this
  have gw : bs[o + hh]? = some (.int .i64 (w : Nat)) := by
    have := hB.at hhl
    rw [List.getD_eq_getElem?_getD, ekB, ew'] at this
    exact this
  have hum : u ∈ l := List.mem_of_getElem? eu
  have hwm : w ∈ l := by rw [← ew']; rw [H.eq]; simp [List.getElem_mem]
  simp [r0, r1, r4, r10, r11, hii, hlt, w1, w2, w3, w4, g1, gu, gw, hal, hhl, show o + (a + 1) ≤ bs.length by omega, show o + (hh + 1) ≤ bs.length by omega]
  refine hc C eC w u (hv w hwm) (hv u hum) _ fun D n eD hn => ?_
  by_cases hneg : n < 0
  · have hb : Be r w u := c1.2 (hn.1 hneg)
    simp [hneg, w5]
    refine ⟨j - (hh + 1), by omega, hh + 1, j, rfl, by omega, by omega, hj1, ?_, hhi, rfl, rfl, ⟨by simp [r0], by simp [r1], by simp [r4], by simp, by simp [r11]⟩, RowAt.ext ⟨bs, opn, hB⟩ eD (fun q => q), eC.trans (only eD)⟩
    have := ord_take H.oB kB (by rw [ew']; exact hb)
    rw [show hh + 1 - m = hh - m + 1 by omega]
    exact this
  · have hb : Be r u w := c2.2 fun q => hneg (hn.2 q)
    simp [hneg]
    refine ⟨hh - i, by omega, i, hh, rfl, hi1, hh1, by omega, hlo, ?_, rfl, rfl, ⟨by simp [r0], by simp [r1], by simp [r4], by simp [r10], by simp⟩, RowAt.ext ⟨bs, opn, hB⟩ eD (fun q => q), eC.trans (only eD)⟩
    exact ord_drop H.oB kB (by rw [ew']; exact hb)
end Go.Proofs.YtigknpfjhegkgaaGreat
end

section
/- A merge's second arm. -/
namespace Go.Proofs.YtigknpfjhegkgaaGreat
open Go Go.AS
set_option maxRecDepth 100000
set_option linter.unusedSimpArgs false
set_option linter.unusedVariables false
attribute [local irreducible] Trie.set Trie.get Env.rd
attribute [local simp ↓] wV_b2s
attribute [local simp] Nat.add_assoc wD_cons'' wD_nil' wC_seq wC_ops wC_opsD_nil wC_cond wC_skip wC_ret wC_exit wC_block wO_cons' wO_nil wantedA wV_eq lop qop ev wL_some wL_none wPut envOf rd_set rd_leaf eqA thenC blockC wB_true wB_false endF unwindA resultsA resA tupleA rdCell rdCells wrCells cl fillP lay rep bi_eql bi_neq bi_lss bi_leq bi_gtr bi_geq bi_add bi_sub bs_eql bs_neq bi_shr4 unA get_set' AHeap.get_alloc oneCell beqd bned idxA


def SfI (A0 : AHeap) (d o c n0 a m : Nat) (cv : Value) (r : Nat → Int) (l L : List Nat) (v : Nat) (q : Nat) (st : St) : Prop := ∃ i j, q = j - i ∧ a ≤ i ∧ i ≤ j ∧ j ≤ m ∧ (∀ y ∈ L.take (i - a), Be r y v) ∧ (∀ y ∈ L.drop (j - a), Be r v y) ∧ st.n = 220 ∧ st.dfs = [] ∧ (st.env.rd 0 = .slice (some ⟨d, o, none⟩) n0 c ∧ st.env.rd 2 = .int .i64 (m : Nat) ∧ st.env.rd 4 = cv ∧ st.env.rd 14 = .int .i64 (i : Nat) ∧ st.env.rd 15 = .int .i64 (j : Nat)) ∧ RowAt st.A d o l ∧ Ext (Only d) A0 st.A
theorem arm2_ok (r : Nat → Int) (A : AHeap) (d o c : Nat) (l : List Nat) (a m b : Nat) (x L z : List Nat) (v : Nat) (cv : Value) (H : Halves r l a m b x L [v] z) (h : RowAt A d o l) (hl : l.length < 1000000) (hc : Cmp r cv d A) (hv : ∀ y ∈ l, Vd r y)
    (env : Env) (r0 : env.rd 0 = .slice (some ⟨d, o, none⟩) l.length c) (r1 : env.rd 1 = .int .i64 (a : Nat)) (r2 : env.rd 2 = .int .i64 (m : Nat)) (r4 : env.rd 4 = cv) (K : AExit → St → Prop) (hK : ∀ env' A' t, Ext (Only d) A A' → IsOrd r (L ++ [v]) t → RowAt A' d o (x ++ (t ++ z)) → K .ret { env := env', n := 220, dfs := [], A := A' }) :
    wC T 127 none c127t { env := env, n := 220, dfs := [], A := A } K := by
  dsimp only [c127t]
  have hlm := H.lm
  have hb1 : b = m + 1 := by have := H.lb; simp at this; omega
  have hla := H.la
  have hlen : l.length = x.length + L.length + 1 + z.length := by rw [H.eq]; simp only [List.length_append, List.length_cons, List.length_nil]; omega
  simp [r1, r2]
  refine wC_loop_inv (SfI A d o c l.length a m cv r l L v) ?_ (m - a) _ ⟨a, m, rfl, by omega, by omega, by omega, by simp, by rw [List.drop_eq_nil_of_le (by omega)]; simp, rfl, rfl, ⟨by simp [r0], by simp [r2], by simp [r4], by simp, by simp⟩, h, Ext.refl⟩
  rintro q ⟨env, nn, dfs, C⟩ ⟨i, j, rfl, hi1, hij, hj1, hlo, hhi, k1, k2, ⟨r0, r2, r4, r14, r15⟩, hr, eC⟩
  simp only at k1 k2 r0 r2 r4 r14 r15 hr eC
  subst k1; subst k2
  by_cases hlt : i < j
  case neg =>
    have hii : ¬ (i : Int) < (j : Int) := by omega
    have hje : j = i := by omega
    subst hje
    simp [r14, r15, hii, hlt]
    have e0 : L = L.take (j - a) ++ L.drop (j - a) := (List.take_append_drop _ _).symm
    have hA1 : (L.take (j - a)).length = j - a := by rw [List.length_take]; omega
    generalize L.take (j - a) = A1 at e0 hlo hA1
    generalize L.drop (j - a) = A2 at e0 hhi
    have el : l = (x ++ A1) ++ (A2 ++ (v :: z)) := by rw [H.eq, e0]; simp
    have hLl : L.length = A1.length + A2.length := by rw [e0]; simp
    rw [el] at hr
    refine shiftL_ok C d o c l.length j m (x ++ A1) z A2 v hr (by rw [← el]) hl (by simp; omega) (by simp; omega) _ (by simp [r0]) (by simp [r2]) (by simp [r14]) K fun env' A' e1 h1 => ?_
    have hp := put_in (x := v) (e0 ▸ H.oA) hlo hhi
    refine hK env' A' (A1 ++ v :: A2) (eC.trans e1) ?_ (by simpa using h1)
    rw [e0]
    exact hp
  have hii : (i : Int) < (j : Int) := by omega
  obtain ⟨y, hh, hy, hhm, w1, w2, w3, w4, w5⟩ := mid_facts i j (by omega)
  have hh1 : i ≤ hh := by omega
  have hh2 : hh < j := by omega
  obtain ⟨w, u, ew, eu, mw, mu, huw, c1, c2⟩ := H.cmp (i := hh) (j := m) (by omega) (by omega) (by omega) (by omega)
  have huv : u = v := by simpa using mu
  subst huv
  obtain ⟨kA, ekA⟩ := H.atA (k := hh) (by omega) (by omega)
  rw [ekA] at ew
  have ew' : L[hh - a] = w := Option.some.inj ew
  obtain ⟨bs, opn, hB⟩ := hr
  have g1 := hB.get
  have g2 := hB.le
  have hml : m < l.length := by omega
  have hhl : hh < l.length := by omega
  have gu : bs[o + m]? = some (.int .i64 (u : Nat)) := by
    have := hB.at hml
    rw [List.getD_eq_getElem?_getD, eu] at this
    exact this
  have gw : bs[o + hh]? = some (.int .i64 (w : Nat)) := by
    have := hB.at hhl
    rw [List.getD_eq_getElem?_getD, ekA, ew'] at this
    exact this
  have hum : u ∈ l := List.mem_of_getElem? eu
  have hwm : w ∈ l := by rw [← ew']; rw [H.eq]; simp [List.getElem_mem]
  simp [r0, r2, r4, r14, r15, hii, hlt, w1, w2, w3, w4, g1, gu, gw, hml, hhl, show o + (m + 1) ≤ bs.length by omega, show o + (hh + 1) ≤ bs.length by omega]
  refine hc C eC u w (hv u hum) (hv w hwm) _ fun D n eD hn => ?_
  by_cases hneg : n < 0
  · have hb : Be r u w := c1.2 (hn.1 hneg)
    simp [hneg]
    refine ⟨hh - i, by omega, i, hh, rfl, hi1, hh1, by omega, hlo, ?_, rfl, rfl, ⟨by simp [r0], by simp [r2], by simp [r4], by simp [r14], by simp⟩, RowAt.ext ⟨bs, opn, hB⟩ eD (fun q => q), eC.trans (only eD)⟩
    exact ord_drop H.oA kA (by rw [ew']; exact hb)
  · have hb : Be r w u := c2.2 fun q => hneg (hn.2 q)
    simp [hneg, w5]
    refine ⟨j - (hh + 1), by omega, hh + 1, j, rfl, by omega, by omega, hj1, ?_, hhi, rfl, rfl, ⟨by simp [r0], by simp [r2], by simp [r4], by simp, by simp [r15]⟩, RowAt.ext ⟨bs, opn, hB⟩ eD (fun q => q), eC.trans (only eD)⟩
    have := ord_take H.oA kA (by rw [ew']; exact hb)
    rw [show hh + 1 - a = hh - a + 1 by omega]
    exact this
end Go.Proofs.YtigknpfjhegkgaaGreat
end
