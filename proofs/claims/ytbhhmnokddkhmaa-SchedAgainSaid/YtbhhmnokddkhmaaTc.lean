/- Sorting what is sorted: stage 25, the greater rows. -/
import Derived.Test.YtbhhmnokddkhmaaTb
import Derived.KernelRfl
namespace Go.Proofs.Ytbhhmnokddkhmaa
open Go Go.AS
set_option maxRecDepth 100000
set_option linter.unusedSimpArgs false
set_option linter.unusedVariables false
attribute [local irreducible] Trie.set Trie.get Env.rd
attribute [local simp] Nat.add_assoc wD_cons'' wD_nil' wC_seq wC_ops wC_opsD_nil wC_cond wC_skip wC_ret wC_exit wC_block wO_cons' wO_nil wantedA wV_eq lop qop ev wL_some wL_none wPut envOf rd_set rd_leaf eqA thenC blockC wB_true wB_false endF unwindA resultsA resA tupleA rdCell rdCells wrCells cl fillP lay rep binA unA get_set' AHeap.get_alloc oneCell

theorem order2_ok (sl : List Int) (v p : Value) (i j : Nat) (A : AHeap) (Q : Value → AHeap → Prop) (h : ReadAt A 1 v sl.length (ints sl)) (hs : Inc sl) (hij : i < j) (hj : j < sl.length) (hq : Q (.tuple ⟨[.int .i64 (i : Nat), .int .i64 (j : Nat)]⟩) A) : wF T (.func (.func 47) #[] #[]) [v, .int .i64 (i : Nat), .int .i64 (j : Nat), p] A Q := by
  obtain ⟨d, o, c, bs, ro, opn, q1, q2, q3⟩ := intc h hj
  obtain ⟨d', o', c', bs', ro', opn', p1, p2, p3⟩ := intc h (show i < sl.length by omega)
  subst q1
  cases p1
  rw [q2] at p2
  cases p2
  have lt := hs i j (by omega) hj hij
  have hi : i < sl.length := by omega
  generalize sl[j] = x at q3 lt
  generalize sl[i]'hi = y at p3 lt
  have nl : ¬ x < y := by omega
  refine wF_func (first := []) (captured := []) t47 ⟨rfl, by decide⟩ ?_
  dsimp only [c47]; simp [idxA, hj, hi, q2, q3, p3]
  refine less_ok _ _ _ _ ?_
  simp [nl]
  exact hq

theorem median_ok (sl : List Int) (v p : Value) (i j k : Nat) (A : AHeap) (Q : Value → AHeap → Prop) (h : ReadAt A 1 v sl.length (ints sl)) (hs : Inc sl) (hij : i < j) (hjk : j < k) (hk : k < sl.length) (hq : Q (.int .i64 (j : Nat)) A) : wF T (.func (.func 46) #[] #[]) [v, .int .i64 (i : Nat), .int .i64 (j : Nat), .int .i64 (k : Nat), p] A Q := by
  refine wF_func (first := []) (captured := []) t46 ⟨rfl, by decide⟩ ?_
  dsimp only [c46]; simp
  refine order2_ok sl v p i j A _ h hs hij (by omega) ?_
  simp
  refine order2_ok sl v p j k A _ h hs hjk hk ?_
  simp
  refine order2_ok sl v p i j A _ h hs hij (by omega) ?_
  simp
  exact hq

theorem choose_ok (sl : List Int) (v : Value) (A : AHeap) (Q : Value → AHeap → Prop) (h : ReadAt A 1 v sl.length (ints sl)) (hs : Inc sl) (hn : 13 ≤ sl.length) (hn2 : sl.length ≤ 49) (hq : ∀ A', Ext NoB A A' → Q (.tuple ⟨[.int .i64 (sl.length / 4 * 2 : Nat), .int .i64 1]⟩) A') : wF T (.func (.func 34) #[] #[]) [v, .int .i64 0, .int .i64 (sl.length : Nat)] A Q := by
  have w0 : IntKind.i64.wrap (sl.length : Int) = (sl.length : Int) := IntWalk.i64_in _ (by omega)
  have w1 : IntKind.i64.wrap ((sl.length : Int) / 4) = ((sl.length / 4 : Nat) : Int) := by rw [IntWalk.i64_in _ (by omega)]; omega
  have w2 : IntKind.i64.wrap ((sl.length / 4 : Nat) : Int) = ((sl.length / 4 : Nat) : Int) := IntWalk.i64_in _ (by omega)
  have w3 : IntKind.i64.wrap (((sl.length / 4 : Nat) : Int) * 2) = ((sl.length / 4 * 2 : Nat) : Int) := by rw [IntWalk.i64_in _ (by omega)]; omega
  have w4 : IntKind.i64.wrap ((sl.length / 4 * 2 : Nat) : Int) = ((sl.length / 4 * 2 : Nat) : Int) := IntWalk.i64_in _ (by omega)
  have w5 : IntKind.i64.wrap (((sl.length / 4 : Nat) : Int) * 3) = ((sl.length / 4 * 3 : Nat) : Int) := by rw [IntWalk.i64_in _ (by omega)]; omega
  have w6 : IntKind.i64.wrap ((sl.length / 4 * 3 : Nat) : Int) = ((sl.length / 4 * 3 : Nat) : Int) := IntWalk.i64_in _ (by omega)
  have g1 : (8 : Int) ≤ (sl.length : Int) := by omega
  have g2 : ¬ (50 : Int) ≤ (sl.length : Int) := by omega
  have l1 : sl.length / 4 < sl.length / 4 * 2 := by omega
  have l2 : sl.length / 4 * 2 < sl.length / 4 * 3 := by omega
  have l3 : sl.length / 4 * 3 < sl.length := by omega
  generalize hc : sl.length / 4 * 3 = c3' at w5 w6 l2 l3
  generalize hb : sl.length / 4 * 2 = c2' at w3 w4 l1 l2 hq
  generalize ha : sl.length / 4 = c1' at w1 w2 w3 w5 l1
  refine wF_func (first := []) (captured := []) t34 ⟨rfl, by decide⟩ ?_
  dsimp only [c34]
  simp [w0, w1, w2, w3, w4, w5, w6, g1, g2]
  have e : Ext NoB A (A.alloc (.cells [.int .i64 0] false 0)) := Ext.alloc
  refine median_ok sl v _ c1' c2' c3' _ _ (h.ext e fun _ _ q => q) hs l1 l2 l3 ?_
  simp
  exact hq _ e

def S2 (v : Value) (n : Nat) (A : AHeap) (m : Nat) (st : St) : Prop := ∃ i, m + i = n ∧ 1 ≤ i ∧ st.n = 133 ∧ st.dfs = [] ∧ st.A = A ∧ st.env.rd 0 = v ∧ st.env.rd 1 = .int .i64 0 ∧ st.env.rd 2 = .int .i64 (n : Nat) ∧ st.env.rd 7 = .int .i64 (i : Nat)

theorem partial_ok (sl : List Int) (v : Value) (A : AHeap) (Q : Value → AHeap → Prop) (h : ReadAt A 1 v sl.length (ints sl)) (hs : Inc sl) (h1 : 1 ≤ sl.length) (hn : sl.length ≤ 100) (hq : Q (.bool true) A) : wF T (.func (.func 36) #[] #[]) [v, .int .i64 0, .int .i64 (sl.length : Nat)] A Q := by
  obtain ⟨a1, c1, rfl⟩ := h.val
  refine wF_func (first := []) (captured := []) t36 ⟨rfl, by decide⟩ ?_
  dsimp only [c36]
  have w1 : IntKind.i64.wrap 1 = 1 := IntWalk.i64_in _ (by omega)
  simp [w1]
  refine wC_loop ?_
  simp
  refine wC_loop_inv (S2 (.slice a1 sl.length c1) sl.length A) ?_ (sl.length - 1) _ ⟨1, by omega, by omega, rfl, rfl, rfl, by simp, by simp, by simp, by simp⟩
  rintro m ⟨env, nn, dfs, A'⟩ ⟨i, k0, k9, k1, k2, k3, r0, r1, r2, r7⟩
  simp only at k1 k2 k3 r0 r1 r2 r7
  subst k1; subst k2; subst k3
  by_cases hi : i < sl.length
  · obtain ⟨d, o, c, bs, ro, opn, q1, q2, q3⟩ := intc h hi
    obtain ⟨d', o', c', bs', ro', opn', p1, p2, p3⟩ := intc h (show i - 1 < sl.length by omega)
    cases q1; cases p1
    rw [q2] at p2
    cases p2
    have lt := hs (i - 1) i (by omega) hi (by omega)
    generalize sl[i] = x at q3 lt
    generalize sl[i - 1]'(by omega) = y at p3 lt
    have nl : ¬ x < y := by omega
    have ws := wrap_succ i (by omega)
    have w2 : IntKind.i64.wrap ((i : Int) - 1) = ((i - 1 : Nat) : Int) := by rw [IntWalk.i64_in _ (by omega)]; omega
    have i1 : i - 1 < sl.length := by omega
    generalize i - 1 = k at p3 w2 i1
    simp [r0, r1, r2, r7, hi, i1, idxA, q2, q3, w2, p3]
    refine less_ok _ _ _ _ ?_
    simp [r0, r1, r2, r7, nl]
    exact ⟨m - 1, by omega, i + 1, by omega, by omega, rfl, rfl, rfl, by simp [r0], by simp [r1], by simp [r2], by simpa using ws⟩
  · have hin : i = sl.length := by omega
    simp [r0, r1, r2, r7, hi, hin, undef]
    exact hq

theorem pdq_ok (sl : List Int) (v lim : Value) (c : Int) (A : AHeap) (Q : Value → AHeap → Prop) (h : ReadAt A 1 v sl.length (ints sl)) (hs : Inc sl) (hn : sl.length ≤ 49) (hc : 13 ≤ sl.length → ¬ c = 0) (hq : ∀ A' w, Ext NoB A A' → Q w A') : wF T (.func (.func 29) #[] #[]) [v, .int .i64 0, .int .i64 (sl.length : Nat), .int .i64 c] A Q := by
  have w0 : IntKind.i64.wrap (sl.length : Int) = (sl.length : Int) := IntWalk.i64_in _ (by omega)
  refine wF_func (first := []) (captured := []) t29 ⟨rfl, by decide⟩ ?_
  dsimp only [c29]
  simp
  refine wC_loop ?_
  by_cases h12 : sl.length ≤ 12
  · have g : (sl.length : Int) ≤ 12 := by omega
    simp [w0, g]
    refine isort_ok sl v A _ h hs (by omega) ?_
    simp
    exact hq _ _ Ext.refl
  · have g : ¬ (sl.length : Int) ≤ 12 := by omega
    have hc' : (c == 0) = false := by simp [hc (by omega)]
    simp [w0, g, hc']
    refine choose_ok sl v A _ h hs (by omega) hn fun A1 e1 => ?_
    simp
    refine partial_ok sl v A1 _ (h.ext e1 fun _ _ q => q) hs (by omega) (by omega) ?_
    simp
    exact hq _ _ e1

theorem len_ok (n : Nat) (hn : n ≤ 20) (A : AHeap) (Q : Value → AHeap → Prop) (hq : ∀ c : Int, (13 ≤ n → ¬ c = 0) → Q (.int .i64 c) A) : wF T (.func (.func 30) #[] #[]) [.int .u64 (n : Nat)] A Q := by
  have tb : ∀ k : Fin 21, ∃ b, tab8[k.val]? = some b ∧ b.toNat ≤ 8 ∧ (13 ≤ k.val → ¬ b.toNat = 0) := by decide
  obtain ⟨b, b1, b2, b3⟩ := tb ⟨n, by omega⟩
  refine wF_func (first := []) (captured := []) t30 ⟨rfl, by decide⟩ ?_
  dsimp only [c30]; simp
  refine wF_func (first := []) (captured := []) t41 ⟨rfl, by decide⟩ ?_
  dsimp only [c41]
  have g1 : ¬ (4294967296 : Int) ≤ (n : Int) := by omega
  have g2 : ¬ (65536 : Int) ≤ (n : Int) := by omega
  have g3 : ¬ (256 : Int) ≤ (n : Int) := by omega
  have w1 : IntKind.u8.wrap (n : Int) = (n : Int) := IntWalk.u8_in _ (by omega)
  have w2 : IntKind.i64.wrap (b.toNat : Int) = (b.toNat : Int) := IntWalk.i64_in _ (by omega)
  simp only at b1
  simp [g1, g2, g3, w1, w2, idxA, b1]
  exact hq _ fun q => by have := b3 q; omega

theorem sort_ok (sl : List Int) (v : Value) (A : AHeap) (Q : Value → AHeap → Prop) (h : ReadAt A 1 v sl.length (ints sl)) (hs : Inc sl) (hn : sl.length ≤ 20) (hq : ∀ A' w, Ext NoB A A' → Q w A') : wF T (.func (.func 23) #[] #[]) [v] A Q := by
  obtain ⟨a1, c1, rfl⟩ := h.val
  refine wF_func (first := []) (captured := []) t23 ⟨rfl, by decide⟩ ?_
  dsimp only [c23]
  have w1 : IntKind.u64.wrap (sl.length : Int) = (sl.length : Int) := IntWalk.u64_in _ (by omega)
  simp [w1]
  refine len_ok sl.length hn A _ fun c hc => ?_
  simp
  refine pdq_ok sl _ (.int .i64 c) c A _ h hs (by omega) hc fun A' w e => ?_
  simp
  exact hq _ _ e

def S3 (v : Value) (n : Nat) (A : AHeap) (m : Nat) (st : St) : Prop := ∃ i, m + i = n ∧ 1 ≤ i ∧ st.n = 61 ∧ st.dfs = [] ∧ st.A = A ∧ st.env.rd 0 = v ∧ st.env.rd 3 = .int .i64 (i : Nat)

theorem compact_ok (sl : List Int) (v : Value) (A : AHeap) (Q : Value → AHeap → Prop) (h : ReadAt A 1 v sl.length (ints sl)) (hs : Inc sl) (hn : sl.length ≤ 100) (hq : Q v A) : wF T (.func (.func 24) #[] #[]) [v] A Q := by
  obtain ⟨a1, c1, rfl⟩ := h.val
  refine wF_func (first := []) (captured := []) t24 ⟨rfl, by decide⟩ ?_
  dsimp only [c24]
  by_cases h2 : sl.length < 2
  · have g : (sl.length : Int) < 2 := by omega
    simp [g]
    exact hq
  · have g : ¬ (sl.length : Int) < 2 := by omega
    simp [g]
    refine wC_loop_inv (S3 (.slice a1 sl.length c1) sl.length A) ?_ (sl.length - 1) _ ⟨1, by omega, by omega, rfl, rfl, rfl, by simp, by simp⟩
    rintro m ⟨env, nn, dfs, A'⟩ ⟨i, k0, k9, k1, k2, k3, r0, r3⟩
    simp only at k1 k2 k3 r0 r3
    subst k1; subst k2; subst k3
    by_cases hi : i < sl.length
    · obtain ⟨d, o, c, bs, ro, opn, q1, q2, q3⟩ := intc h hi
      obtain ⟨d', o', c', bs', ro', opn', p1, p2, p3⟩ := intc h (show i - 1 < sl.length by omega)
      cases q1; cases p1
      rw [q2] at p2
      cases p2
      have lt := hs (i - 1) i (by omega) hi (by omega)
      generalize sl[i] = x at q3 lt
      generalize sl[i - 1]'(by omega) = y at p3 lt
      have nl : (x == y) = false := by rw [beq_eq_false_iff_ne]; omega
      have ws := wrap_succ i (by omega)
      have w2 : IntKind.i64.wrap ((i : Int) - 1) = ((i - 1 : Nat) : Int) := by rw [IntWalk.i64_in _ (by omega)]; omega
      have i1 : i - 1 < sl.length := by omega
      generalize i - 1 = k at p3 w2 i1
      simp [r0, r3, hi, i1, idxA, q2, q3, w2, p3, nl]
      exact ⟨m - 1, by omega, i + 1, by omega, by omega, rfl, rfl, rfl, by simp [r0], by simpa using ws⟩
    · simp [r0, r3, hi]
      exact hq
end Go.Proofs.Ytbhhmnokddkhmaa
