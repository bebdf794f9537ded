/- The reference's numbers, laid. -/
import Derived.Test.YtigknpfjhegkgaaGreatPi
import Derived.Test.YtigknpfjhegkgaaGreatKc
import Derived.KernelRfl
namespace Go.Proofs.YtigknpfjhegkgaaGreat
open Go Go.AS
set_option maxRecDepth 100000
set_option linter.unusedSimpArgs false
set_option linter.unusedVariables false
attribute [local irreducible] Trie.set Trie.get Env.rd
attribute [local simp ↓] wV_b2s
attribute [local simp] Nat.add_assoc wD_cons'' wD_nil' wC_seq wC_ops wC_opsD_nil wC_cond wC_skip wC_ret wC_exit wC_block wO_cons' wO_nil wantedA wV_eq lop qop ev wL_some wL_none wPut envOf rd_set rd_leaf eqA thenC blockC wB_true wB_false endF unwindA resultsA resA tupleA rdCell rdCells wrCells cl fillP lay rep binA unA get_set' AHeap.get_alloc oneCell beqd bned idxA

theorem appB (A A1 : AHeap) (bv x : Value) (l t : List UInt8) (h : SliceAt A 1 bv l.length (bcells l)) (e : Ext NoB A A1) (hx : lenA x = some t.length) (hf : firstA A1 1 t.length x = some (bcells t)) (hn : l.length + t.length < 1000000) :
    ∃ a' c' A', appA A1 1 1 bv x = some (.slice a' (l.length + t.length) c', A') ∧ SliceAt A' 1 (.slice a' (l.length + t.length) c') (l ++ t).length (bcells (l ++ t)) ∧ Ext (Own bv) A A' ∧ ∀ j, Own (.slice a' (l.length + t.length) c') j → Own bv j ∨ A.size ≤ j := by
  obtain ⟨v', A', k1, k2, k3, k4⟩ := (h.ext e fun _ _ q => q).append (x := x) (m := t.length) (bytes := 1) (new := bcells t) (by decide) hx hf (by simp [bcells, byt, oneCell]) (by simp [bcells]) (by omega) (by decide) (fun _ => rfl)
  obtain ⟨a', c', hv⟩ := k2.read.val
  subst hv
  refine ⟨a', c', A', k1, by simpa [bcells] using k2, (e.mono fun _ _ q => q.elim).trans k3, fun j hj => ?_⟩
  rcases k4 j hj with q | q
  · exact .inl q
  · exact .inr (Nat.le_trans e.size q)
theorem be_get (n : Nat) : ∀ w k, k < w → (be n w)[k]? = some (UInt8.ofNat (n / 256 ^ (w - 1 - k) % 256))
  | 0, k, h => absurd h (Nat.not_lt_zero k)
  | w + 1, 0, _ => by simp [be]
  | w + 1, k + 1, h => by
    rw [be, List.getElem?_cons_succ, be_get n w k (by omega), show w + 1 - 1 - (k + 1) = w - 1 - k by omega]
theorem be_take (n w k : Nat) (h : k < w) : (be n w).take (k + 1) = (be n w).take k ++ [UInt8.ofNat (n / 256 ^ (w - 1 - k) % 256)] := by
  rw [List.take_add_one, be_get n w k h]; rfl
theorem be_full (n w : Nat) : (be n w).take w = be n w := List.take_of_length_le (by rw [be_len]; exact Nat.le_refl _)
theorem be_div (n : Nat) : ∀ w, be n (w + 1) = be (n / 256) w ++ [UInt8.ofNat (n % 256)]
  | 0 => by simp [be]
  | w + 1 => by
    rw [be, be_div n w, be, Nat.div_div_eq_div_mul, ← Nat.pow_succ', List.cons_append]
theorem u8_byte' (n : Nat) : IntKind.u8.wrap (n : Int) = ((UInt8.ofNat (n % 256)).toNat : Int) := by
  rw [IntKind.wrap_u8, ofNat_toNat (Nat.mod_lt _ (by decide))]; omega
theorem shrK (n k : Nat) : ((n : Int)).fdiv (2 ^ (8 * k)) = ((n / 256 ^ k : Nat) : Int) := by
  rw [Int.fdiv_eq_ediv_of_nonneg _ (Int.pow_nonneg (by decide)), Int.natCast_ediv, Int.natCast_pow, Int.pow_mul]; rfl
def LdI (w n : Nat) (A0 : AHeap) (m : Nat) (st : St) : Prop := ∃ (k : Nat) (v : Value), k ≤ w ∧ m = w - k ∧ st.n = 24 ∧ st.dfs = [] ∧
  (st.env.rd 0 = .int .u64 (n : Nat) ∧ st.env.rd 5 = v ∧ st.env.rd 6 = .int .i64 ((w : Int) - 1 - k)) ∧ SliceAt st.A 1 v ((be n w).take k).length (bcells ((be n w).take k)) ∧ Ext NoB A0 st.A ∧ ∀ b, Own v b → A0.size ≤ b
theorem laid_ok (A : AHeap) (n w : Nat) (hw : w ≤ 8) (Q : Value → AHeap → Prop) (hq : ∀ A', Ext NoB A A' → Q (.string ⟨⟨be n w⟩⟩) A') : wF T (.func (.func 118) #[] #[]) [.int .u64 (n : Nat), .int .i64 (w : Nat)] A Q := by
  refine wF_func (first := []) (captured := []) t118 ⟨rfl, by decide⟩ ?_
  dsimp only [c118]
  have w0 : IntKind.i64.wrap ((w : Int) - 1) = (w : Int) - 1 := IntWalk.i64_in _ (by omega)
  simp [w0]
  refine wC_loop_inv (LdI w n A) ?_ w _ ⟨0, .slice none 0 0, by omega, rfl, rfl, rfl, ⟨by simp, by simp, by simp⟩, SliceAt.nil, Ext.refl, fun b hb => absurd hb (by simp [Own])⟩
  rintro m ⟨env, nn, dfs, B⟩ ⟨k, v, hk, rfl, s1, s2, ⟨r0, r5, r6⟩, hs, ex, hown⟩
  simp only at s1 s2 r0 r5 r6 hs ex
  subst s1; subst s2
  by_cases c : k < w
  · obtain ⟨j, hj⟩ : ∃ j, j = w - 1 - k := ⟨_, rfl⟩
    obtain ⟨s, hs8⟩ : ∃ s, s = 8 * j := ⟨_, rfl⟩
    have r6' : env.rd 6 = .int .i64 (j : Int) := by rw [r6]; congr 1; omega
    have y2 : IntKind.i64.wrap (8 * (j : Int)) = (s : Int) := by rw [IntWalk.i64_in _ (by omega)]; omega
    have y3 : IntKind.u64.wrap (s : Int) = (s : Int) := IntWalk.u64_in _ (by omega)
    have y4 : min s 64 = s := by omega
    have y5 := shrK n j
    rw [← hs8] at y5
    have y6 := u8_byte' (n / 256 ^ j)
    have y7 : IntKind.i64.wrap ((j : Int) - 1) = (w : Int) - 1 - (k + 1 : Nat) := by rw [IntWalk.i64_in _ (by omega)]; omega
    obtain ⟨a2, c2, A2, q2, t2, u2, v2⟩ := appB B (B.alloc (.cells [.int .u8 ((UInt8.ofNat (n / 256 ^ j % 256)).toNat : Int)] false 0)) v (.slice (some ⟨B.size, 0, none⟩) 1 1) _ [UInt8.ofNat (n / 256 ^ j % 256)] hs Ext.alloc rfl (by simp [firstA, rdCells, ENDCAP, bcells, byt]) (by simp [be_len]; omega)
    have ht : ((be n w).take k).length + 1 = k + 1 := by rw [List.length_take, be_len]; omega
    have hb := be_take n w k c
    rw [← hj] at hb
    simp only [List.length_singleton, ht] at q2 t2 v2
    rw [← hb] at t2
    generalize hz : ((UInt8.ofNat (n / 256 ^ j % 256)).toNat : Int) = z at q2 y6
    generalize ((n / 256 ^ j : Nat) : Int) = z2 at y5 y6
    have y8 : ¬ ((s : Int) < 0) := by omega
    simp [r0, r5, r6', y2, y3, y4, y5, y6, y8, IntKind.bits, q2, y7]
    refine ⟨w - (k + 1), by omega, k + 1, _, by omega, rfl, rfl, rfl, ⟨by simp [r0], by simp; rfl, by simp⟩, ?_, ex.trans2 u2 fun b hb q => by have := hown b q; omega, fun b hb => ?_⟩
    · have : ((be n w).take (k + 1)).length = k + 1 := by rw [List.length_take, be_len]; omega
      rw [this] at t2 ⊢
      exact t2
    · rcases v2 b hb with q | q
      · exact hown b q
      · exact Nat.le_trans ex.size q
  · have : k = w := by omega
    subst this
    have y1 : ¬ (k : Int) ≤ (k : Int) - 1 := by omega
    have b1 := b2s_ok hs.read
    rw [be_full] at b1
    simp [r0, r5, r6, y1, b1]
    exact hq _ ex
def PuI (w n : Nat) (s : List UInt8) (A0 : AHeap) (m : Nat) (st : St) : Prop := ∃ (k : Nat), k ≤ w ∧ m = w - k ∧ st.n = 26 ∧ st.dfs = [] ∧
  (st.env.rd 0 = .string ⟨⟨s⟩⟩ ∧ st.env.rd 1 = .int .u64 ((n / 256 ^ k : Nat) : Int) ∧ st.env.rd 2 = .int .i64 (w : Nat) ∧ st.env.rd 7 = .string ⟨⟨be n k⟩⟩ ∧ st.env.rd 8 = .int .i64 (k : Nat)) ∧ Ext NoB A0 st.A
theorem rput_ok (A : AHeap) (s : List UInt8) (n w : Nat) (hw : w ≤ 8) (hn : n < 256 ^ 8) (hl : s.length < 1000000) (Q : Value → AHeap → Prop) (hq : ∀ A', Ext NoB A A' → Q (.string ⟨⟨s ++ be n w⟩⟩) A') : wF T (.func (.func 121) #[] #[]) [.string ⟨⟨s⟩⟩, .int .u64 (n : Nat), .int .i64 (w : Nat)] A Q := by
  refine wF_func (first := []) (captured := []) t121 ⟨rfl, by decide⟩ ?_
  dsimp only [c121]
  simp
  refine wC_loop_inv (PuI w n s A) ?_ w _ ⟨0, by omega, rfl, rfl, rfl, ⟨by simp, by simp, by simp, by simp [be], by simp⟩, Ext.refl⟩
  rintro m ⟨env, nn, dfs, B⟩ ⟨k, hk, rfl, s1, s2, ⟨r0, r1, r2, r7, r8⟩, ex⟩
  simp only at s1 s2 r0 r1 r2 r7 r8 ex
  subst s1; subst s2
  by_cases c : k < w
  · obtain ⟨q, hqq⟩ : ∃ q, q = n / 256 ^ k := ⟨_, rfl⟩
    rw [← hqq] at r1
    have y1 : IntKind.u8.wrap ((q : Int) % 256) = ((UInt8.ofNat (q % 256)).toNat : Int) := by rw [← u8_byte' q, IntKind.wrap_u8, IntKind.wrap_u8]; omega
    have y2 : (q : Int).tmod 256 = (q : Int) % 256 := Int.tmod_eq_emod_of_nonneg (by omega)
    obtain ⟨p, hp⟩ : ∃ p, p = n / 256 ^ (k + 1) := ⟨_, rfl⟩
    have hpl : p ≤ n := by rw [hp]; exact Nat.div_le_self _ _
    have y9 : IntKind.u64.wrap (p : Int) = p := IntWalk.u64_in _ (by omega)
    have y3 : (q : Int).tdiv 256 = (p : Int) := by rw [Int.tdiv_eq_ediv_of_nonneg (by omega), hp, hqq, Nat.pow_succ, ← Nat.div_div_eq_div_mul]; omega
    have y4 : IntKind.i64.wrap ((k : Int) + 1) = ((k + 1 : Nat) : Int) := IntWalk.i64_in _ (by omega)
    have y5 : ¬ (9223372036854775807 : Int) < 1 + ((be n k).length : Int) := by rw [be_len]; omega
    have y6 : be n (k + 1) = UInt8.ofNat (q % 256) :: be n k := by rw [be, hqq]
    have y8 : IntKind.u8.wrap ((q : Int) % 256) = (q : Int) % 256 := by rw [IntKind.wrap_u8]; omega
    have y7 : (q : Int) % 256 = ((UInt8.ofNat (q % 256)).toNat : Int) := by rw [ofNat_toNat (Nat.mod_lt _ (by decide))]; omega
    have hb : b2s (B.alloc (.cells [.int .u8 ((q : Int) % 256)] false 0)) (.slice (some ⟨B.size, 0, none⟩) 1 1) = some (.string ⟨⟨[UInt8.ofNat (q % 256)]⟩⟩) := by
      have := b2s_ok (A := B.alloc (.cells [.int .u8 ((q : Int) % 256)] false 0)) (v := .slice (some ⟨B.size, 0, none⟩) [UInt8.ofNat (q % 256)].length 1) (l := [UInt8.ofNat (q % 256)]) (.inr (.inl ⟨B.size, 0, 1, [.int .u8 ((q : Int) % 256)], false, 0, rfl, by simp, by simp, by rw [y7]; rfl, fun z => absurd z (by decide)⟩))
      exact this
    simp [r0, r1, r2, r7, r8, c, y2, y8, hb, y3, y4, y5, y9]
    refine ⟨w - (k + 1), by omega, k + 1, by omega, rfl, rfl, rfl, ⟨by simp [r0], by simp [hp], by simp [r2], by simp [y6], by simp⟩, ex.trans Ext.alloc⟩
  · have : k = w := by omega
    subst this
    have y1 : ¬ (9223372036854775807 : Int) < (s.length : Int) + ((be n k).length : Int) := by rw [be_len]; omega
    simp [r0, r1, r2, r7, r8, y1]
    exact hq _ ex
end Go.Proofs.YtigknpfjhegkgaaGreat
