/- The reference's sums. -/
import Derived.Test.YtidgbapgedegbaaDe
import Derived.Test.YtidgbapgedegbaaKt
import Derived.KernelRfl
namespace Go.Proofs.Ytidgbapgedegbaa
open Go Go.AS
set_option maxRecDepth 100000
set_option linter.unusedSimpArgs false
set_option linter.unusedVariables false
attribute [local irreducible] Trie.set Trie.get Env.rd
attribute [local simp ↓] wV_b2s
attribute [local simp] Nat.add_assoc wD_cons'' wD_nil' wC_seq wC_ops wC_opsD_nil wC_cond wC_skip wC_ret wC_exit wC_block wO_cons' wO_nil wantedA wV_eq lop qop ev wL_some wL_none wPut envOf rd_set rd_leaf eqA thenC blockC wB_true wB_false endF unwindA resultsA resA tupleA rdCell rdCells wrCells cl fillP lay rep binA unA get_set' AHeap.get_alloc oneCell beqd bned idxA

theorem be_at (n : Nat) : ∀ (w k : Nat), k < w → (be n w)[k]? = some (UInt8.ofNat (n / 256 ^ (w - 1 - k) % 256))
  | 0, k, h => by omega
  | w + 1, 0, _ => by simp [be]
  | w + 1, k + 1, h => by
    simp only [be, List.getElem?_cons_succ]
    rw [be_at n w k (by omega), show w + 1 - 1 - (k + 1) = w - 1 - k by omega]
theorem bcells_snoc (l : List UInt8) (b : UInt8) : bcells (l ++ [b]) = bcells l ++ [.int .u8 (b.toNat : Nat)] := by simp [bcells, byt]
def LdI (A : AHeap) (n w : Nat) (m : Nat) (st : St) : Prop := ∃ k v, k ≤ w ∧ m = w - k ∧ st.n = 24 ∧ st.dfs = [] ∧ SliceAt st.A 1 v k (bcells ((be n w).take k)) ∧ (∀ j, Own v j → A.size ≤ j) ∧ Ext NoB A st.A ∧ st.env.rd 0 = .int .u64 (n : Nat) ∧ st.env.rd 5 = v ∧ st.env.rd 6 = .int .i64 ((w : Int) - 1 - (k : Int))
set_option maxHeartbeats 1600000 in
theorem laid_ok (A : AHeap) (n w : Nat) (hn : n < 18446744073709551616) (hw : w ≤ 8) (Q : Value → AHeap → Prop) (hq : ∀ A', Ext NoB A A' → Q (.string ⟨⟨be n w⟩⟩) A') : wF T (.func (.func 169) #[] #[]) [.int .u64 (n : Nat), .int .i64 (w : Nat)] A Q := by
  refine wF_func (first := []) (captured := []) t169 ⟨rfl, by decide⟩ ?_
  dsimp only [c169]
  have w1 : IntKind.i64.wrap ((w : Int) - 1) = (w : Int) - 1 := IntWalk.i64_in _ (by omega)
  simp [w1]
  refine wC_loop_inv (LdI A n w) ?_ w _ ⟨0, .slice none 0 0, Nat.zero_le _, rfl, rfl, rfl, SliceAt.nil, (fun j ⟨_, _, _, q⟩ => by cases q), Ext.refl, by simp, by simp, by simp⟩
  rintro m ⟨env, nn, dfs, B⟩ ⟨k, v, hk, rfl, s1, s2, sa, hov, ex, r0, r5, r6⟩
  simp only at s1 s2 sa ex r0 r5 r6
  subst s1; subst s2
  by_cases c : k < w
  · obtain ⟨i, hi⟩ : ∃ i, i = w - 1 - k := ⟨_, rfl⟩
    have ei : (w : Int) - 1 - (k : Int) = (i : Int) := by omega
    rw [ei] at r6
    have hi8 : i < 8 := by omega
    have f1 : binA .geq (.int .i64 (i : Int)) (.int .i64 0) = some (.bool true) := by simp
    have f2 : binA .mul (.int .i64 8) (.int .i64 (i : Int)) = some (.int .i64 ((8 * i : Nat) : Int)) := by
      simp only [binA]; rw [if_neg (by decide), IntWalk.i64_in _ (by omega)]; congr 3
    have f3 : IntKind.u64.wrap ((8 * i : Nat) : Int) = ((8 * i : Nat) : Int) := IntWalk.u64_in _ (by omega)
    obtain ⟨X, hX⟩ : ∃ X, X = n / 256 ^ i := ⟨_, rfl⟩
    have f4 : binA .shr (.int .u64 (n : Int)) (.int .u64 ((8 * i : Nat) : Int)) = some (.int .u64 (X : Int)) := by
      have h3 : (256 : Nat) ^ i = 2 ^ (8 * i) := by rw [Nat.pow_mul]
      have h4 : Int.fdiv (n : Int) (2 ^ (8 * i)) = ((n / 2 ^ (8 * i) : Nat) : Int) := by
        rw [Int.fdiv_eq_ediv_of_nonneg _ (Int.pow_nonneg (by decide))]; push_cast; rfl
      have h5 : n / 2 ^ (8 * i) ≤ n := Nat.div_le_self _ _
      have h6 : min ((8 * i : Nat) : Int).toNat IntKind.u64.bits = 8 * i := by
        have : IntKind.u64.bits = 64 := rfl
        omega
      simp only [binA]
      rw [h6, h4, ← h3, ← hX]
      rw [if_neg (by omega)]
    obtain ⟨b, hb⟩ : ∃ b : UInt8, b = UInt8.ofNat (X % 256) := ⟨_, rfl⟩
    have f5 : IntKind.u8.wrap (X : Int) = (b.toNat : Int) := by
      rw [hb, ofNat_toNat (Nat.mod_lt _ (by decide)), IntKind.wrap_u8]; omega
    generalize hP : ((8 * i : Nat) : Int) = P at f2 f3 f4
    have f6 : binA .sub (.int .i64 (i : Int)) (.int .i64 1) = some (.int .i64 ((w : Int) - 1 - ((k + 1 : Nat) : Int))) := by
      simp only [binA]; rw [if_neg (by decide), IntWalk.i64_in _ (by omega)]; congr 2; omega
    obtain ⟨v', A2, a1, a2, a3, a4⟩ := (sa.ext (Ext.alloc (A := B) (x := .cells [.int .u8 (b.toNat : Int)] false 0)) fun _ _ => id).append (x := .slice (some ⟨B.size, 0, none⟩) 1 1) (m := 1) (new := [.int .u8 (b.toNat : Int)]) (bytes := 1) (by decide) rfl (by simp [firstA, ENDCAP]) rfl rfl (by omega) (by decide) (fun q => by cases q)
    simp [-binA, r0, r5, r6, f1, f2, f3, f4, f5, f6, a1]
    have hbk : (be n w).take (k + 1) = (be n w).take k ++ [b] := by
      rw [List.take_add_one, be_at n w k c, ← hi, ← hX, ← hb]; rfl
    refine ⟨w - (k + 1), by omega, k + 1, v', by omega, rfl, rfl, rfl, ?_, ?_, ?_, by simp [r0], by simp, by simp⟩
    · rw [hbk, bcells_snoc]; exact a2
    · intro j hj
      rcases a4 j hj with q | q
      · exact hov j q
      · have := ex.size; simp at q; omega
    · exact (ex.trans Ext.alloc).trans2 a3 fun j hj q => by have := hov j q; omega
  · have hkw : k = w := by omega
    subst hkw
    have f1 : binA .geq (.int .i64 ((k : Int) - 1 - (k : Int))) (.int .i64 0) = some (.bool false) := by simp; omega
    have hb := b2s_ok (l := be n k) (by rw [be_len]; have := sa.read; rwa [List.take_of_length_le (by rw [be_len]; exact Nat.le_refl _)] at this)
    simp [-binA, r6, f1, r5, hb]
    exact hq B ex
theorem foldR_ok (A : AHeap) (n : Nat) (hn : n < 18446744073709551616) (Q : Value → AHeap → Prop) (hq : Q (.int .u16 ((foldN n : Nat) : Int)) A) : wF T (.func (.func 168) #[] #[]) [.int .u64 (n : Nat)] A Q := by
  refine wF_func (first := []) (captured := []) t168 ⟨rfl, by decide⟩ ?_
  dsimp only [c168]
  by_cases c : n = 0
  · subst c
    simp
    exact hq
  · obtain ⟨m, rfl⟩ : ∃ m, n = m + 1 := ⟨n - 1, by omega⟩
    have f1 : binA .eql (.int .u64 ((m + 1 : Nat) : Int)) (.int .u64 0) = some (.bool false) := by simp; omega
    have f2 : binA .sub (.int .u64 ((m + 1 : Nat) : Int)) (.int .u64 1) = some (.int .u64 (m : Int)) := by
      simp only [binA]; rw [if_neg (by decide), IntWalk.u64_in _ (by omega)]; congr 2; omega
    have f3 : binA .rem (.int .u64 (m : Int)) (.int .u64 65535) = some (.int .u64 ((m % 65535 : Nat) : Int)) := by
      simp only [binA]; rw [if_neg (by decide), if_neg (by decide)]; congr 2
    have f4 : binA .add (.int .u64 ((m % 65535 : Nat) : Int)) (.int .u64 1) = some (.int .u64 ((m % 65535 + 1 : Nat) : Int)) := by
      simp only [binA]; rw [if_neg (by decide), IntWalk.u64_in _ (by omega)]; congr 2
    have f5 : IntKind.u16.wrap ((m % 65535 + 1 : Nat) : Int) = ((foldN (m + 1) : Nat) : Int) := by
      rw [IntWalk.u16_in _ (by omega)]; unfold foldN; rw [if_neg (by omega)]; simp
    generalize hY : ((m % 65535 + 1 : Nat) : Int) = Y at f4 f5
    generalize hZ : ((m % 65535 : Nat) : Int) = Z at f3 f4
    generalize hX : ((m + 1 : Nat) : Int) = X at f1 f2
    simp [-binA, f1, f2, f3, f4, f5]
    exact hq

/-- A text of even length, its words summed up to a place. -/
theorem wsum_step (l : List UInt8) (i : Nat) (h : 2 * i + 1 < l.length) : wsum (l.take (2 * (i + 1))) = wsum (l.take (2 * i)) + 256 * (l[2 * i]).toNat + (l[2 * i + 1]).toNat := by
  have e : l.take (2 * (i + 1)) = l.take (2 * i) ++ [l[2 * i], l[2 * i + 1]] := by
    rw [show 2 * (i + 1) = 2 * i + 1 + 1 by omega, List.take_add_one, List.take_add_one, List.getElem?_eq_getElem (by omega), List.getElem?_eq_getElem h]
    simp only [Option.toList, List.append_assoc, List.cons_append, List.nil_append]
  rw [e, wsum_append _ _ (by rw [List.length_take]; omega)]
  simp only [wsum]; omega
theorem wsum_pad (l : List UInt8) (h : l.length % 2 = 1) : wsum (l ++ [0]) = wsum l := by
  match l, h with
  | [a], _ => simp [wsum]
  | a :: b :: l, h =>
    have := wsum_pad l (by simp only [List.length_cons] at h; omega)
    simp only [List.cons_append, wsum, this]
def OfI (A : AHeap) (l : List UInt8) (m : Nat) (st : St) : Prop := ∃ i : Nat, 2 * i ≤ l.length ∧ m = l.length - 2 * i ∧ st.n = 32 ∧ st.dfs = [] ∧ st.A = A ∧ st.env.rd 0 = .string ⟨⟨l⟩⟩ ∧ st.env.rd 3 = .int .u64 ((wsum (l.take (2 * i)) : Nat) : Int) ∧ st.env.rd 4 = .int .i64 ((2 * i : Nat) : Int)
set_option maxHeartbeats 1600000 in
theorem ofR_ok (A : AHeap) (l : List UInt8) (hl : l.length < 1000000) (Q : Value → AHeap → Prop) (hq : Q (.int .u16 ((foldN (wsum l) : Nat) : Int)) A) : wF T (.func (.func 149) #[] #[]) [.string ⟨⟨l⟩⟩] A Q := by
  refine wF_func (first := []) (captured := []) t149 ⟨rfl, by decide⟩ ?_
  dsimp only [c149]
  have main : ∀ (x : List UInt8) (env : Env), x.length % 2 = 0 → x.length < 1000001 → wsum x = wsum l → env.rd 0 = .string ⟨⟨x⟩⟩ → wC T 149 none (c149b) { env := env, n := 32, dfs := [], A := A } (endF [.inl 2] Q) := by
    intro x env he hx hw r0
    unfold c149b
    simp
    refine wC_loop_inv (OfI A x) ?_ x.length _ ⟨0, by omega, rfl, rfl, rfl, rfl, by simp [r0], by simp [wsum], by simp⟩
    rintro m ⟨env, nn, dfs, B⟩ ⟨i, hi, rfl, s1, s2, s3, r0, r3, r4⟩
    simp only at s1 s2 s3 r0 r3 r4
    subst s1; subst s2; subst s3
    have hws := wsum_le (x.take (2 * i))
    rw [List.length_take] at hws
    by_cases c : 2 * i < x.length
    · have c2 : 2 * i + 1 < x.length := by omega
      obtain ⟨p, hp⟩ : ∃ p, p = 2 * i := ⟨_, rfl⟩
      have c' : p < x.length := by omega
      have c2' : p + 1 < x.length := by omega
      have st : wsum (x.take (2 * (i + 1))) = wsum (x.take (2 * i)) + 256 * (x[p]).toNat + (x[p + 1]).toNat := by subst hp; exact wsum_step x i c2
      have b1 := byte_lt x[p]
      have b2 := byte_lt x[p + 1]
      generalize hS : wsum (x.take (2 * i)) = S at r3 st hws
      rw [← hp] at r4
      have u1 : IntKind.u64.wrap ((x[p]).toNat : Int) = ((x[p]).toNat : Int) := IntWalk.u64_in _ (by omega)
      have u2 : IntKind.u64.wrap ((x[p + 1]).toNat : Int) = ((x[p + 1]).toNat : Int) := IntWalk.u64_in _ (by omega)
      have u3 : IntKind.u64.wrap (256 * ((x[p]).toNat : Int)) = 256 * ((x[p]).toNat : Int) := IntWalk.u64_in _ (by omega)
      have u4 : IntKind.u64.wrap ((S : Int) + 256 * ((x[p]).toNat : Int)) = (S : Int) + 256 * ((x[p]).toNat : Int) := IntWalk.u64_in _ (by omega)
      have u5 : IntKind.u64.wrap ((S : Int) + 256 * ((x[p]).toNat : Int) + ((x[p + 1]).toNat : Int)) = (S : Int) + 256 * ((x[p]).toNat : Int) + ((x[p + 1]).toNat : Int) := IntWalk.u64_in _ (by omega)
      have u6 : IntKind.i64.wrap ((p : Int) + 1) = (p : Int) + 1 := IntWalk.i64_in _ (by omega)
      have u7 : IntKind.i64.wrap ((p : Int) + 2) = (p : Int) + 2 := IntWalk.i64_in _ (by omega)
      have n1 : ((p : Int) + 1).toNat = p + 1 := by omega
      simp [r0, r3, r4, c', c2', u1, u2, u3, u4, u5, u6, u7, n1, show (0 : Int) ≤ (p : Int) + 1 by omega]
      refine ⟨x.length - 2 * (i + 1), by omega, i + 1, by omega, rfl, rfl, rfl, rfl, by simp [r0], by simp [st, Int.add_assoc], ?_⟩
      simp
      omega
    · have hex : x.take (2 * i) = x := List.take_of_length_le (by omega)
      rw [hex, hw] at r3
      rw [hex, hw] at hws
      simp [r0, r3, r4, show ¬ (2 * (i : Int)) < (x.length : Int) by omega]
      refine foldR_ok _ _ (by omega) _ ?_
      simp
      exact hq
  have w1 := IntWalk.i64_in ((l.length : Int)) (by omega)
  by_cases c : l.length % 2 = 1
  · have f1 : binA .rem (.int .i64 (l.length : Int)) (.int .i64 2) = some (.int .i64 1) := by
      simp only [binA]; rw [if_neg (by decide), if_neg (by decide), Int.tmod_eq_emod_of_nonneg (by omega)]; congr 2; omega
    have f2 : binA .eql (.int .i64 1) (.int .i64 1) = some (.bool true) := rfl
    have f3 : binA .add (.string ⟨⟨l⟩⟩) (.string ⟨⟨[0]⟩⟩) = some (.string ⟨⟨l ++ [0]⟩⟩) := by
      have m1 : IntKind.i64.max = 9223372036854775807 := rfl
      simp only [binA]
      rw [if_neg (by rw [m1]; simp; omega)]
    simp [-binA, f1, f2, f3]
    exact main (l ++ [0]) _ (by simp; omega) (by simp; omega) (wsum_pad l c) (by simp)
  · have f1 : binA .rem (.int .i64 (l.length : Int)) (.int .i64 2) = some (.int .i64 0) := by
      simp only [binA]; rw [if_neg (by decide), if_neg (by decide), Int.tmod_eq_emod_of_nonneg (by omega)]; congr 2; omega
    have f2 : binA .eql (.int .i64 0) (.int .i64 1) = some (.bool false) := rfl
    simp [-binA, f1, f2]
    exact main l _ (by omega) (by omega) rfl (by simp)
theorem wrapU64 (n : Int) : IntKind.u64.wrap n = n % 18446744073709551616 := by unfold IntKind.wrap; simp [IntKind.signed, IntKind.bits]
theorem wrapU16 (n : Int) : IntKind.u16.wrap n = n % 65536 := by unfold IntKind.wrap; simp [IntKind.signed, IntKind.bits]
theorem u64_natB (n : Int) : ∃ N : Nat, IntKind.u64.wrap n = N ∧ N < 18446744073709551616 := by
  rw [wrapU64]; exact ⟨(n % 18446744073709551616).toNat, by omega, by omega⟩
theorem be2_mod {n : Int} {N : Nat} (h : IntKind.u64.wrap n = N) : be N 2 = be (IntKind.u16.wrap n).toNat 2 := by
  rw [wrapU64] at h
  rw [wrapU16]
  simp only [be, Nat.pow_one, Nat.pow_zero, Nat.div_one]
  have h1 : N % 256 = (n % 65536).toNat % 256 := by omega
  have h2 : N / 256 % 256 = (n % 65536).toNat / 256 % 256 := by omega
  rw [h1, h2]
theorem all_ok (A : AHeap) (dsn ssn sum : Nat) (n : Int) (t : List UInt8) (hd : dsn < 256 ^ 8) (hs : ssn < 256 ^ 4) (hm : sum < 65536) (ht : t.length < 1000000) (Q : Value → AHeap → Prop) (hq : ∀ A', Ext NoB A A' → Q (.string ⟨⟨ahead dsn ssn n sum ++ t⟩⟩) A') :
    wF T (.func (.func 150) #[] #[]) [.int .u64 (dsn : Nat), .int .u32 (ssn : Nat), .int .i64 n, .string ⟨⟨t⟩⟩, .int .u16 (sum : Nat)] A Q := by
  refine wF_func (first := []) (captured := []) t150 ⟨rfl, by decide⟩ ?_
  dsimp only [c150]
  have u1 : IntKind.u64.wrap (ssn : Int) = ssn := IntWalk.u64_in _ (by omega)
  have u2 : IntKind.u64.wrap (sum : Int) = sum := IntWalk.u64_in _ (by omega)
  obtain ⟨N, hN, hN2⟩ := u64_natB n
  have hbe : be N 2 = be (IntKind.u16.wrap n).toNat 2 := be2_mod hN
  have hah : ahead dsn ssn n sum = be dsn 8 ++ be ssn 4 ++ be N 2 ++ be sum 2 := by
    unfold ahead; rw [hbe]; simp only [Int.toNat_natCast]
  have m1 : IntKind.i64.max = 9223372036854775807 := rfl
  have cat : ∀ (a b : List UInt8), a.length < 2000000 → b.length < 2000000 → binA .add (.string ⟨⟨a⟩⟩) (.string ⟨⟨b⟩⟩) = some (.string ⟨⟨a ++ b⟩⟩) := fun a b h1 h2 => by
    simp only [binA]
    exact if_neg (by rw [m1]; show ¬ (((a.length + b.length : Nat) : Int) > 9223372036854775807); omega)
  simp [-binA]
  refine laid_ok A dsn 8 hd (by decide) _ fun A1 e1 => ?_
  simp [-binA, u1]
  refine laid_ok A1 ssn 4 (by omega) (by decide) _ fun A2 e2 => ?_
  have f1 := cat (be dsn 8) (be ssn 4) (by rw [be_len]; omega) (by rw [be_len]; omega)
  simp [-binA, f1, hN]
  refine laid_ok A2 N 2 hN2 (by decide) _ fun A3 e3 => ?_
  have f2 := cat (be dsn 8 ++ be ssn 4) (be N 2) (by simp [be_len]) (by rw [be_len]; omega)
  simp only [List.append_assoc] at f2
  simp [-binA, f2, u2]
  refine laid_ok A3 sum 2 (by omega) (by decide) _ fun A4 e4 => ?_
  have f3 := cat (be dsn 8 ++ be ssn 4 ++ be N 2) (be sum 2) (by simp [be_len]) (by rw [be_len]; omega)
  simp only [List.append_assoc] at f3
  have f4 := cat (be dsn 8 ++ be ssn 4 ++ be N 2 ++ be sum 2) t (by simp [be_len]) (by omega)
  simp only [List.append_assoc] at f4
  simp [-binA, f3, f4]
  have := hq A4 (((e1.trans e2).trans e3).trans e4)
  rw [hah] at this
  simpa only [List.append_assoc] using this
theorem ofRef_ok (A : AHeap) (dsn ssn : Nat) (n : Int) (t : List UInt8) (hd : dsn < 256 ^ 8) (hs : ssn < 256 ^ 4) (ht : t.length < 900000) (Q : Value → AHeap → Prop) (hq : ∀ A', Ext NoB A A' → Q (.int .u16 ((ofN dsn ssn n t : Nat) : Int)) A') :
    wF T (.func (.func 116) #[] #[]) [.int .u64 (dsn : Nat), .int .u32 (ssn : Nat), .int .i64 n, .string ⟨⟨t⟩⟩] A Q := by
  refine wF_func (first := []) (captured := []) t116 ⟨rfl, by decide⟩ ?_
  dsimp only [c116]
  simp
  refine all_ok A dsn ssn 0 n t hd hs (by decide) (by omega) _ fun A1 e1 => ?_
  simp
  refine ofR_ok A1 _ (by simp [ahead_len]; omega) _ ?_
  have hle := foldN_le (wsum (ahead dsn ssn n 0 ++ t))
  have hof : ofN dsn ssn n t = 65535 - foldN (wsum (ahead dsn ssn n 0 ++ t)) := rfl
  have hq1 := hq A1 e1
  rw [hof] at hq1
  generalize foldN (wsum (ahead dsn ssn n 0 ++ t)) = F at hle hq1
  simp
  refine wF_func (first := []) (captured := []) t148 ⟨rfl, by decide⟩ ?_
  dsimp only [c148]
  have f : IntKind.u16.wrap (65535 - (F : Int)) = ((65535 - F : Nat) : Int) := by rw [IntWalk.u16_in _ (by omega)]; omega
  simp [f]
  exact hq1
theorem rightRef_ok (A : AHeap) (dsn ssn told : Nat) (n : Int) (t : List UInt8) (hd : dsn < 256 ^ 8) (hs : ssn < 256 ^ 4) (hm : told < 65536) (ht : t.length < 900000) (Q : Value → AHeap → Prop) (hq : ∀ A', Ext NoB A A' → Q (.bool (rightN dsn ssn n t told)) A') :
    wF T (.func (.func 123) #[] #[]) [.int .u64 (dsn : Nat), .int .u32 (ssn : Nat), .int .i64 n, .string ⟨⟨t⟩⟩, .int .u16 (told : Nat)] A Q := by
  refine wF_func (first := []) (captured := []) t123 ⟨rfl, by decide⟩ ?_
  dsimp only [c123]
  simp
  refine all_ok A dsn ssn told n t hd hs hm (by omega) _ fun A1 e1 => ?_
  simp
  refine ofR_ok A1 _ (by simp [ahead_len]; omega) _ ?_
  have hq1 := hq A1 e1
  unfold rightN at hq1
  generalize foldN (wsum (ahead dsn ssn n told ++ t)) = F at hq1
  simp
  have : (decide ((F : Int) = 65535)) = decide (F = 65535) := by congr 1; apply propext; omega
  rw [this]
  exact hq1
end Go.Proofs.Ytidgbapgedegbaa
