/- ModeKnown: what it answers. -/
import Derived.Test.YtcfahggmejpdbaaDoorLf
import Derived.KernelRfl
namespace Go.Proofs.YtcfahggmejpdbaaDoor
open Go Go.AS
set_option maxRecDepth 100000
set_option linter.unusedSimpArgs false
set_option linter.unusedVariables false
attribute [local irreducible] Trie.set Trie.get Env.rd
attribute [local simp] Nat.add_assoc wD_cons'' wD_nil' wC_seq wC_ops wC_opsD_nil wC_cond wC_skip wC_ret wC_exit wC_block wO_cons' wO_nil wantedA wV_eq lop qop ev wL_some wL_none wPut envOf rd_set rd_leaf eqA thenC blockC wB_true wB_false endF unwindA resultsA resA tupleA rdCell rdCells wrCells cl fillP lay rep binA unA get_set' AHeap.get_alloc oneCell beqd bned idxA

attribute [local simp] MS.len MS.one MS.take MS.at0 MS.at1 MS.at2 MS.at7 MS.putEn MS.putMd MS.putSo MS.putU0 Tn.len Tn.one Tn.take Tn.at0 Tn.at1 Tn.at2 wr1 wr2 wr3 wr4
/-- What the loops of ModeKnown count. -/
def stepK (c m acc : Int) : Int := (fun a => if okT (ms0 1) ⟨c, 0, m⟩ = true then a + 10000 + 1000000 * c else a) (if okT (ms0 0) ⟨c, 0, m⟩ = true then acc + 1 + 100 * c else acc)
def sumM (c : Int) : Nat → Int → Int
  | 0, acc => acc
  | m + 1, acc => stepK c m (sumM c m acc)
def sumC : Nat → Int
  | 0 => 0
  | c + 1 => sumM c 7 (sumC c)
theorem sumC_18 : sumC 18 = 3020001 := by decide +kernel
/-- A bound for all of them. -/
theorem sum_in : ∀ c : Nat, c < 18 → ∀ m : Nat, m < 8 → 0 ≤ sumM c m (sumC c) ∧ sumM c m (sumC c) < 10000000 := by decide +kernel
def K1 (A0 : AHeap) (m : Nat) (st : St) : Prop := ∃ c : Nat, c ≤ 18 ∧ m = 18 - c ∧ st.n = 228 ∧ st.dfs = [] ∧
  (st.env.rd 1 = .pointer (some ⟨A0.size, 0, none⟩) ∧ st.env.rd 2 = .pointer (some ⟨A0.size + 1, 0, none⟩) ∧ st.env.rd 3 = .bool true ∧ st.env.rd 4 = .int .i64 (sumC c) ∧ st.env.rd 5 = .int .i64 c) ∧
  st.A.get A0.size = some (.cells (ms0 0).cells false 0) ∧ st.A.get (A0.size + 1) = some (.cells (ms0 1).cells false 0) ∧ Ext NoB A0 st.A
def K2 (A0 : AHeap) (c : Nat) (m : Nat) (st : St) : Prop := ∃ k : Nat, k ≤ 7 ∧ m = 7 - k ∧ st.n = 228 ∧ st.dfs = [] ∧
  (st.env.rd 1 = .pointer (some ⟨A0.size, 0, none⟩) ∧ st.env.rd 2 = .pointer (some ⟨A0.size + 1, 0, none⟩) ∧ st.env.rd 3 = .bool true ∧ st.env.rd 4 = .int .i64 (sumM c k (sumC c)) ∧ st.env.rd 5 = .int .i64 c ∧ st.env.rd 6 = .int .i64 k) ∧
  st.A.get A0.size = some (.cells (ms0 0).cells false 0) ∧ st.A.get (A0.size + 1) = some (.cells (ms0 1).cells false 0) ∧ Ext NoB A0 st.A

def mkS : MS := ⟨0, 3, false, false, false, false, true, true, false, false, false, false, false, true, false⟩
theorem _root_.Go.AS.ReadAt.nil0 {A : AHeap} {sz : Nat} : ReadAt A sz (.slice none 0 0) 0 [] := .inl ⟨rfl, rfl, rfl⟩
theorem _root_.Go.AS.AHeap.get_alloc_top0 {A : AHeap} {x : ABlk} : (A.alloc x).get A.size = some x := get_alloc_top rfl
set_option maxHeartbeats 3200000 in
theorem known_ok (A : AHeap) (hE : EH A) : wF T (.func (.func 8) #[] #[]) [] A (fun v _ => v = .bool true) := by
  refine wF_func (first := []) (captured := []) t8 ⟨rfl, by decide⟩ ?_
  dsimp only [c8]
  simp
  refine begin_ok A 0 _ fun A1 e1 => ?_
  simp
  refine begin_ok A1 1 _ fun A2 e2 => ?_
  have e00 : eqL [(0, .i), (1, .i), (2, .b), (3, .b), (4, .b), (5, .b), (6, .b), (7, .b), (8, .b), (9, .b), (10, .b), (11, .b), (12, .b), (13, .b), (14, .b)] (ms0 0).cells [.int .i64 0, .int .i64 0, .bool true, .bool false, .bool false, .bool false, .bool false, .bool false, .bool false, .bool false, .bool false, .bool false, .bool false, .bool false, .bool false] = some true := by rfl
  have en1 : (ms0 1).en = 1 := rfl
  have md0 : (ms0 0).md = 0 := rfl
  simp [lay_whole, e00, en1, md0]
  generalize hA3 : AHeap.set (AHeap.set _ A2.size _) (A2.size + 1) _ = A3
  have e3 : Ext NoB A2 A3 := by rw [← hA3]; exact ⟨by simp, fun b hb _ => by simp [show b ≠ A2.size by omega, show b ≠ A2.size + 1 by omega]⟩
  have g1 : A3.get A2.size = some (.cells (ms0 0).cells false 0) := by rw [← hA3]; simp
  have g2 : A3.get (A2.size + 1) = some (.cells (ms0 1).cells false 0) := by rw [← hA3]; simp
  clear hA3
  have hE2 := (hE.extN e1).extN e2
  clear hE e1 e2
  refine wC_loop_inv (K1 A2) ?_ 18 _ ⟨0, by omega, rfl, rfl, rfl, ⟨by simp, by simp, by simp, by simp [sumC], by simp⟩, g1, g2, e3⟩
  clear g1 g2 e3
  rintro m ⟨env, n, dfs, B⟩ ⟨c, hc, rfl, s1, s2, ⟨r1, r2, r3, r4, r5⟩, g1, g2, ex⟩
  simp only at s1 s2 r1 r2 r3 r4 r5 g1 g2 ex
  subst s1; subst s2
  by_cases cc : c < 18
  · simp [r5, show (c : Int) < 18 by omega]
    refine wC_loop_inv (K2 A2 c) ?_ 7 _ ⟨0, by omega, rfl, rfl, rfl, ⟨by simp [r1], by simp [r2], by simp [r3], by simp [r4, sumM], by simp [r5], by simp⟩, g1, g2, ex⟩
    clear r1 r2 r3 r4 r5 g1 g2 ex
    rintro m ⟨env, n, dfs, B1⟩ ⟨k, hk, rfl, s1, s2, ⟨r1, r2, r3, r4, r5, r6⟩, g1, g2, ex⟩
    simp only at s1 s2 r1 r2 r3 r4 r5 r6 g1 g2 ex
    subst s1; subst s2
    by_cases ck : k < 7
    · obtain ⟨b0, b1⟩ := sum_in c cc k (by omega)
      have b2 := sum_in c cc (k + 1) (by omega)
      have w2k := len40 (show k < 100000 by omega)
      generalize hacc : sumM c k (sumC c) = acc at r4 b0 b1
      have hnext : sumM c (k + 1) (sumC c) = stepK c k acc := by rw [sumM, hacc]
      have wa : IntKind.i64.wrap (acc + 1) = acc + 1 := IntWalk.i64_in _ (by omega)
      have wb : IntKind.i64.wrap (100 * (c : Int)) = 100 * c := IntWalk.i64_in _ (by omega)
      have wc : IntKind.i64.wrap (acc + 1 + 100 * (c : Int)) = acc + 1 + 100 * c := IntWalk.i64_in _ (by omega)
      have wd : IntKind.i64.wrap (1000000 * (c : Int)) = 1000000 * c := IntWalk.i64_in _ (by omega)
      have we : ∀ x : Int, 0 ≤ x → x < 20000000 → IntKind.i64.wrap (x + 10000) = x + 10000 ∧ IntKind.i64.wrap (x + 10000 + 1000000 * (c : Int)) = x + 10000 + 1000000 * c := fun x h0 h1 => ⟨IntWalk.i64_in _ (by omega), IntWalk.i64_in _ (by omega)⟩
      have we1 := we acc (by omega) (by omega)
      have we2 := we (acc + 1 + 100 * c) (by omega) (by omega)
      have wf : acc + 1 + 100 * (c : Int) + 10000 = acc + (1 + (100 * (c : Int) + 10000)) := by omega
      have wg : acc + 1 + 100 * (c : Int) = acc + (1 + 100 * (c : Int)) := by omega
      simp [r5, r6, show (k : Int) < 7 by omega]
      refine wC_opsD_chk ?_
      simp [r1, r5, r6, g1]
      refine turn_ok B1 c 0 k _ fun B2 y2 => ?_
      have f1 := y2.get g1 id
      simp
      refine next_ok B2 (ms0 0) ⟨c, 0, k⟩ _ fun B3 y3 => ?_
      simp [lay_whole]
      refine wE_intro ?_ ?_
      · simp only [List.all_cons, List.all_nil, chkOk, List.nil_append, List.cons_append, List.getElem?_cons_succ, List.getElem?_cons_zero]
        simp [Bx, r1, g1, f1, vbeq, vb_self]
      simp
      generalize hB4 : AHeap.set (AHeap.alloc B3 _) B3.size _ = B4
      have y4 : Ext NoB B3 B4 := by rw [← hB4]; exact ⟨by simp, fun b hb _ => by simp [show b ≠ B3.size by omega]⟩
      clear hB4
      have y14 := (y2.trans y3).trans y4
      have h2 := y14.get g2 id
      refine wC_opsD_chk ?_
      simp [r2, r5, r6, h2]
      refine turn_ok B4 c 0 k _ fun B5 y5 => ?_
      have f2 := y5.get h2 id
      simp
      refine next_ok B5 (ms0 1) ⟨c, 0, k⟩ _ fun B6 y6 => ?_
      simp [lay_whole]
      refine wE_intro ?_ ?_
      · simp only [List.all_cons, List.all_nil, chkOk, List.nil_append, List.cons_append, List.getElem?_cons_succ, List.getElem?_cons_zero]
        simp [Bx, r2, h2, f2, vbeq, vb_self]
      simp
      generalize hB7 : AHeap.set (AHeap.alloc B6 _) B6.size _ = B7
      have y7 : Ext NoB B6 B7 := by rw [← hB7]; exact ⟨by simp, fun b hb _ => by simp [show b ≠ B6.size by omega]⟩
      clear hB7
      have y17 := ((y14.trans y5).trans y6).trans y7
      have z1 := y17.get g1 id
      have z2 := y17.get g2 id
      have fin : ∀ env' : Env, env'.rd 1 = .pointer (some ⟨A2.size, 0, none⟩) → env'.rd 2 = .pointer (some ⟨A2.size + 1, 0, none⟩) → env'.rd 3 = .bool true → env'.rd 4 = .int .i64 (stepK c k acc) → env'.rd 5 = .int .i64 c → env'.rd 6 = .int .i64 (IntKind.i64.wrap ((k : Int) + 1)) → ∃ m', m' < 7 - k ∧ K2 A2 c m' { env := env', n := 228, dfs := [], A := B7 } :=
        fun env' q1 q2 q3 q4 q5 q6 => ⟨7 - (k + 1), by omega, k + 1, by omega, rfl, rfl, rfl, ⟨q1, q2, q3, by rw [hnext]; exact q4, q5, by rw [← w2k]; exact q6⟩, z1, z2, ex.trans y17⟩
      cases k0 : okT (ms0 0) ⟨c, 0, k⟩ <;> cases k1 : okT (ms0 1) ⟨c, 0, k⟩ <;>
      · simp [k0, k1, r4, r5, r6, wa, wb, wg, wd, we1.1]
        refine fin _ ?_ ?_ ?_ ?_ ?_ ?_
        · simp [r1]
        · simp [r2]
        · simp [r3]
        · simp [k0, k1, r4, stepK]
          try (simp (disch := omega) only [IntWalk.i64_in])
          try omega
        · simp [r5]
        · simp
    · have : k = 7 := by omega
      subst this
      have w2c := len40 (show c < 100000 by omega)
      simp [r5, r6]
      exact ⟨18 - (c + 1), by omega, c + 1, by omega, rfl, rfl, rfl, ⟨by simp [r1], by simp [r2], by simp [r3], by simp [r4, sumC], by simpa using w2c⟩, g1, g2, ex⟩
  · have : c = 18 := by omega
    subst this
    rw [sumC_18] at r4
    simp [r3, r4, r5]
    generalize hC0 : AHeap.set (AHeap.set (AHeap.set (AHeap.set (AHeap.alloc B _) _ _) _ _) _ _) _ _ = C0
    have x0 : Ext NoB B C0 := by rw [← hC0]; exact ⟨by simp, fun b hb _ => by simp [show b ≠ B.size by omega]⟩
    have k11 : C0.get B.size = some (.cells mkS.cells false 0) := by rw [← hC0]; simp [mkS, MS.cells]
    clear hC0
    have lb := AHeap.get_lt k11
    generalize B.size = q11 at k11
    have z2 := x0.get g2 id
    have ex := ex.trans x0
    clear x0 g1 g2
    -- 1
    have ok0 : okT mkS ⟨7, 1, 3⟩ = true := by decide
    simp [k11]
    refine wC_opsD_chk ?_
    simp [k11]
    refine turn_ok C0 7 1 3 _ fun D0 u0 => ?_
    simp
    refine next_ok D0 mkS ⟨7, 1, 3⟩ _ fun F0 v0 => ?_
    simp [lay_whole]
    refine wE_intro ?_ ?_
    · simp only [List.all_cons, List.all_nil, chkOk, List.nil_append, List.cons_append, List.getElem?_cons_succ, List.getElem?_cons_zero]
      simp [Bx, k11, u0.get k11 id, vbeq, vb_self]
    simp
    generalize hC1 : AHeap.set (AHeap.alloc F0 _) F0.size _ = C1
    have w0 : Ext NoB C0 C1 := (u0.trans v0).trans (by rw [← hC1]; exact ⟨by simp, fun b hb _ => by simp [show b ≠ F0.size by omega]⟩)
    clear hC1
    have k11 := w0.get k11 id
    have z2 := w0.get z2 id
    have ex := ex.trans w0
    -- 2
    have ok1 : okT mkS ⟨7, 3, 3⟩ = false := by decide
    simp [k11]
    refine wC_opsD_chk ?_
    simp [k11]
    refine turn_ok C1 7 3 3 _ fun D1 u1 => ?_
    simp
    refine next_ok D1 mkS ⟨7, 3, 3⟩ _ fun F1 v1 => ?_
    simp [lay_whole]
    refine wE_intro ?_ ?_
    · simp only [List.all_cons, List.all_nil, chkOk, List.nil_append, List.cons_append, List.getElem?_cons_succ, List.getElem?_cons_zero]
      simp [Bx, k11, u1.get k11 id, vbeq, vb_self]
    simp
    generalize hC2 : AHeap.set (AHeap.alloc F1 _) F1.size _ = C2
    have w1 : Ext NoB C1 C2 := (u1.trans v1).trans (by rw [← hC2]; exact ⟨by simp, fun b hb _ => by simp [show b ≠ F1.size by omega]⟩)
    clear hC2
    have k11 := w1.get k11 id
    have z2 := w1.get z2 id
    have ex := ex.trans w1
    -- 3
    have ok2 : okT mkS ⟨8, 2, 3⟩ = false := by decide
    simp [k11]
    refine wC_opsD_chk ?_
    simp [k11]
    refine turn_ok C2 8 2 3 _ fun D2 u2 => ?_
    simp
    refine next_ok D2 mkS ⟨8, 2, 3⟩ _ fun F2 v2 => ?_
    simp [lay_whole]
    refine wE_intro ?_ ?_
    · simp only [List.all_cons, List.all_nil, chkOk, List.nil_append, List.cons_append, List.getElem?_cons_succ, List.getElem?_cons_zero]
      simp [Bx, k11, u2.get k11 id, vbeq, vb_self]
    simp
    generalize hC3 : AHeap.set (AHeap.alloc F2 _) F2.size _ = C3
    have w2 : Ext NoB C2 C3 := (u2.trans v2).trans (by rw [← hC3]; exact ⟨by simp, fun b hb _ => by simp [show b ≠ F2.size by omega]⟩)
    clear hC3
    have k11 := w2.get k11 id
    have z2 := w2.get z2 id
    have ex := ex.trans w2
    -- 4
    have ok3 : okT mkS ⟨8, 3, 3⟩ = true := by decide
    simp [k11]
    refine wC_opsD_chk ?_
    simp [k11]
    refine turn_ok C3 8 3 3 _ fun D3 u3 => ?_
    simp
    refine next_ok D3 mkS ⟨8, 3, 3⟩ _ fun F3 v3 => ?_
    simp [lay_whole]
    refine wE_intro ?_ ?_
    · simp only [List.all_cons, List.all_nil, chkOk, List.nil_append, List.cons_append, List.getElem?_cons_succ, List.getElem?_cons_zero]
      simp [Bx, k11, u3.get k11 id, vbeq, vb_self]
    simp
    generalize hC4 : AHeap.set (AHeap.alloc F3 _) F3.size _ = C4
    have w3 : Ext NoB C3 C4 := (u3.trans v3).trans (by rw [← hC4]; exact ⟨by simp, fun b hb _ => by simp [show b ≠ F3.size by omega]⟩)
    clear hC4
    have k11 := w3.get k11 id
    have z2 := w3.get z2 id
    have ex := ex.trans w3
    -- 5
    have ok4 : okT mkS ⟨8, 1, 3⟩ = false := by decide
    simp [k11]
    refine wC_opsD_chk ?_
    simp [k11]
    refine turn_ok C4 8 1 3 _ fun D4 u4 => ?_
    simp
    refine next_ok D4 mkS ⟨8, 1, 3⟩ _ fun F4 v4 => ?_
    simp [lay_whole]
    refine wE_intro ?_ ?_
    · simp only [List.all_cons, List.all_nil, chkOk, List.nil_append, List.cons_append, List.getElem?_cons_succ, List.getElem?_cons_zero]
      simp [Bx, k11, u4.get k11 id, vbeq, vb_self]
    simp
    generalize hC5 : AHeap.set (AHeap.alloc F4 _) F4.size _ = C5
    have w4 : Ext NoB C4 C5 := (u4.trans v4).trans (by rw [← hC5]; exact ⟨by simp, fun b hb _ => by simp [show b ≠ F4.size by omega]⟩)
    clear hC5
    have k11 := w4.get k11 id
    have z2 := w4.get z2 id
    have ex := ex.trans w4
    -- 6
    have ok5 : okT mkS ⟨11, 0, 4⟩ = false := by decide
    simp [k11]
    refine wC_opsD_chk ?_
    simp [k11]
    refine turn_ok C5 11 0 4 _ fun D5 u5 => ?_
    simp
    refine next_ok D5 mkS ⟨11, 0, 4⟩ _ fun F5 v5 => ?_
    simp [lay_whole]
    refine wE_intro ?_ ?_
    · simp only [List.all_cons, List.all_nil, chkOk, List.nil_append, List.cons_append, List.getElem?_cons_succ, List.getElem?_cons_zero]
      simp [Bx, k11, u5.get k11 id, vbeq, vb_self]
    simp
    generalize hC6 : AHeap.set (AHeap.alloc F5 _) F5.size _ = C6
    have w5 : Ext NoB C5 C6 := (u5.trans v5).trans (by rw [← hC6]; exact ⟨by simp, fun b hb _ => by simp [show b ≠ F5.size by omega]⟩)
    clear hC6
    have k11 := w5.get k11 id
    have z2 := w5.get z2 id
    have ex := ex.trans w5
    -- 7
    have ok6 : okT mkS ⟨17, 2, 6⟩ = false := by decide
    simp [k11]
    refine wC_opsD_chk ?_
    simp [k11]
    refine turn_ok C6 17 2 6 _ fun D6 u6 => ?_
    simp
    refine next_ok D6 mkS ⟨17, 2, 6⟩ _ fun F6 v6 => ?_
    simp [lay_whole]
    refine wE_intro ?_ ?_
    · simp only [List.all_cons, List.all_nil, chkOk, List.nil_append, List.cons_append, List.getElem?_cons_succ, List.getElem?_cons_zero]
      simp [Bx, k11, u6.get k11 id, vbeq, vb_self]
    simp
    generalize hC7 : AHeap.set (AHeap.alloc F6 _) F6.size _ = C7
    have w6 : Ext NoB C6 C7 := (u6.trans v6).trans (by rw [← hC7]; exact ⟨by simp, fun b hb _ => by simp [show b ≠ F6.size by omega]⟩)
    clear hC7
    have k11 := w6.get k11 id
    have z2 := w6.get z2 id
    have ex := ex.trans w6
    -- 8
    have ok7 : okT mkS ⟨16, 3, 6⟩ = true := by decide
    simp [k11]
    refine wC_opsD_chk ?_
    simp [k11]
    refine turn_ok C7 16 3 6 _ fun D7 u7 => ?_
    simp
    refine next_ok D7 mkS ⟨16, 3, 6⟩ _ fun F7 v7 => ?_
    simp [lay_whole]
    refine wE_intro ?_ ?_
    · simp only [List.all_cons, List.all_nil, chkOk, List.nil_append, List.cons_append, List.getElem?_cons_succ, List.getElem?_cons_zero]
      simp [Bx, k11, u7.get k11 id, vbeq, vb_self]
    simp
    generalize hC8 : AHeap.set (AHeap.alloc F7 _) F7.size _ = C8
    have w7 : Ext NoB C7 C8 := (u7.trans v7).trans (by rw [← hC8]; exact ⟨by simp, fun b hb _ => by simp [show b ≠ F7.size by omega]⟩)
    clear hC8
    have k11 := w7.get k11 id
    have z2 := w7.get z2 id
    have ex := ex.trans w7
    -- 9
    have ok8 : okT mkS ⟨16, 4, 6⟩ = false := by decide
    simp [k11]
    refine wC_opsD_chk ?_
    simp [k11]
    refine turn_ok C8 16 4 6 _ fun D8 u8 => ?_
    simp
    refine next_ok D8 mkS ⟨16, 4, 6⟩ _ fun F8 v8 => ?_
    simp [lay_whole]
    refine wE_intro ?_ ?_
    · simp only [List.all_cons, List.all_nil, chkOk, List.nil_append, List.cons_append, List.getElem?_cons_succ, List.getElem?_cons_zero]
      simp [Bx, k11, u8.get k11 id, vbeq, vb_self]
    simp
    generalize hC9 : AHeap.set (AHeap.alloc F8 _) F8.size _ = C9
    have w8 : Ext NoB C8 C9 := (u8.trans v8).trans (by rw [← hC9]; exact ⟨by simp, fun b hb _ => by simp [show b ≠ F8.size by omega]⟩)
    clear hC9
    have k11 := w8.get k11 id
    have z2 := w8.get z2 id
    have ex := ex.trans w8
    simp [ok0, ok1, ok2, ok3, ok4, ok5, ok6, ok7, ok8]
    refine check_ok C9 2 (.slice none 0 0) [] _ (by decide) ReadAt.nil0 fun E1 ev y1 h1 => ?_
    have hw2 : (walkR 2 []).2 = some (2, 0) := rfl
    rw [hw2] at h1
    simp
    have hE3 := hE2.extN (ex.trans y1)
    refine last_ok E1 1 (.slice none 0 0) [] _ hE3 (by decide) ReadAt.nil0 fun E2 y2 => ?_
    have hw1 : walkR 1 [] = (ms0 1, none) := rfl
    rw [hw1]
    simp [lay_whole]
    generalize hE4 : AHeap.set (AHeap.alloc E2 _) E2.size _ = E4
    have y4 : Ext NoB E2 E4 := by rw [← hE4]; exact ⟨by simp, fun b hb _ => by simp [show b ≠ E2.size by omega]⟩
    have g32 : E4.get E2.size = some (.cells (ms0 1).cells false 0) := by rw [← hE4]; simp
    clear hE4
    have y24 := y2.trans y4
    have hE5 := hE3.extN y24
    have h1 := h1.extN y24
    have z2 := (y1.trans y24).get z2 id
    generalize E2.size = q32 at g32
    refine works_ok _ _ hE5 ?_
    simp [r3, r4]
    refine told_ok E4 ev (some (2, 0)) _ hE5 h1 fun E6 y6 => ?_
    obtain ⟨eb, hev, _⟩ := h1
    subst hev
    simp [fcells, eqL, leafEq]
    refine check_ok E6 0 (.slice none 0 0) [] _ (by decide) ReadAt.nil0 fun E7 ev2 y7 h7 => ?_
    have hw0 : (walkR 0 []).2 = none := rfl
    rw [hw0] at h7
    have h7' : ev2 = .nilIface := h7
    subst h7'
    have g32' := (y6.trans y7).get g32 id
    have z2' := (y6.trans y7).get z2 id
    simp [r2, g32', z2', eq_cells]
    refine falls_ok E7 (.slice none 0 0) [] _ (by decide) ReadAt.nil0 fun E8 y8 => ?_
    have hf0 : fallsI [] = -1 := rfl
    rw [hf0]
    simp
    refine turn_ok E8 5 0 0 _ fun E9 y9 => ?_
    simp
    refine turn_ok E9 12 0 0 _ fun E10 y10 => ?_
    simp [Tn.cells]
    have hf1 : fallsI [⟨5, 0, 0⟩, ⟨12, 0, 0⟩] = 1 := by decide
    refine falls_ok _ _ [⟨5, 0, 0⟩, ⟨12, 0, 0⟩] _ (by decide) (.inr (.inl ⟨E10.size, 0, 2, tcells [⟨5, 0, 0⟩, ⟨12, 0, 0⟩], false, 0, rfl, AHeap.get_alloc_top0, by decide, rfl, fun q => absurd q (by decide)⟩)) fun E11 y11 => ?_
    rw [hf1]
    simp
end Go.Proofs.YtcfahggmejpdbaaDoor
