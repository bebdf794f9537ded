/- SchedAgain of stage 25: the second loop. -/
import Derived.Test.YtbhhmnokddkhmaaTg
import Derived.KernelRfl
namespace Go.Proofs.Ytbhhmnokddkhmaa
open Go Go.AS
set_option maxRecDepth 100000
set_option linter.unusedSimpArgs false
set_option linter.unusedVariables false
attribute [local irreducible] Trie.set Trie.get Env.rd
attribute [local simp] Nat.add_assoc wD_cons'' wD_nil' wC_seq wC_ops wC_opsD_nil wC_cond wC_skip wC_ret wC_exit wC_block wO_cons' wO_nil wantedA wV_eq lop qop ev wL_some wL_none wPut envOf rd_set rd_leaf eqA thenC blockC wB_true wB_false endF unwindA resultsA resA tupleA rdCell rdCells wrCells cl fillP lay rep binA unA get_set' AHeap.get_alloc oneCell

def LI (L : List La) (cb : List Bool) (ago limit : Int) (lv bv gv : Value) (A : AHeap) (m : Nat) (st : St) : Prop := ∃ i, m + i = L.length ∧ st.n = 126 ∧ st.dfs = [] ∧ st.A = A ∧ st.env.rd 0 = lv ∧ st.env.rd 1 = bv ∧ st.env.rd 2 = .int .i64 ago ∧ st.env.rd 3 = .int .i64 limit ∧ st.env.rd 10 = .bool (alv L cb L.length) ∧ st.env.rd 12 = gv ∧ st.env.rd 13 = .int .i64 ((gots L cb ago limit i).length : Nat) ∧ st.env.rd 14 = .int .i64 (i : Nat)

theorem again2_ok (L : List La) (cb : List Bool) (ago limit : Int) (lv wv : Value) (A : AHeap) (Q : Value → AHeap → Prop) (hz : L.length ≤ 20) (h : ReadAt A 4 lv L.length (lcells (pth L L.length))) (hw : ReadAt A 1 wv (crow cb L.length).length (ints (crow cb L.length))) (hlo : ∀ j, Own lv j → j < A.size) (hwo : ∀ j, Own wv j → j < A.size)
    (hq : ∀ A' gv, Ext NoB A A' → SliceAt A' 1 gv (gots L cb ago limit L.length).length (ints (gots L cb ago limit L.length)) → Q gv A') : wF T (.func (.func 8) #[] #[]) [lv, wv, .int .i64 ago, .int .i64 limit] A Q := by
  have pl := pth_len L L.length
  have h' : ReadAt A 4 lv (pth L L.length).length (lcells (pth L L.length)) := by rw [pl]; exact h
  have cl := crow_len cb L.length
  refine again_ok (pth L L.length) (crow cb L.length) ago limit lv wv A Q h' hw hlo hwo (by omega) (by omega) ?_ ?_ ?_
  · rw [fpth]
    exact inc_pth _ (List.Pairwise.filter _ List.pairwise_lt_range)
  · intro h1 h2 A' e
    rw [alive_pth] at h2
    refine hq A' _ e ?_
    rw [gots_no L cb ago limit h1 h2]
    exact .nil
  · intro h1 A' sv e s
    rw [alive_pth] at h1
    refine hq A' sv e ?_
    rw [gots_all L cb ago limit h1]
    exact s

theorem l2_ok (L : List La) (cb : List Bool) (ago limit : Int) (a1 a2 : Option Addr) (c1 c2 : Nat) (wv : Value) (st : St) (k1 : st.n = 126) (k2 : st.dfs = []) (r0 : st.env.rd 0 = .slice a1 L.length c1) (r1 : st.env.rd 1 = .slice a2 cb.length c2) (r2 : st.env.rd 2 = .int .i64 ago) (r3 : st.env.rd 3 = .int .i64 limit) (r9 : st.env.rd 9 = wv) (r10 : st.env.rd 10 = .bool (alv L cb L.length))
    (hz : L.length ≤ 20) (h : ReadAt st.A 4 (.slice a1 L.length c1) L.length (lcells (pth L L.length))) (hb : ReadAt st.A 1 (.slice a2 cb.length c2) cb.length (cb.map .bool)) (hw : ReadAt st.A 1 wv (crow cb L.length).length (ints (crow cb L.length))) (hlo : ∀ j, Own (.slice a1 L.length c1) j → j < st.A.size) (hwo : ∀ j, Own wv j → j < st.A.size) :
    wC T 4 none c4t st (endF [.inl 8] fun v _ => v = .bool true) := by
  obtain ⟨env, nn, dfs, A⟩ := st
  simp only at k1 k2 r0 r1 r2 r3 r9 r10 h hb hw hlo hwo
  subst k1; subst k2
  have pl := pth_len L L.length
  obtain ⟨aw, cw, hwv⟩ := hw.val
  unfold c4t
  simp [r0, r9, r2, r3]
  refine again2_ok L cb ago limit _ wv A _ hz h hw hlo hwo fun A1 gv e1 sg => ?_
  have h1 := h.ext e1 fun _ _ q => q
  have hb1 := hb.ext e1 fun _ _ q => q
  obtain ⟨ag, cg, hgv⟩ := sg.read.val
  subst hgv
  simp
  refine wC_loop_inv (LI L cb ago limit (.slice a1 L.length c1) (.slice a2 cb.length c2) (.slice ag (gots L cb ago limit L.length).length cg) A1) ?_ L.length _ ⟨0, by omega, rfl, rfl, rfl, by simp [r0], by simp [r1], by simp [r2], by simp [r3], by simp [r10], by simp, by simp [gots], by simp⟩
  rintro m ⟨env2, nn, dfs, A'⟩ ⟨i, k0, k1, k2, k3, r0, r1, r2, r3, r10, r12, r13, r14⟩
  simp only at k1 k2 k3 r0 r1 r2 r3 r10 r12 r13 r14
  subst k1; subst k2; subst k3
  have gl := gots_len L cb ago limit i
  by_cases hi : i < L.length
  · have hip : i < (pth L L.length).length := by omega
    obtain ⟨d, o, c, bs, ro, opn, q1, q2, q3, q4⟩ := h1.elem2 hi
    rw [lcells_at (pth L L.length) i hip, pth_get, if_pos hi] at q4
    dsimp only [La.cells] at q4
    cases q1
    obtain ⟨b0, b1, b2, b3⟩ := take4 q4
    rw [Nat.add_assoc] at b1 b2 b3
    have ws := wrap_succ i (by omega)
    have wk := wrap_succ (gots L cb ago limit i).length (by omega)
    have gs := gots_succ L cb ago limit i
    have fin : ∀ env' : Env, Env.rd env' 0 = .slice (some ⟨d, o, none⟩) L.length c1 → Env.rd env' 1 = .slice a2 cb.length c2 → Env.rd env' 2 = .int .i64 ago → Env.rd env' 3 = .int .i64 limit → Env.rd env' 10 = .bool (alv L cb L.length) → Env.rd env' 12 = .slice ag (gots L cb ago limit L.length).length cg → Env.rd env' 13 = .int .i64 ((gots L cb ago limit (i + 1)).length : Nat) → Env.rd env' 14 = .int .i64 ((i + 1 : Nat) : Int) → ∃ m', m' < m ∧ LI L cb ago limit (.slice (some ⟨d, o, none⟩) L.length c1) (.slice a2 cb.length c2) (.slice ag (gots L cb ago limit L.length).length cg) A' m' ⟨env', 126, [], A'⟩ :=
      fun env' t0 t1 t2 t3 t10 t12 t13 t14 => ⟨m - 1, by omega, i + 1, by omega, rfl, rfl, rfl, t0, t1, t2, t3, t10, t12, t13, t14⟩
    have no : isk L cb ago limit i = false → gots L cb ago limit (i + 1) = gots L cb ago limit i := fun q => by rw [gs, q]; rfl
    have ska : isk L cb ago limit i = ((at0 L i).up && decide ((at0 L i).flight < limit) && !cb.getD i false && (decide (3 ≤ ago) || !alv L cb L.length)) := rfl
    generalize hU : (at0 L i).up = u at b1 ska
    generalize hF : (at0 L i).flight = fl at b3 ska
    have carry : (i < cb.length ∧ ∃ d o c bs ro opn, (.slice a2 cb.length c2 : Value) = .slice (some ⟨d, o, none⟩) cb.length c ∧ A'.get d = some (.cells bs ro opn) ∧ bs[o + i]? = some (.bool (cb.getD i false))) ∨ (¬ i < cb.length ∧ cb.getD i false = false) := by
      by_cases hc : i < cb.length
      · exact .inl ⟨hc, bcell hb1 hc⟩
      · exact .inr ⟨hc, by rw [List.getD_eq_getElem?_getD, List.getElem?_eq_none (by omega)]; rfl⟩
    generalize hC : cb.getD i false = cc at carry ska
    generalize hV : alv L cb L.length = V at r10 ska fin
    cases u
    · simp [r0, r1, r2, r3, r10, r12, r13, r14, hi, idxA, q2, b1, undef]
      have q := no (by simpa using ska)
      refine fin _ ?_ ?_ ?_ ?_ ?_ ?_ ?_ ?_ <;> simp [r0, r1, r2, r3, r10, r12, r13, r14, q, ws]
    by_cases hfl : fl < limit
    case neg =>
      simp [r0, r1, r2, r3, r10, r12, r13, r14, hi, idxA, q2, b1, b3, hfl, undef]
      have q := no (by simpa [hfl] using ska)
      refine fin _ ?_ ?_ ?_ ?_ ?_ ?_ ?_ ?_ <;> simp [r0, r1, r2, r3, r10, r12, r13, r14, q, ws]
    have yes : isk L cb ago limit i = true → ∃ dg og bg rg ogn, ag = some ⟨dg, og, none⟩ ∧ A'.get dg = some (.cells bg rg ogn) ∧ bg[og + (gots L cb ago limit i).length]? = some (.int .i64 (2 * (i : Int))) ∧ (gots L cb ago limit i).length < (gots L cb ago limit L.length).length ∧ (gots L cb ago limit (i + 1)).length = (gots L cb ago limit i).length + 1 := by
      intro hy
      obtain ⟨hk, hv⟩ := gots_at L cb ago limit i L.length hi hy
      obtain ⟨dg, og, cg', bg, rg, ogn, p1, p2, p3⟩ := intc sg.read hk
      cases p1
      rw [hv] at p3
      exact ⟨dg, og, bg, rg, ogn, rfl, p2, p3, hk, by rw [gs, if_pos hy]; simp⟩
    rcases carry with ⟨hc, db, ob, cb', bb, rb, opb, p1, p2, p3⟩ | ⟨hc, hcc⟩
    · cases p1
      cases cc
      · by_cases ha : 3 ≤ ago
        · obtain ⟨dg, og, bg, rg, ogn, p4, p5, p6, p7, p8⟩ := yes (by simp [ska, hfl, ha])
          subst p4
          have p9 : ¬ (gots L cb ago limit L.length).length ≤ (gots L cb ago limit i).length := by omega
          have w2 : IntKind.i64.wrap (2 * (i : Int)) = 2 * (i : Int) := IntWalk.i64_in _ (by omega)
          simp [r0, r1, r2, r3, r10, r12, r13, r14, hi, idxA, q2, b1, b3, hfl, hc, p2, p3, ha, p5, p6, p7, p9, w2, undef]
          refine fin _ ?_ ?_ ?_ ?_ ?_ ?_ ?_ ?_ <;> simp [r0, r1, r2, r3, r10, r12, r13, r14, p8, ws, wk]
        · cases V
          · obtain ⟨dg, og, bg, rg, ogn, p4, p5, p6, p7, p8⟩ := yes (by simp [ska, hfl, ha])
            subst p4
            have p9 : ¬ (gots L cb ago limit L.length).length ≤ (gots L cb ago limit i).length := by omega
            have w2 : IntKind.i64.wrap (2 * (i : Int)) = 2 * (i : Int) := IntWalk.i64_in _ (by omega)
            simp [r0, r1, r2, r3, r10, r12, r13, r14, hi, idxA, q2, b1, b3, hfl, hc, p2, p3, ha, p5, p6, p7, p9, w2, undef]
            refine fin _ ?_ ?_ ?_ ?_ ?_ ?_ ?_ ?_ <;> simp [r0, r1, r2, r3, r10, r12, r13, r14, p8, ws, wk]
          · simp [r0, r1, r2, r3, r10, r12, r13, r14, hi, idxA, q2, b1, b3, hfl, hc, p2, p3, ha, undef]
            have q := no (by simp [ska, ha])
            refine fin _ ?_ ?_ ?_ ?_ ?_ ?_ ?_ ?_ <;> simp [r0, r1, r2, r3, r10, r12, r13, r14, q, ws]
      · simp [r0, r1, r2, r3, r10, r12, r13, r14, hi, idxA, q2, b1, b3, hfl, hc, p2, p3, undef]
        have q := no (by simpa using ska)
        refine fin _ ?_ ?_ ?_ ?_ ?_ ?_ ?_ ?_ <;> simp [r0, r1, r2, r3, r10, r12, r13, r14, q, ws]
    · subst hcc
      by_cases ha : 3 ≤ ago
      · obtain ⟨dg, og, bg, rg, ogn, p4, p5, p6, p7, p8⟩ := yes (by simp [ska, hfl, ha])
        subst p4
        have p9 : ¬ (gots L cb ago limit L.length).length ≤ (gots L cb ago limit i).length := by omega
        have w2 : IntKind.i64.wrap (2 * (i : Int)) = 2 * (i : Int) := IntWalk.i64_in _ (by omega)
        simp [r0, r1, r2, r3, r10, r12, r13, r14, hi, idxA, q2, b1, b3, hfl, hc, ha, p5, p6, p7, p9, w2, undef]
        refine fin _ ?_ ?_ ?_ ?_ ?_ ?_ ?_ ?_ <;> simp [r0, r1, r2, r3, r10, r12, r13, r14, p8, ws, wk]
      · cases V
        · obtain ⟨dg, og, bg, rg, ogn, p4, p5, p6, p7, p8⟩ := yes (by simp [ska, hfl, ha])
          subst p4
          have p9 : ¬ (gots L cb ago limit L.length).length ≤ (gots L cb ago limit i).length := by omega
          have w2 : IntKind.i64.wrap (2 * (i : Int)) = 2 * (i : Int) := IntWalk.i64_in _ (by omega)
          simp [r0, r1, r2, r3, r10, r12, r13, r14, hi, idxA, q2, b1, b3, hfl, hc, ha, p5, p6, p7, p9, w2, undef]
          refine fin _ ?_ ?_ ?_ ?_ ?_ ?_ ?_ ?_ <;> simp [r0, r1, r2, r3, r10, r12, r13, r14, p8, ws, wk]
        · simp [r0, r1, r2, r3, r10, r12, r13, r14, hi, idxA, q2, b1, b3, hfl, hc, ha, undef]
          have q := no (by simp [ska, ha])
          refine fin _ ?_ ?_ ?_ ?_ ?_ ?_ ?_ ?_ <;> simp [r0, r1, r2, r3, r10, r12, r13, r14, q, ws]
  · have hie : i = L.length := by omega
    subst hie
    simp [r0, r12, r13, r14]
end Go.Proofs.Ytbhhmnokddkhmaa
