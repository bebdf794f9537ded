/- FlowEnds: segments come. -/
import Derived.Test.YtidgbapgedegbaaEb
import Derived.KernelRfl
namespace Go.Proofs.Ytidgbapgedegbaa.Fw
open Go Go.AS Ou
set_option maxRecDepth 100000
set_option linter.unusedSimpArgs false
set_option linter.unusedVariables false
attribute [local irreducible] Trie.set Trie.get Env.rd
attribute [local simp] Nat.add_assoc wD_cons'' wD_nil' wC_seq wC_ops wC_opsD_nil wC_cond wC_skip wC_ret wC_exit wC_block wO_cons' wO_nil wantedA wV_eq lop qop ev wL_some wL_none wPut envOf rd_set rd_leaf eqA thenC blockC wB_true wB_false endF unwindA resultsA resA tupleA rdCell rdCells wrCells cl fillP lay rep binA unA get_set' AHeap.get_alloc oneCell beqd bned idxA

theorem takeB {fb : Fl} {x : Sg} (h1 : x.ackOn = true) (h2 : x.ack = num fb.isn 0) (h3 : fb.fin = false) : faT fb 0 0 x = fb.fa ∧ psT fb [] 0 0 x = [] ∧ unT fb 0 0 x = 0 := by
  have ac : accS fb 0 0 x = some 0 := by
    unfold accS
    rw [h2, gap_num _ _ _ (by decide), if_pos ⟨h1, by decide, by rw [h3]; decide⟩]; rfl
  refine ⟨?_, ?_, ?_⟩
  · unfold faT; rw [ac]; simp
  · unfold psT; rw [ac]; simp
  · unfold unT; rw [ac]; simp

def QlI (pb : Nat) (fb : Fl) (all : List UInt8) (ps : List Pc) (Sb : Nat → Prop) (sv : Value) (A : AHeap) (env : Env) (k : Nat) (st : St) : Prop := ∃ la lb, k ≤ ps.length + 1 ∧ all = la ++ lb ∧ Chain 0 (ps.take (min k ps.length)) la ∧ Chain la.length (ps.drop (min k ps.length)) lb ∧ st.n = 272 ∧ st.dfs = [] ∧
  (st.env.rd 2 = env.rd 2 ∧ st.env.rd 7 = env.rd 7 ∧ st.env.rd 8 = .pointer (some ⟨pb, 0, none⟩) ∧ st.env.rd 9 = env.rd 9 ∧ st.env.rd 12 = env.rd 12 ∧ st.env.rd 16 = env.rd 16) ∧ st.env.rd 14 = sv ∧ st.env.rd 17 = .int .i64 ((k : Int) - 1) ∧
  FlowAt st.A pb fb [] 0 0 (some (gotI all la.length)) Sb ∧ Ext Sb A st.A

theorem ends_q (all : List UInt8) (hal : all.length ≤ 400) (A : AHeap) (env : Env) (by_ : Nat) (hby : by_ < 256) (pa pb ov fi : Nat) (fa fb : Fl) (ps : List Pc) (tA : IS) (Sa Sb : Nat → Prop) (over : Sg) (sv : Value)
    (ha : FlowAt A pa fa ps all.length 0 (some tA) Sa) (hb : FlowAt A pb fb [] 0 0 (some (inl0 2048)) Sb) (ch : Chain 0 ps all) (few : ps.length < 1000) (dj : ∀ j, Sa j → ¬ Sb j) (a1 : fa.state = 3) (a2 : fa.fin = true) (a3 : fa.fa = false) (a4 : fa.ft = false) (nA : tA.base = 0) (b1 : fb.ft = false) (b2 : fb.fin = false) (pe : fb.peer = fa.isn) (pe2 : fa.peer = fb.isn)
    (gov : A.get ov = some (.cells over.cells false 0)) (gfi : A.get fi = some (.cells (segF fa all.length 0).cells false 0)) (nov : ¬ Sa ov ∧ ¬ Sb ov) (nfi : ¬ Sa fi ∧ ¬ Sb fi) (nof : fi ≠ ov) (o1 : over.ackOn = true) (o2 : over.ack = num fa.isn (all.length + 1))
    (hsv : SliceAt A 12 sv (ps.length + 1) (encs sgc (ps.map (segP fa all.length 0) ++ [segF fa all.length 0]))) (nsv : ∀ j, Own sv j → ¬ Sa j ∧ ¬ Sb j)
    (r2 : env.rd 2 = .int .u8 (by_ : Nat)) (r7 : env.rd 7 = .pointer (some ⟨pa, 0, none⟩)) (r8 : env.rd 8 = .pointer (some ⟨pb, 0, none⟩)) (r9 : env.rd 9 = .string ⟨⟨all⟩⟩) (r12 : env.rd 12 = .pointer (some ⟨ov, 0, none⟩)) (r14 : env.rd 14 = sv) (r16 : env.rd 16 = .pointer (some ⟨fi, 0, none⟩)) :
    wC T 12 none c12q { env := env, n := 272, dfs := [], A := A } (endF [.inl 6] fun v _ => v = .bool true) := by
  have inB : inlN (some (inl0 2048)) = 0 := rfl
  have bg : beg fb (0 : Int) (segF fa all.length 0) = all.length := by
    unfold beg segF
    rw [pe, gap_num _ _ _ (by omega)]; omega
  have dl : (segF fa (all.length : Int) 0).data.data.toList = [] := rfl
  have sF : (segF fa (all.length : Int) 0).fin = true := rfl
  unfold c12q
  simp [r16, gfi, sF, r8]
  have df : (segF fa (all.length : Int) 0).data.data = #[] := rfl
  simp [df, r16, gfi, r8]
  refine finAt_ok _ hb (by rw [inB]; omega) (by rw [dl]; simp) fun A1 e1 => ?_
  rw [inB, bg, dl, if_pos ⟨rfl, rfl⟩]
  have m0 : max (-1) (all.length : Int) = all.length := by omega
  simp [m0, r9, r8]
  have hb1 := hb.extN e1
  refine flIn_ok hb1 ?_
  obtain ⟨o, So, Si, k1, k2, k3, ⟨i, k4, k5⟩, k6, k7, k8⟩ := id hb1
  simp [k4]
  refine iraw_ok A1 i _ Si _ 9 k5 fun A2 l e2 hl pre => ?_
  have l0 : l = [] := by
    have : ((l.length : Nat) : Int) = max 0 (min 9 (((0 : Nat) : Int) - ((0 : Nat) : Int))) := hl 0 ⟨Nat.le_refl _, rfl, fun k h1 h2 => by omega⟩
    exact List.length_eq_zero_iff.1 (by omega)
  subst l0
  have e12 := e1.trans e2
  have hb2 := hb.extN e12
  have ha2 := ha.extN e12
  have sv2 := hsv.ext e12 fun _ _ => id
  obtain ⟨sa, sc, hsv'⟩ := hsv.read.val
  subst hsv'
  have w1 : IntKind.i64.wrap (((ps.length + 1 : Nat) : Int) - 1) = ((ps.length + 1 : Nat) : Int) - 1 := IntWalk.i64_in _ (by omega)
  simp at w1
  simp [r14, w1]
  have g0 : gotI all all.length = inl0 2048 := by unfold gotI inl0; rw [sufB_end]
  refine wC_loop_inv (QlI pb fb all ps Sb (.slice sa (ps.length + 1) sc) A2 env) ?_ (ps.length + 1) _ ⟨all, [], Nat.le_refl _, by simp, by rw [Nat.min_eq_right (by omega), List.take_of_length_le (Nat.le_refl _)]; exact ch, by rw [Nat.min_eq_right (by omega), List.drop_eq_nil_of_le (Nat.le_refl _)]; rfl, rfl, rfl, ⟨by simp, by simp, by simp [r8], by simp, by simp, by simp⟩, by simp [r14], by simp, by rw [g0]; exact hb2, Ext.refl⟩
  rintro k ⟨env', nn, dfs, A3⟩ ⟨la, lb, kle, hab, c1, c2, s1, s2, ⟨q2, q7, q8, q9, q12, q16⟩, q14, q17, hb3, ex⟩
  simp only at s1 s2 q2 q7 q8 q9 q12 q16 q14 q17 hb3 ex
  subst s1; subst s2
  have sv3 := sv2.ext ex fun j hj q => (nsv j hj).2 q
  have allen : all.length = la.length + lb.length := by rw [hab, List.length_append]
  cases k with
  | zero =>
    rw [Nat.zero_min, List.take_zero] at c1
    have la0 : la = [] := c1
    subst la0
    have ha3 := ha2.ext ex fun j hj q => dj j hj q
    simp [q17]
    refine ends_r all hal A3 _ by_ hby pa pb ov fi fa fb ps tA Sa Sb over ha3 hb3 ch few dj a1 a2 a3 a4 nA b1 b2 pe (ex.get (e12.get gov id) nov.2) (ex.get (e12.get gfi id) nfi.2) nov nfi nof o1 o2 ?_ ?_ ?_ ?_ ?_ ?_
    all_goals simp [q2, q7, q8, q9, q12, q16, r2, r7, r9, r12, r16]
  | succ k =>
    have hk : (0 : Int) ≤ (k : Int) := by omega
    have kb : (k : Int) < (ps.length : Int) + 1 := by omega
    have ll : (ps.map (segP fa (all.length : Int) 0) ++ [segF fa (all.length : Int) 0]).length = ps.length + 1 := by simp
    obtain ⟨d, o', c', bs, ro, opn, z1, z2, z3, z4⟩ := sv3.read.elem2 (show k < ps.length + 1 by omega)
    cases z1
    rw [encs_at sgcz _ k (by rw [ll]; omega)] at z4
    have z3' : o' + (k * 12 + 12) ≤ bs.length := by omega
    have w2 : IntKind.i64.wrap ((k : Int) - 1) = (k : Int) - 1 := IntWalk.i64_in _ (by omega)
    obtain ⟨x, hx⟩ : ∃ x, (ps.map (segP fa (all.length : Int) 0) ++ [segF fa (all.length : Int) 0])[k]'(by rw [ll]; omega) = x := ⟨_, rfl⟩
    rw [hx] at z4
    simp only [sgc] at z4
    have xa : x.ackOn = true ∧ x.ack = num fb.isn 0 ∧ x.syn = false ∧ x.data.data.toList.length < 1000000 ∧ ∃ lc ld, all = lc ++ ld ∧ Chain 0 (ps.take (min k ps.length)) lc ∧ Chain lc.length (ps.drop (min k ps.length)) ld ∧ putB 2048 0 (beg fb 0 x) x.data.data.toList (sufB all la.length) = sufB all lc.length := by
      by_cases hkp : k = ps.length
      · have : x = segF fa all.length 0 := by rw [← hx]; simp [hkp]
        subst this
        refine ⟨rfl, by simp [segF, segOf, a4, pe2], rfl, by rw [dl]; simp, la, lb, hab, ?_, ?_, ?_⟩
        · rw [Nat.min_eq_right (by omega)] at c1 ⊢; exact c1
        · rw [Nat.min_eq_right (by omega)] at c2 ⊢; exact c2
        · rw [dl]; exact putB_nil _ _ _ _
      · have hkl : k < ps.length := by omega
        have : x = segP fa all.length 0 ps[k] := by rw [← hx, List.getElem_append_left (by simpa using hkl)]; simp
        subst this
        rw [Nat.min_eq_left (by omega)] at c1 c2
        rw [List.take_add_one, List.getElem?_eq_getElem hkl, Option.toList_some] at c1
        obtain ⟨lc, lt, h1, h2, h3⟩ := Chain.split _ _ _ _ c1
        obtain ⟨h4, h5, r, h6, h7⟩ := h3
        have r0 : r = [] := h7
        subst r0
        rw [List.append_nil] at h6
        subst h6
        have dat : (segP fa (all.length : Int) 0 ps[k]).data.data.toList = ps[k].text.data.toList := rfl
        have hlen : la.length = lc.length + ps[k].text.data.toList.length := by rw [h1, List.length_append]
        refine ⟨rfl, by simp [segP, segOf, a4, pe2], rfl, by rw [dat]; omega, lc, ps[k].text.data.toList ++ lb, by rw [hab, h1, List.append_assoc], ?_, ?_, ?_⟩
        · rw [Nat.min_eq_left (by omega)]; exact h2
        · rw [Nat.min_eq_left (by omega), List.drop_eq_getElem_cons hkl]
          refine ⟨by rw [h4]; simp, h5, lb, rfl, ?_⟩
          rw [← hlen]; exact c2
        · have bg2 : beg fb 0 (segP fa (all.length : Int) 0 ps[k]) = lc.length := by
            unfold beg segP
            simp only
            rw [pe, gap_num _ _ _ (by rw [h4]; omega), h4]; omega
          rw [bg2, dat, hlen]
          have := sufB_put 2048 lc ps[k].text.data.toList lb (by simp only [List.length_append]; omega)
          rw [hab, h1]; exact this
    obtain ⟨xa1, xa2, xa3, xa4, lc, ld, y1, y2, y3, y4⟩ := xa
    obtain ⟨t1, t2, t3⟩ := takeB xa1 xa2 b2
    simp [q17, q8, q14, hk, kb, z2, z3', z4]
    refine take_ok x xa4 hb3 flOk0 (by show (0 : Int) ≤ ((0 : Nat) : Int) ∧ ((0 : Nat) : Int) ≤ _; decide) fun A4 sv4 hb4 _ e4 _ => ?_
    rw [t1, t2, t3] at hb4
    have i4 : inT fb (some (gotI all la.length)) x = some (gotI all lc.length) := by
      unfold inT putI
      rw [if_neg (by rw [xa3]; decide)]
      have : inlN (some (gotI all la.length)) = 0 := rfl
      rw [this]
      simp only [gotI]
      rw [y4]
    rw [i4] at hb4
    simp [q17]
    refine ⟨k, by omega, lc, ld, by omega, y1, y2, y3, rfl, rfl, ⟨by simp [q2], by simp [q7], by simp [q8], by simp [q9], by simp [q12], by simp [q16]⟩, by simp [q14], by simpa using w2, hb4, ex.trans e4⟩
end Go.Proofs.Ytidgbapgedegbaa.Fw
