/- FlowCarries: at last, all comes. -/
import Derived.Test.YtidgbapgedegbaaCm
import Derived.KernelRfl
namespace Go.Proofs.Ytidgbapgedegbaa.Fw
open Go Go.AS Ou
set_option maxRecDepth 100000
set_option linter.unusedSimpArgs false
set_option linter.unusedVariables false
attribute [local irreducible] Trie.set Trie.get Env.rd
attribute [local simp] Nat.add_assoc wD_cons'' wD_nil' wC_seq wC_ops wC_opsD_nil wC_cond wC_skip wC_ret wC_exit wC_block wO_cons' wO_nil wantedA wV_eq lop qop ev wL_some wL_none wPut envOf rd_set rd_leaf eqA thenC blockC wB_true wB_false endF unwindA resultsA resA tupleA rdCell rdCells wrCells cl fillP lay rep binA unA get_set' AHeap.get_alloc oneCell beqd bned idxA

theorem Chain.at (i : Nat) : ∀ (ps : List Pc) (s : Nat) (l : List UInt8) (k : Nat), Chain s ps l → (hk : k < ps.length) → ps[k].at_ = ((s + (lens (ps.take k)).sum : Nat) : Int)
  | p :: ps, s, l, 0, h, _ => by
    obtain ⟨h1, _⟩ := h
    simpa [lens] using h1
  | p :: ps, s, l, k + 1, h, hk => by
    obtain ⟨h1, h2, r, h3, h4⟩ := h
    have := Chain.at i ps _ r k h4 (by simpa using hk)
    simp only [List.getElem_cons_succ, List.take_succ_cons, lens, List.map_cons, List.sum_cons] at this ⊢
    rw [this]; congr 1; omega
theorem num_inj {a m n : Int} (h : num a m = num a n) (hb : -1000000 ≤ n - m ∧ n - m < 1000000) : m = n := by
  have g := gap_num a m n (by omega)
  rw [h] at g
  have : gap (num a n) (num a n) = 0 := by unfold gap; omega
  omega
theorem lens_take (ps : List Pc) (i : Nat) (c : i < ps.length) : (lens (ps.take (i + 1))).sum = (lens (ps.take i)).sum + ps[i].text.data.toList.length := by
  have : ps.take (i + 1) = ps.take i ++ [ps[i]] := by rw [List.take_add_one, List.getElem?_eq_getElem c]; rfl
  rw [this]; simp only [lens, List.map_append, List.map_cons, List.map_nil, List.sum_append, List.sum_cons, List.sum_nil]; omega

section
variable {p pa pb z room : Nat} {L : Ln} {tv bv gv : Value} {Sa Sb : Nat → Prop} {C : Nat → Nat}
def ClI (p pa pb z room : Nat) (L : Ln) (tv bv gv : Value) (Sa Sb : Nat → Prop) (C : Nat → Nat) (A : AHeap) (env : Env) (s0 : Nat) (sv : Value) (k : Nat) (st : St) : Prop := ∃ (i : Nat) (to : List UInt8) (tB : IS), i + k = L.ps.length ∧ st.n = 127 ∧ st.dfs = [] ∧
  (st.env.rd 7 = .pointer (some ⟨pa, 0, none⟩) ∧ st.env.rd 8 = .pointer (some ⟨pb, 0, none⟩) ∧ st.env.rd 9 = .pointer (some ⟨p, 0, none⟩) ∧ st.env.rd 11 = env.rd 11) ∧ st.env.rd 12 = sv ∧ st.env.rd 14 = .int .i64 (i : Nat) ∧
  st.A.get p = some (.cells (lnc pa pb { L with to := to, tB := tB } ((L.tg + L.ps.length : Nat) : Int) tv bv gv) false 0) ∧ Pt st.A p pa pb z { L with to := to, tB := tB } tv bv gv Sa Sb C ∧ LnOk room { L with to := to, tB := tB } ∧ Ext (fun j => j = p ∨ Sb j) A st.A ∧ s0 + (lens (L.ps.take i)).sum ≤ tB.base

theorem carryQ_ok {A : AHeap} (env : Env) (P : AExit → St → Prop) (h : LnA A p pa pb z L) (ok : LnOk room L) (rm1 : 40 ≤ room) (rm2 : room ≤ 139) (h60 : L.there.length ≤ 60) (k60 : L.back.length ≤ 60)
    (r7 : env.rd 7 = .pointer (some ⟨pa, 0, none⟩)) (r8 : env.rd 8 = .pointer (some ⟨pb, 0, none⟩)) (r9 : env.rd 9 = .pointer (some ⟨p, 0, none⟩))
    (hq : ∀ (A' : AHeap) (e : Env) (L' : Ln), e.rd 7 = .pointer (some ⟨pa, 0, none⟩) → e.rd 8 = .pointer (some ⟨pb, 0, none⟩) → e.rd 9 = .pointer (some ⟨p, 0, none⟩) → e.rd 11 = env.rd 11 → LnA A' p pa pb z L' → LnOk room L' → L'.ps = [] → P .normal { env := e, n := 127, dfs := [], A := A' }) :
    wC T 13 none c13q { env := env, n := 127, dfs := [], A := A } P := by
  obtain ⟨tv, bv, gv, Sa, Sb, C, gp, pt⟩ := h
  have gp' := gp
  simp only [lnc] at gp'
  have lp := AHeap.get_lt gp
  have few := ok.few
  have pl := ok.pl
  obtain ⟨P0, P1, ch1, ch2, ch3⟩ := ok.ch
  have cl : L.pu.length = P0.length + P1.length := by rw [ch1, List.length_append]
  unfold c13q
  simp [r7]
  refine due_ok' pt.a ok.fok fun A1 lv gv2 sl _ e1 ol _ _ => ?_
  rw [dueS_run ok] at sl
  have ml : (L.ps.map (segP L.fa (L.pu.length : Int) 0)).length = L.ps.length := List.length_map ..
  have gp1 := e1.get gp id
  have pt1 := pt.extN e1
  obtain ⟨sa, sc, hsv⟩ := sl.read.val
  rw [ml] at hsv sl
  subst hsv
  simp
  have b0 : P0.length ≤ L.tB.base := by have := ok.un; omega
  refine wC_loop_inv (ClI p pa pb z room L tv bv gv Sa Sb C A1 env P0.length (.slice sa L.ps.length sc)) ?_ L.ps.length _ ⟨0, L.to, L.tB, by omega, rfl, rfl, ⟨by simp [r7], by simp [r8], by simp [r9], by simp⟩, by simp, by simp, gp1, pt1, ok, Ext.refl, by simpa [lens] using b0⟩
  rintro k ⟨env', nn, dfs, A2⟩ ⟨i, to, tB, q1, s1, s2, ⟨q7, q8, q9, q11⟩, q12, q14, gp2, pt2, ok2, ex, bd⟩
  simp only at s1 s2 q7 q8 q9 q11 q12 q14 gp2 pt2 ex
  subst s1; subst s2
  by_cases c : i < L.ps.length
  · have sl2 := sl.ext ex fun j hj q => by
      have := ol j hj
      rcases q with q | q
      · omega
      · have := pt.b.own q; omega
    obtain ⟨d, o, cc, bs, ro, opn, z1, z2, z3, z4⟩ := sl2.read.elem2 c
    cases z1
    rw [encs_at sgcz _ i (by rw [ml]; exact c)] at z4
    have z3' : o + (i * 12 + 12) ≤ bs.length := by omega
    obtain ⟨x, hx⟩ : ∃ x, (L.ps.map (segP L.fa (L.pu.length : Int) 0))[i]'(by rw [ml]; exact c) = x := ⟨_, rfl⟩
    rw [hx] at z4
    simp only [sgc] at z4
    have xok := ok.due x (by rw [← hx]; exact List.getElem_mem _)
    have xs : x.seq = num L.fa.isn L.ps[i].at_ ∧ x.data.data.toList = L.ps[i].text.data.toList := by rw [← hx, List.getElem_map]; exact ⟨rfl, rfl⟩
    have at_ := Chain.at 0 _ _ _ i ch2 c
    have lt := lens_take L.ps i c
    have lle : (lens (L.ps.take i)).sum + L.ps[i].text.data.toList.length ≤ P1.length := by
      rw [← lt, ← Chain.sum _ _ _ ch2]
      have : lens L.ps = lens (L.ps.take (i + 1)) ++ lens (L.ps.drop (i + 1)) := by
        simp only [lens]; rw [← List.map_append, List.take_append_drop]
      rw [this, List.sum_append]; omega
    obtain ⟨t1, t2, t3, n, t4, t4', t5, ok3⟩ := ok2.toB xok
    have nn : n = P0.length + (lens (L.ps.take i)).sum := by
      have e := xs.1
      rw [t4, at_] at e
      simp only at t4'
      have := num_inj e (by omega)
      omega
    have bl2 := ok2.bl
    simp only at bl2
    simp [q7, q8, q9, q12, q14, c, idxA, z2, z3', z4]
    refine take_ok x (by have := xok.2.2.2.1; omega) pt2.b flOk0 (by show (0 : Int) ≤ ((tB.base : Nat) : Int) ∧ ((tB.base : Nat) : Int) ≤ _; omega) fun A3 sv hb3 _ e3 _ => ?_
    rw [t1, t2, t3, t5] at hb3
    obtain ⟨tB', htB⟩ : ∃ t : IS, { tB with f := putB room tB.base n x.data.data.toList tB.f } = t := ⟨_, rfl⟩
    simp only [htB] at ok3 hb3
    have pt3 := pt2.setB e3 hb3
    have gp3 := e3.get gp2 fun q => by have := pt2.c.b p q; have := pt2.c.p; omega
    simp [q9]
    refine takesP_ok (L := { L with to := to, tB := tB' }) gp3 pt3 ok3 200 fun A4 w l nx a1 a2 a3 a4 a5 a6 => ?_
    have bb : tB'.base = tB.base := by rw [← htB]
    simp only at a1 a2
    have nle := (a1.le ok3.dom)
    have nx2 : n + x.data.data.toList.length ≤ nx := by
      refine put_next (base := tB.base) (room := room) (f := tB.f) ?_ (by omega) (by have := xok.2.2.2.1; omega)
      rw [bb, ← htB] at a1; exact a1
    simp only at nle
    have nb := a1.1
    have w2 : IntKind.i64.wrap ((i : Int) + 1) = ((i + 1 : Nat) : Int) := IntWalk.i64_in _ (by omega)
    simp [q14]
    refine ⟨k - 1, by omega, i + 1, to ++ l, skipS tB' (tB'.base + l.length), by omega, rfl, rfl, ⟨by simp [q7], by simp [q8], by simp [q9], by simp [q11]⟩, by simp [q12], by simpa using w2, a3, a4, a5, (ex.trans (e3.mono fun j _ q => .inr q)).trans a6, ?_⟩
    rw [lt]
    have : (skipS tB' (tB'.base + l.length)).base = tB'.base + l.length := rfl
    rw [this]
    have := xs.2
    rw [this] at nx2
    omega
  · simp [q7, q8, q9, q12, q14, c]
    have bl2 := ok2.bl
    have ii : i = L.ps.length := by omega
    have sm := Chain.sum _ _ _ ch2
    rw [ii, List.take_of_length_le (Nat.le_refl _), sm] at bd
    simp only at bl2
    have bend : tB.base = L.pu.length := by omega
    refine wC_opsD_chk ?_
    obtain ⟨ga, gc, hg⟩ := pt2.g.read.val
    subst hg
    simp only [lnc] at gp2
    have lp2 := AHeap.get_lt gp2
    simp [q7, q8, q9, gp2, lp2]
    refine seg_ok' false true pt2.b flOk0 fun A3 e3 => ?_
    have iN : inlN (some tB) = tB.base := rfl
    simp only [iN]
    obtain ⟨x, hx⟩ : ∃ x, segOf L.fb 0 (tB.base : Int) false true = x := ⟨_, rfl⟩
    have xok := ok2.ack
    simp only [hx] at xok
    rw [hx]
    have xk : x.ack = num L.fa.isn L.pu.length := by rw [← hx, bend]; simp [segOf, ok.b1, ok.pe]
    have pt3 := pt2.extN e3
    have gp3 := e3.get gp2 id
    obtain ⟨t1, t2, t3, t4, t5, ok3⟩ := ok2.toA xok
    simp only at t1 t2 t3 t4 t5 ok3
    have pse := t5 xk
    simp [q7]
    refine take_ok x (by rw [xok.2.2.1]; decide) pt3.a ok2.fok (by show (0 : Int) ≤ ((L.tA.base : Nat) : Int) ∧ ((L.tA.base : Nat) : Int) ≤ _; rw [ok.tA0]; decide) fun A4 sv ha4 st4 e4 o4 => ?_
    simp only [t1, t2] at ha4 st4
    generalize psT L.fa L.ps L.pu.length L.un x = ps' at *
    generalize unT L.fa L.pu.length L.un x = un' at *
    generalize tagsT L.fa L.ps L.pu.length L.un x = tags at *
    subst pse
    obtain ⟨C1, pt4⟩ := pt3.setA (fa' := L.fa) (ps' := []) (pu' := L.pu) (un' := un') (tA' := L.tA) e4 ha4 fun j hj => .inl hj
    have gp4 := e4.get gp3 fun q => by have := pt3.c.a p q; have := pt3.c.p; omega
    have few3 := ok3.few
    simp only at few3
    obtain ⟨v2, A5, c1, c2, c3, c4⟩ := pt4.g.append (bytes := 8) (x := sv) (m := tags.length) (new := ints tags) (by decide) st4.read.lenA (by rw [st4.read.firstA (Nat.le_refl _), List.take_of_length_le (by simp [ints_len])]) (int1 _) (by simp [ints_len]) (by show L.tg + tags.length ≤ _; omega) (by decide) (fun _ => rfl)
    have ev : ints (upto L.tg) ++ ints tags = ints (upto (L.tg + tags.length)) := by
      rw [← ints_app]; congr 1
      have := upto_app L.tg tags.length
      rw [← t3] at this; exact this
    simp only at c1 c2 c3 c4
    rw [ev] at c2
    obtain ⟨a2, n2, hv2⟩ := c2.read.val
    subst hv2
    obtain ⟨C2, pt5⟩ := pt4.setG (tg' := L.tg + tags.length) c3 c2 c4
    have gp5 := c3.get gp4 fun q => by have := pt4.c.g p q; have := pt4.c.p; omega
    have lp5 := AHeap.get_lt gp5
    obtain ⟨sa4, sc4, hsv⟩ := st4.read.val
    subst hsv
    simp [c1, gp4, gp5, lp5]
    refine wE_intro ?_ ?_
    · simp only [List.all_cons, List.all_nil, chkOk, List.nil_append, List.cons_append, List.getElem?_cons_succ, List.getElem?_cons_zero]
      simp [Bx, gp2, gp3, gp4, gp5, vbeq]
    simp [lp5]
    generalize hA6 : AHeap.set A5 p _ = A6
    obtain ⟨g6, e6, z6⟩ := Ou.set_facts lp5 hA6
    have pt6 := pt5.extP e6
    have hL : LnA A6 p pa pb z { L with to := to, tB := tB, ps := [], un := un', tg := L.tg + tags.length } := ⟨_, _, _, Sa, Sb, C2, by rw [g6]; simp [lnc]; simp at t4; omega, pt6⟩
    simp [q9]
    refine right_ok hL ok3 fun A7 e7 => ?_
    simp
    refine hq A7 _ _ ?_ ?_ ?_ ?_ (hL.ext0 e7) ok3 rfl
    all_goals simp [q7, q8, q9, q11]
end
end Go.Proofs.Ytidgbapgedegbaa.Fw
