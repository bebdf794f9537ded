/- FlowCarries: an answer comes. -/
import Derived.Test.YtidgbapgedegbaaCe
import Derived.KernelRfl
namespace Go.Proofs.Ytidgbapgedegbaa.Fw
open Go Go.AS Ou
set_option maxRecDepth 100000
set_option linter.unusedSimpArgs false
set_option linter.unusedVariables false
attribute [local irreducible] Trie.set Trie.get Env.rd
attribute [local simp] Nat.add_assoc wD_cons'' wD_nil' wC_seq wC_ops wC_opsD_nil wC_cond wC_skip wC_ret wC_exit wC_block wO_cons' wO_nil wantedA wV_eq lop qop ev wL_some wL_none wPut envOf rd_set rd_leaf eqA thenC blockC wB_true wB_false endF unwindA resultsA resA tupleA rdCell rdCells wrCells cl fillP lay rep binA unA get_set' AHeap.get_alloc oneCell beqd bned idxA

theorem ints_app (a b : List Int) : ints (a ++ b) = ints a ++ ints b := by simp [ints]
theorem upto_app (n m : Nat) : upto n ++ (upto (n + m)).drop n = upto (n + m) := by
  have : upto n = (upto (n + m)).take n := by
    refine List.ext_getElem (by simp [upto_len]) fun i i1 i2 => ?_
    rw [List.getElem_take]; simp [upto]
  rw [this, List.take_append_drop]
theorem ints_len (l : List Int) : (ints l).length = l.length := by simp [ints]

theorem comesB_ok {A : AHeap} {p pa pb z : Nat} {L : Ln} {room : Nat} {Q : Value → AHeap → Prop} (env : Env) (k : Nat) (stays : Bool) (h : LnAt A p pa pb z L ((L.tg + L.ps.length : Nat) : Int)) (ok : LnOk room L) (hk : k < L.back.length) (h60 : L.there.length ≤ 60) (k60 : L.back.length ≤ 60)
    (r0 : env.rd 0 = .pointer (some ⟨p, 0, none⟩)) (r1 : env.rd 1 = .int .i64 ((L.there.length + k : Nat) : Int)) (r2 : env.rd 2 = .bool stays)
    (hq : ∀ A' w L', LnAt A' p pa pb z L' ((L'.tg + L'.ps.length : Nat) : Int) → Nx room L L' → Ext (fun j => z ≤ j) A A' → Q w A') :
    wC T 109 none c109b { env := env, n := 111, dfs := [], A := A } (endF [] Q) := by
  obtain ⟨tv, bv, gv, Sa, Sb, C, gp, pt⟩ := h
  have zz := LnAt.zp pt
  have lp := AHeap.get_lt gp
  have gp' := gp
  simp only [lnc] at gp'
  obtain ⟨d, o, c, bs, ro, opn, z1, z2, z3, z4⟩ := pt.k.read.elem2 hk
  have z3' : o + (k * 12 + 12) ≤ bs.length := by omega
  rw [encs_at sgcz _ k hk] at z4
  simp only [sgc] at z4
  obtain ⟨x, hx⟩ : ∃ x, L.back[k] = x := ⟨_, rfl⟩
  rw [hx] at z4
  have xok := ok.back x (by rw [← hx]; exact List.getElem_mem _)
  obtain ⟨t1, t2, t3, t4, _, ok2⟩ := ok.toA xok
  obtain ⟨ta, tc, ht⟩ := pt.t.read.val
  obtain ⟨ga, gc, hg⟩ := pt.g.read.val
  subst z1; subst ht; subst hg
  have w0 : IntKind.i64.wrap ((L.there.length : Int) + (k : Int) - (L.there.length : Int)) = k := by rw [IntWalk.i64_in _ (by omega)]; omega
  have w0' : IntKind.i64.wrap (k : Int) = k := IntWalk.i64_in _ (by omega)
  unfold c109b
  simp [r0, r1, gp', w0]
  refine wC_opsD_chk ?_
  simp [r0, r1, gp', lp, z2, z3', z4, hk, w0, w0']
  refine take_ok x (by rw [xok.2.2.1]; decide) pt.a ok.fok (by show (0 : Int) ≤ ((L.tA.base : Nat) : Int) ∧ ((L.tA.base : Nat) : Int) ≤ _; rw [ok.tA0]; decide) fun A1 sv ha1 st1 e1 o1 => ?_
  rw [t1, t2] at ha1
  generalize psT L.fa L.ps L.pu.length L.un x = ps' at *
  generalize unT L.fa L.pu.length L.un x = un' at *
  generalize tagsT L.fa L.ps L.pu.length L.un x = tags at *
  obtain ⟨C1, pt1⟩ := pt.setA (fa' := L.fa) (ps' := ps') (pu' := L.pu) (un' := un') (tA' := L.tA) e1 ha1 fun j hj => .inl hj
  have gp1 := e1.get gp fun q => by have := pt.c.a p q; have := pt.c.p; omega
  have few := ok2.few
  have few0 := ok.few
  simp only at few
  obtain ⟨v2, A2, c1, c2, c3, c4⟩ := pt1.g.append (bytes := 8) (x := sv) (m := tags.length) (new := ints tags) (by decide) st1.read.lenA (by rw [st1.read.firstA (Nat.le_refl _), List.take_of_length_le (by simp [ints_len])]) (int1 _) (by simp [ints_len]) (by show L.tg + tags.length ≤ _; omega) (by decide) (fun _ => rfl)
  have ev : ints (upto L.tg) ++ ints tags = ints (upto (L.tg + tags.length)) := by
    rw [← ints_app]; congr 1
    have := upto_app L.tg tags.length
    rw [← t3] at this; exact this
  simp only at c1 c2 c3 c4
  rw [ev] at c2
  obtain ⟨a2, n2, hv2⟩ := c2.read.val
  subst hv2
  obtain ⟨C2, pt2⟩ := pt1.setG (tg' := L.tg + tags.length) c3 c2 c4
  have gp2 := c3.get gp1 fun q => by have := pt1.c.g p q; have := pt1.c.p; omega
  have lp2 := AHeap.get_lt gp2
  obtain ⟨sa, sc, hsv⟩ := st1.read.val
  subst hsv
  simp only [lnc] at gp1 gp2
  simp [c1, gp1, gp2, lp2]
  refine wE_intro ?_ ?_
  · simp only [List.all_cons, List.all_nil, chkOk, List.nil_append, List.cons_append, List.getElem?_cons_succ, List.getElem?_cons_zero]
    simp [Bx, gp1, gp2, gp', vbeq]
  simp [lp2]
  generalize hA3 : AHeap.set A2 p _ = A3
  obtain ⟨g3, e3, z3⟩ := Ou.set_facts lp2 hA3
  have pt3 := pt2.extP e3
  have few3 : L.tg + tags.length + ps'.length = L.tg + L.ps.length := by omega
  have all3 : Ext (fun j => z ≤ j) A A3 := by
    have s1 := e1.size
    have s2 := c3.size
    have s3 := e3.size
    refine ⟨by omega, fun j hj hz => ?_⟩
    rw [e3.keep j (by omega) (fun q => hz (by omega)), c3.keep j (by omega) (fun q => hz (zz.2.2.2.2.2 j q)), e1.keep j hj (fun q => hz (zz.2.1 j q))]
  cases stays with
  | true =>
    simp [r2]
    refine hq A3 _ { L with ps := ps', un := un', tg := L.tg + tags.length } ⟨_, _, _, Sa, Sb, C2, by rw [g3]; simp [lnc]; omega, pt3⟩ ⟨ok2, rfl, few3, h60, k60⟩ all3
  | false =>
    obtain ⟨v1, v2, A4, v3, v4, A5, q1, q2, q3, q4, q5, q6, q7, q8, q9, q10, q11, q12⟩ := slice_out (k1 := .i64) (k2 := .i64) pt3.k hk (by show L.back.length < 1000000; omega)
    have w1 : IntKind.i64.wrap ((k : Int) + 1) = (k : Int) + 1 := IntWalk.i64_in _ (by omega)
    rw [show ((k + 1 : Nat) : Int) = (k : Int) + 1 by omega] at q4 q5 q6
    simp [r2, r0, g3]
    obtain ⟨a4, c4', hv4⟩ := q8.read.val
    subst hv4
    obtain ⟨a3, n3, c3', hv3⟩ := sliceVA_val q4
    subst hv3
    refine wC_opsD_chk ?_
    have np : p ≠ A3.size := fun q => by have := pt3.lt; omega
    have gp4 := q10.get g3 id
    have gp5 := q11.get g3 id
    have lp5 := AHeap.get_lt gp5
    simp [r2, r0, g3, q1, q2, q3, q4, q5, q6, q7, np, w1, gp4, gp5, lp5]
    refine wE_intro ?_ ?_
    · simp only [List.all_cons, List.all_nil, chkOk, List.nil_append, List.cons_append, List.getElem?_cons_succ, List.getElem?_cons_zero]
      simp [Bx, g3, gp4, gp5, np, q1, q2, q3, q4, q5, q6, vbeq]
    simp
    generalize hA6 : AHeap.set A5 p _ = A6
    obtain ⟨g6, e6, z6⟩ := Ou.set_facts lp5 hA6
    obtain ⟨C', pt5⟩ := pt3.setK (back' := L.back.take k ++ L.back.drop (k + 1)) (q11.mono fun j _ q => q.elim) q8 (fun j hj => .inr (q12 j hj))
    have pt6 := pt5.extP e6
    have ll : (L.back.take k ++ L.back.drop (k + 1)).length = min k L.back.length + (L.back.length - (k + 1)) := by simp
    refine hq A6 _ { L with ps := ps', un := un', tg := L.tg + tags.length, back := L.back.take k ++ L.back.drop (k + 1) } ⟨_, _, _, Sa, Sb, C', by rw [g6]; simp [lnc]; omega, pt6⟩ ⟨{ ok2 with back := fun y hy => ok2.back y ?_ }, rfl, few3, h60, by rw [ll]; omega⟩ ?_
    · rcases List.mem_append.1 hy with q | q
      · exact List.mem_of_mem_take q
      · exact List.mem_of_mem_drop q
    · have s1 := all3.size
      have s2 := q11.size
      refine ⟨by omega, fun j hj hz => ?_⟩
      rw [e6.keep j (by omega) (fun q => hz (by omega)), q11.keep j (by omega) id, all3.keep j hj hz]
end Go.Proofs.Ytidgbapgedegbaa.Fw
