/- FlowCarries: a segment comes. -/
import Derived.Test.YtidgbapgedegbaaCs
import Derived.KernelRfl
namespace Go.Proofs.Ytidgbapgedegbaa.Fw
open Go Go.AS Ou
set_option maxRecDepth 100000
set_option linter.unusedSimpArgs false
set_option linter.unusedVariables false
attribute [local irreducible] Trie.set Trie.get Env.rd
attribute [local simp] Nat.add_assoc wD_cons'' wD_nil' wC_seq wC_ops wC_opsD_nil wC_cond wC_skip wC_ret wC_exit wC_block wO_cons' wO_nil wantedA wV_eq lop qop ev wL_some wL_none wPut envOf rd_set rd_leaf eqA thenC blockC wB_true wB_false endF unwindA resultsA resA tupleA rdCell rdCells wrCells cl fillP lay rep binA unA get_set' AHeap.get_alloc oneCell beqd bned idxA

structure Nx (room : Nat) (L L' : Ln) : Prop where
  ok : LnOk room L'
  pu : L'.pu = L.pu
  many : L'.tg + L'.ps.length = L.tg + L.ps.length
  th : L'.there.length ≤ 60
  bk : L'.back.length ≤ 60
theorem LnAt.zp {A : AHeap} {p pa pb z : Nat} {L : Ln} {tv bv gv : Value} {Sa Sb : Nat → Prop} {C : Nat → Nat} (pt : Pt A p pa pb z L tv bv gv Sa Sb C) : z ≤ p ∧ (∀ j, Sa j → z ≤ j) ∧ (∀ j, Sb j → z ≤ j) ∧ (∀ j, Own tv j → z ≤ j) ∧ (∀ j, Own bv j → z ≤ j) ∧ (∀ j, Own gv j → z ≤ j) := by
  have key : ∀ j, C j ≠ 0 → z ≤ j := fun j hj => by
    by_cases c : j < z
    · exact absurd (pt.c.z j c) hj
    · omega
  refine ⟨key p (by rw [pt.c.p]; decide), fun j hj => key j (by rw [pt.c.a j hj]; decide), fun j hj => key j (by rw [pt.c.b j hj]; decide), fun j hj => key j (by rw [pt.c.t j hj]; decide), fun j hj => key j (by rw [pt.c.k j hj]; decide), fun j hj => key j (by rw [pt.c.g j hj]; decide)⟩

theorem comesA_ok {A : AHeap} {p pa pb z : Nat} {L : Ln} {many : Int} {room : Nat} {Q : Value → AHeap → Prop} {K : St → Prop} (env : Env) (k : Nat) (stays : Bool) (h : LnAt A p pa pb z L many) (ok : LnOk room L) (hk : k < L.there.length) (h60 : L.there.length ≤ 60) (k60 : L.back.length ≤ 60)
    (r0 : env.rd 0 = .pointer (some ⟨p, 0, none⟩)) (r1 : env.rd 1 = .int .i64 (k : Nat)) (r2 : env.rd 2 = .bool stays)
    (hq : ∀ A' w L', LnAt A' p pa pb z L' many → Nx room L L' → Ext (fun j => z ≤ j) A A' → Q w A') :
    wC T 109 none c109a { env := env, n := 111, dfs := [], A := A } (thenC K (endF [] Q)) := by
  obtain ⟨tv, bv, gv, Sa, Sb, C, gp, pt⟩ := h
  have zz := LnAt.zp pt
  have lp := AHeap.get_lt gp
  have gp' := gp
  simp only [lnc] at gp'
  obtain ⟨d, o, c, bs, ro, opn, z1, z2, z3, z4⟩ := pt.t.read.elem2 hk
  have z3' : o + (k * 12 + 12) ≤ bs.length := by omega
  rw [encs_at sgcz _ k hk] at z4
  simp only [sgc] at z4
  obtain ⟨x, hx⟩ : ∃ x, L.there[k] = x := ⟨_, rfl⟩
  rw [hx] at z4
  have xok := ok.there x (by rw [← hx]; exact List.getElem_mem _)
  obtain ⟨t1, t2, t3, n, t4, _, t5, ok2⟩ := ok.toB xok
  obtain ⟨tB', htB⟩ : ∃ t : IS, { L.tB with f := putB room L.tB.base n x.data.data.toList L.tB.f } = t := ⟨_, rfl⟩
  rw [htB] at t5 ok2
  subst z1
  unfold c109a
  simp [r0, r1, gp', lp, z2, z3', z4, hk]
  refine take_ok x (by have := xok.2.2.2.1; omega) pt.b flOk0 (by have := ok.bl; have := ok.pl; show (0 : Int) ≤ ((L.tB.base : Nat) : Int) ∧ ((L.tB.base : Nat) : Int) ≤ _; omega) fun A1 sv hb1 _ e1 _ => ?_
  rw [t1, t2, t3, t5] at hb1
  have pt1 := pt.setB e1 hb1
  have gp1 := e1.get gp fun q => by have := pt.c.b p q; have := pt.c.p; omega
  cases stays with
  | true =>
    simp [r2]
    exact hq A1 _ { L with tB := tB' } ⟨_, bv, gv, Sa, Sb, C, gp1, pt1⟩ ⟨ok2, rfl, rfl, h60, k60⟩ (e1.mono fun j _ q => zz.2.2.1 j q)
  | false =>
    obtain ⟨v1, v2, A2, v3, v4, A4, q1, q2, q3, q4, q5, q6, q7, q8, q9, q10, q11, q12⟩ := slice_out (k1 := .i64) (k2 := .i64) pt1.t hk (by have := h60; show L.there.length < 1000000; omega)
    have gp1' := gp1
    simp only [lnc] at gp1'
    have w1 : IntKind.i64.wrap ((k : Int) + 1) = (k : Int) + 1 := IntWalk.i64_in _ (by omega)
    rw [show ((k + 1 : Nat) : Int) = (k : Int) + 1 by omega] at q4 q5 q6
    simp [r2, r0, r1]
    obtain ⟨a4, c4, hv4⟩ := q8.read.val
    subst hv4
    obtain ⟨a3, n3, c3, hv3⟩ := sliceVA_val q4
    subst hv3
    refine wC_opsD_chk ?_
    have np : p ≠ A1.size := fun q => by have := pt1.lt; omega
    have gp2 := q10.get gp1 id
    have gp4 := q11.get gp1 id
    have lp2 := AHeap.get_lt gp2
    have lp4 := AHeap.get_lt gp4
    simp only [lnc] at gp2 gp4
    simp [r2, r0, r1, gp1', q1, q2, q3, q4, q5, q6, q7, np, w1, gp2, gp4, lp4]
    refine wE_intro ?_ ?_
    · simp only [List.all_cons, List.all_nil, chkOk, List.nil_append, List.cons_append, List.getElem?_cons_succ, List.getElem?_cons_zero]
      simp [Bx, gp1', gp2, gp4, np, q1, q2, q3, q4, q5, q6, vbeq]
    simp
    generalize hA5 : AHeap.set A4 p _ = A5
    obtain ⟨g5, e5, z5⟩ := Ou.set_facts lp4 hA5
    obtain ⟨C', pt4⟩ := pt1.setT (there' := L.there.take k ++ L.there.drop (k + 1)) (q11.mono fun j _ q => q.elim) q8 (fun j hj => .inr (q12 j hj))
    have pt5 := pt4.extP e5
    have ll : (L.there.take k ++ L.there.drop (k + 1)).length = min k L.there.length + (L.there.length - (k + 1)) := by simp
    refine hq A5 _ { L with tB := tB', there := L.there.take k ++ L.there.drop (k + 1) } ⟨_, bv, gv, Sa, Sb, C', by rw [g5]; simp [lnc], pt5⟩ ⟨{ ok2 with there := fun y hy => ok2.there y ?_ }, rfl, rfl, by rw [ll]; omega, k60⟩ ?_
    · rcases List.mem_append.1 hy with q | q
      · exact List.mem_of_mem_take q
      · exact List.mem_of_mem_drop q
    · have s1 := e1.size
      have s2 := q11.size
      refine ⟨by omega, fun j hj hz => ?_⟩
      rw [e5.keep j (by omega) (fun q => hz (by omega)), q11.keep j (by omega) id, e1.keep j hj (fun q => hz (zz.2.2.1 j q))]
end Go.Proofs.Ytidgbapgedegbaa.Fw
