/- FlowCarries: a fate pushes. -/
import Derived.Test.YtidgbapgedegbaaCg
import Derived.Test.YtidgbapgedegbaaIc
import Derived.KernelRfl
namespace Go.Proofs.Ytidgbapgedegbaa.Fw
open Go Go.AS Ou
set_option maxRecDepth 100000
set_option linter.unusedSimpArgs false
set_option linter.unusedVariables false
attribute [local irreducible] Trie.set Trie.get Env.rd
attribute [local simp] Nat.add_assoc wD_cons'' wD_nil' wC_seq wC_ops wC_opsD_nil wC_cond wC_skip wC_ret wC_exit wC_block wO_cons' wO_nil wantedA wV_eq lop qop ev wL_some wL_none wPut envOf rd_set rd_leaf eqA thenC blockC wB_true wB_false endF unwindA resultsA resA tupleA rdCell rdCells wrCells cl fillP lay rep binA unA get_set' AHeap.get_alloc oneCell beqd bned idxA

structure Dn (room : Nat) (L L' : Ln) : Prop where
  ok : LnOk room L'
  pu : L'.pu.length ≤ L.pu.length + 40
  many : L'.tg + L'.ps.length ≤ L.tg + L.ps.length + 1
  th : L'.there.length ≤ 60
  bk : L'.back.length ≤ 60
theorem Nx.dn {room : Nat} {L L' : Ln} (h : Nx room L L') : Dn room L L' := ⟨h.ok, by rw [h.pu]; omega, by rw [h.many]; omega, h.th, h.bk⟩
def LnA (A : AHeap) (p pa pb z : Nat) (L : Ln) : Prop := LnAt A p pa pb z L ((L.tg + L.ps.length : Nat) : Int)

theorem doesA_ok {A : AHeap} {p pa pb z : Nat} {L : Ln} {room : Nat} {Q : Value → AHeap → Prop} (env : Env) (q : Nat) (w n : Value) (s : List UInt8) (h : LnA A p pa pb z L) (ok : LnOk room L) (h60 : L.there.length ≤ 60) (k60 : L.back.length ≤ 60) (hp : L.pu.length + 40 < 100000) (hf : L.tg + L.ps.length + 1 < 1000)
    (r0 : env.rd 0 = .pointer (some ⟨p, 0, none⟩)) (r3 : env.rd 3 = .pointer (some ⟨q, 0, none⟩)) (gq : A.get q = some (.cells [w, n, .string ⟨⟨s⟩⟩] false 0))
    (hq : ∀ A' w L', LnA A' p pa pb z L' → Dn room L L' → Ext (fun j => z ≤ j) A A' → Q w A') :
    wC T 55 none c55a { env := env, n := 131, dfs := [], A := A } (blockC 0 (endF [] Q)) := by
  have h0 := h
  obtain ⟨tv, bv, gv, Sa, Sb, C, gp, pt⟩ := h
  have zz := LnAt.zp pt
  have lp := AHeap.get_lt gp
  have lq := AHeap.get_lt gq
  have gp' := gp
  simp only [lnc] at gp'
  have m1 : foldV minV (.int .i64 (s.length : Int)) [.int .i64 40] = some (.int .i64 ((min s.length 40 : Nat) : Int)) := by
    simp only [foldV, minV]; congr 2; omega
  have zs := sl_to s .i64 (min s.length 40) (by omega)
  obtain ⟨t, ht⟩ : ∃ t, s.take (min s.length 40) = t := ⟨_, rfl⟩
  have t40 : t.length ≤ 40 := by rw [← ht, List.length_take]; omega
  rw [ht] at zs
  unfold c55a
  simp [r0, r3, gq, lq, m1, zs]
  by_cases ht0 : t = []
  · subst ht0
    simp
    exact hq A _ L h0 (Nx.refl ok h60 k60).dn Ext.refl
  · have te : t.isEmpty = false := by cases t with
      | nil => exact absurd rfl ht0
      | cons a b => rfl
    simp [te, r0, gp', lp]
    refine push_ok' t ((L.tg + L.ps.length : Nat) : Int) pt.a ok.fok (fun c => by rw [ok.a2] at c; cases c) fun _ A1 Sa' ha1 e1 hS => ?_
    rw [if_neg ht0, IntWalk.i64_in _ (by omega)] at ha1
    have hl : ((L.pu.length : Int) + (t.length : Int)) = (((L.pu ++ t).length : Nat) : Int) := by rw [List.length_append]; omega
    rw [hl] at ha1
    obtain ⟨C1, pt1⟩ := pt.setA (fa' := L.fa) (pu' := L.pu ++ t) (un' := L.un) (tA' := L.tA) e1 ha1 fun j hj => (hS j hj).imp id fun q => q.1
    have gp1 := e1.get gp fun q => by have := pt.c.a p q; have := pt.c.p; omega
    have lp1 := AHeap.get_lt gp1
    simp only [lnc] at gp1
    have w1 : IntKind.i64.wrap ((L.tg : Int) + (L.ps.length : Int) + 1) = (L.tg : Int) + (L.ps.length : Int) + 1 := IntWalk.i64_in _ (by omega)
    simp [r0, gp1, lp1, w1]
    generalize hA2 : AHeap.set A1 p _ = A2
    obtain ⟨g2, e2, z2⟩ := Ou.set_facts lp1 hA2
    have pt2 := pt1.extP e2
    have lp2 := AHeap.get_lt g2
    have mx : ¬ 9223372036854775807 < L.pu.length + t.length := by omega
    have mx2 : ¬ (9223372036854775807 : Int) < (L.pu.length : Int) + t.length := by omega
    simp [r0, g2, lp2, mx, mx2]
    generalize hA3 : AHeap.set A2 p _ = A3
    obtain ⟨g3, e3, z3⟩ := Ou.set_facts lp2 hA3
    have pt3 := pt2.extP e3
    refine hq A3 _ { L with ps := L.ps ++ [⟨L.pu.length, ((L.tg + L.ps.length : Nat) : Int), ⟨⟨t⟩⟩⟩], pu := L.pu ++ t } ⟨_, _, _, Sa', Sb, C1, by rw [g3]; simp [lnc] <;> omega, pt3⟩ ⟨ok.push ht0 t40 (by omega) (by omega), by simp <;> omega, by simp <;> omega, h60, k60⟩ ?_
    have s1 := e1.size
    refine ⟨by omega, fun j hj hz => ?_⟩
    rw [e3.keep j (by omega) (fun q => hz (by omega)), e2.keep j (by omega) (fun q => hz (by omega)), e1.keep j hj (fun q => hz (zz.2.1 j q))]
end Go.Proofs.Ytidgbapgedegbaa.Fw
