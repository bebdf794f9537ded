/- FlowCarries: what is there is taken. -/
import Derived.Test.YtidgbapgedegbaaCc
import Derived.KernelRfl
namespace Go.Proofs.Ytidgbapgedegbaa.Fw
open Go Go.AS Ou
set_option maxRecDepth 100000
set_option linter.unusedSimpArgs false
set_option linter.unusedVariables false
attribute [local irreducible] Trie.set Trie.get Env.rd
attribute [local simp] Nat.add_assoc wD_cons'' wD_nil' wC_seq wC_ops wC_opsD_nil wC_cond wC_skip wC_ret wC_exit wC_block wO_cons' wO_nil wantedA wV_eq lop qop ev wL_some wL_none wPut envOf rd_set rd_leaf eqA thenC blockC wB_true wB_false endF unwindA resultsA resA tupleA rdCell rdCells wrCells cl fillP lay rep binA unA get_set' AHeap.get_alloc oneCell beqd bned idxA

theorem takesP_ok {A : AHeap} {p pa pb z : Nat} {L : Ln} {many : Int} {room : Nat} {Q : Value → AHeap → Prop} {tv bv gv : Value} {Sa Sb : Nat → Prop} {C : Nat → Nat} (gp : A.get p = some (.cells (lnc pa pb L many tv bv gv) false 0)) (pt : Pt A p pa pb z L tv bv gv Sa Sb C) (ok : LnOk room L) (n : Int)
    (hq : ∀ A' w l nx, NextIs L.tB.base L.tB.f nx → (l.length : Int) = max 0 (min n ((nx : Int) - (L.tB.base : Int))) → A'.get p = some (.cells (lnc pa pb { L with to := L.to ++ l, tB := skipS L.tB (L.tB.base + l.length) } many tv bv gv) false 0) → Pt A' p pa pb z { L with to := L.to ++ l, tB := skipS L.tB (L.tB.base + l.length) } tv bv gv Sa Sb C → LnOk room { L with to := L.to ++ l, tB := skipS L.tB (L.tB.base + l.length) } → Ext (fun j => j = p ∨ Sb j) A A' → Q w A') :
    wF T (.func (.func 58) #[] #[]) [.pointer (some ⟨p, 0, none⟩), .int .i64 n] A Q := by
  have lp := AHeap.get_lt gp
  refine wF_func (first := []) (captured := []) t58 ⟨rfl, by decide⟩ ?_
  dsimp only [c58]
  simp [gp, lnc]
  refine flIn_ok pt.b ?_
  obtain ⟨o, So, Si, k1, k2, k3, ⟨i, k4, k5⟩, k6, k7, k8⟩ := id pt.b
  simp [k4]
  refine iraw_ok A i _ Si _ n k5 fun A1 l e1 hl pre => ?_
  obtain ⟨nx, hnx, hnx2⟩ := ok.next
  have ok2 := ok.got pre
  have len := hl nx hnx
  have lle : L.tB.base + l.length ≤ L.pu.length := by simpa [skipS] using ok2.bl
  have pll := ok.pl
  have tl := ok.to_len
  have pt1 := pt.extN e1
  have gp1 := e1.get gp id
  have lp1 := AHeap.get_lt gp1
  have mx : ¬ 9223372036854775807 < L.to.length + l.length := by omega
  have mx2 : ¬ (9223372036854775807 : Int) < (L.to.length : Int) + l.length := by omega
  simp only [lnc] at gp1
  simp [gp1, lp1, mx, mx2]
  generalize hA2 : AHeap.set A1 p _ = A2
  obtain ⟨g2, e2, z2⟩ := Ou.set_facts lp1 hA2
  have pt2 := pt1.extP e2
  simp [g2]
  refine flIn_ok pt2.b ?_
  obtain ⟨o', So', Si', j1, j2, j3, ⟨i', k4', j5⟩, j6, j7, j8⟩ := id pt2.b
  have : i' = i := by rw [k4] at k4'; cases k4'; rfl
  subst this
  simp [k4]
  refine iskip_ok A2 i' _ Si' _ (l.length : Int) j5 fun A3 w to hto hi e3 => ?_
  have hto' : to = L.tB.base + l.length := by omega
  subst hto'
  have hb3 : FlowAt A3 pb L.fb [] 0 0 (some (skipS L.tB (L.tB.base + l.length))) Sb :=
    ⟨o', So', Si', e3.get j1 j7.2.1, j2, j3.ext e3 fun j hj q => j7.2.2 j hj q, ⟨i', k4, hi⟩, j6, j7, fun j hj => Nat.lt_of_lt_of_le (j8 j hj) e3.size⟩
  have e3' : Ext Sb A2 A3 := e3.mono fun j _ q => j6.2.2 j q
  have pt3 := pt2.setB e3' hb3
  have gp3 := e3'.get g2 fun q => by have := pt2.c.b p q; have := pt2.c.p; omega
  simp
  refine hq A3 _ l nx hnx len gp3 ⟨pt3.lt, pt3.zz, pt3.a, pt3.b, pt3.t, pt3.k, pt3.g, pt3.c⟩ ok2 ?_
  refine ⟨Nat.le_trans e1.size (Nat.le_trans e2.size e3.size), fun j hj hz => ?_⟩
  have s1 := e1.size
  have s2 := e2.size
  rw [e3'.keep j (by omega) (fun q => hz (.inr q)), e2.keep j (by omega) (fun q => hz (.inl q)), e1.keep j hj id]

theorem takes_ok {A : AHeap} {p pa pb z : Nat} {L : Ln} {many : Int} {room : Nat} {Q : Value → AHeap → Prop} (h : LnAt A p pa pb z L many) (ok : LnOk room L) (n : Int)
    (hq : ∀ A' w l nx, NextIs L.tB.base L.tB.f nx → (l.length : Int) = max 0 (min n ((nx : Int) - (L.tB.base : Int))) → LnAt A' p pa pb z { L with to := L.to ++ l, tB := skipS L.tB (L.tB.base + l.length) } many → LnOk room { L with to := L.to ++ l, tB := skipS L.tB (L.tB.base + l.length) } → Ext (fun j => z ≤ j) A A' → Q w A') :
    wF T (.func (.func 58) #[] #[]) [.pointer (some ⟨p, 0, none⟩), .int .i64 n] A Q := by
  obtain ⟨tv, bv, gv, Sa, Sb, C, gp, pt⟩ := h
  have key : ∀ j, C j ≠ 0 → z ≤ j := fun j hj => by
    by_cases c : j < z
    · exact absurd (pt.c.z j c) hj
    · omega
  refine takesP_ok gp pt ok n fun A' w l nx a1 a2 a3 a4 a5 a6 => hq A' w l nx a1 a2 ⟨_, _, _, _, _, _, a3, a4⟩ a5 (a6.mono fun j _ q => ?_)
  rcases q with q | q
  · rw [q]; exact key p (by rw [pt.c.p]; decide)
  · exact key j (by rw [pt.c.b j q]; decide)
end Go.Proofs.Ytidgbapgedegbaa.Fw
