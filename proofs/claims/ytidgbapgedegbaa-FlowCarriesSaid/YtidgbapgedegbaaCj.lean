/- FlowCarries: an answer goes out. -/
import Derived.Test.YtidgbapgedegbaaCi
import Derived.KernelRfl
namespace Go.Proofs.Ytidgbapgedegbaa.Fw
open Go Go.AS Ou
set_option maxRecDepth 100000
set_option linter.unusedSimpArgs false
set_option linter.unusedVariables false
attribute [local irreducible] Trie.set Trie.get Env.rd
attribute [local simp] Nat.add_assoc wD_cons'' wD_nil' wC_seq wC_ops wC_opsD_nil wC_cond wC_skip wC_ret wC_exit wC_block wO_cons' wO_nil wantedA wV_eq lop qop ev wL_some wL_none wPut envOf rd_set rd_leaf eqA thenC blockC wB_true wB_false endF unwindA resultsA resA tupleA rdCell rdCells wrCells cl fillP lay rep binA unA get_set' AHeap.get_alloc oneCell beqd bned idxA

theorem seg_app {A : AHeap} {v : Value} {l : List Sg} (x : Sg) (h : SliceAt A 12 v l.length (encs sgc l)) (hn : l.length < 1000000) :
    ∃ v' A', appA (A.alloc (.cells x.cells false 0)) 12 64 v (.slice (some ⟨A.size, 0, none⟩) 1 1) = some (v', A') ∧ SliceAt A' 12 v' (l ++ [x]).length (encs sgc (l ++ [x])) ∧ Ext (Own v) A A' ∧ ∀ j, Own v' j → Own v j ∨ A.size ≤ j := by
  have e1 : Ext NoB A (A.alloc (.cells x.cells false 0)) := Ext.alloc
  have g1 : (A.alloc (.cells x.cells false 0)).get A.size = some (.cells x.cells false 0) := by rw [AHeap.get_alloc, if_pos rfl]
  obtain ⟨v2, A2, a1, s2, e2, o2⟩ := (h.ext e1 fun _ _ q => q).append (m := 1) (bytes := 64) (x := .slice (some ⟨A.size, 0, none⟩) 1 1) (new := x.cells) (by decide) rfl (by simp only [AS.firstA, rdCells, g1]; rfl) rfl rfl (by omega) (by decide) (fun q => by cases q)
  have z2 := e2.size
  simp only [AHeap.size_alloc] at z2
  refine ⟨v2, A2, a1, ?_, (e1.mono fun _ _ q => q.elim).trans e2, fun j hj => (o2 j hj).imp id fun q => ?_⟩
  · have : encs sgc (l ++ [x]) = encs sgc l ++ x.cells := by rw [encs_append]; simp [encs, sgc]
    rw [this, List.length_append]; exact s2
  · simp only [AHeap.size_alloc] at q; omega

theorem doesE_ok {A : AHeap} {p pa pb z : Nat} {L : Ln} {room : Nat} {Q : Value → AHeap → Prop} (env : Env) (h : LnA A p pa pb z L) (ok : LnOk room L) (h60 : L.there.length ≤ 60) (k60 : L.back.length ≤ 60)
    (r0 : env.rd 0 = .pointer (some ⟨p, 0, none⟩))
    (hq : ∀ A' w L', LnA A' p pa pb z L' → Dn room L L' → Ext (fun j => z ≤ j) A A' → Q w A') :
    wC T 55 none c55e { env := env, n := 131, dfs := [], A := A } (blockC 0 (endF [] Q)) := by
  obtain ⟨tv, bv, gv, Sa, Sb, C, gp, pt⟩ := h
  have zz := LnAt.zp pt
  have lp := AHeap.get_lt gp
  have gp' := gp
  simp only [lnc] at gp'
  obtain ⟨ta, tc, htv⟩ := pt.k.read.val
  subst htv
  unfold c55e
  simp
  refine wC_opsD_chk ?_
  simp [r0, gp', lp]
  refine seg_ok' false true pt.b flOk0 fun A1 e1 => ?_
  have iN : inlN (some L.tB) = L.tB.base := rfl
  rw [iN]
  obtain ⟨x, hx⟩ : ∃ x, segOf L.fb 0 (L.tB.base : Int) false true = x := ⟨_, rfl⟩
  have xok := ok.ack
  rw [hx] at xok ⊢
  have pt1 := pt.extN e1
  have gp1 := e1.get gp id
  obtain ⟨v2, A2, c1, c2, c3, c4⟩ := seg_app x pt1.k (by omega)
  obtain ⟨a2, n2, hv2⟩ := c2.read.val
  subst hv2
  obtain ⟨C2, pt2⟩ := pt1.setK c3 c2 c4
  have gp2 := c3.get gp1 fun q => by have := pt1.c.k p q; have := pt1.c.p; omega
  have lp2 := AHeap.get_lt gp2
  simp only [lnc] at gp1 gp2
  simp [layc, c1, gp2, lp2]
  refine wE_intro ?_ ?_
  · simp only [List.all_cons, List.all_nil, chkOk, List.nil_append, List.cons_append, List.getElem?_cons_succ, List.getElem?_cons_zero]
    simp [Bx, gp1, gp2, gp', vbeq]
  simp [lp2]
  generalize hA3 : AHeap.set A2 p _ = A3
  obtain ⟨g3, e3, z3⟩ := Ou.set_facts lp2 hA3
  have pt3 := pt2.extP e3
  have lp3 := AHeap.get_lt g3
  generalize hnew : L.back ++ [x] = new at *
  have nl : new.length = L.back.length + 1 := by rw [← hnew]; simp
  obtain ⟨v4, f1, f2, f3⟩ := pt3.k.from (k1 := .i64) (l := new.length - 60) (by decide) (Nat.sub_le _ _)
  obtain ⟨a4, n4, hv4⟩ := f2.read.val
  subst hv4
  have m3 : foldV maxV (.int .i64 0) [.int .i64 (IntKind.i64.wrap ((L.back.length : Int) + 1 - 60))] = some (.int .i64 ((new.length - 60 : Nat) : Int)) := by
    rw [IntWalk.i64_in _ (by omega)]
    simp only [foldV, maxV]; congr 2; omega
  obtain ⟨k, hk⟩ : ∃ k, new.length - 60 = k := ⟨_, rfl⟩
  have dl : (new.drop k).length = new.length - k := List.length_drop
  rw [encs_drop sgcz new _ (Nat.sub_le _ _), hk] at f2
  rw [hk] at f1 m3
  have f2' : SliceAt A3 12 (.slice a4 (new.length - k) n4) (new.drop k).length (encs sgc (new.drop k)) := by rw [dl]; exact f2
  simp only [hk] at f1 f3
  simp only [nl] at f1
  simp [r0, g3, m3, f1, lp3]
  generalize hA4 : AHeap.set A3 p _ = A4
  obtain ⟨g4, e4, z4⟩ := Ou.set_facts lp3 hA4
  obtain ⟨C4, pt4⟩ := pt3.setK (back' := new.drop k) (Ext.refl) f2' (fun j hj => .inl (f3 j hj))
  have pt5 := pt4.extP e4
  have ok2 : LnOk room { L with back := new.drop k } := ok.setBack fun y hy => by
    have := List.mem_of_mem_drop hy
    rw [← hnew] at this
    rcases List.mem_append.1 this with q | q
    · exact ok.back y q
    · rw [List.mem_singleton] at q; subst q; exact xok
  refine hq A4 _ { L with back := new.drop k } ⟨_, _, _, Sa, Sb, C4, by rw [g4]; simp [lnc, dl, nl], pt5⟩ ⟨ok2, by simp, by simp, h60, by simp only [dl]; omega⟩ ?_
  have s1 := e1.size
  have s2 := c3.size
  refine ⟨by omega, fun j hj hz => ?_⟩
  rw [e4.keep j (by omega) (fun q => hz (by omega)), e3.keep j (by omega) (fun q => hz (by omega)), c3.keep j (by omega) (fun q => hz (zz.2.2.2.2.1 j q)), e1.keep j hj id]
end Go.Proofs.Ytidgbapgedegbaa.Fw
