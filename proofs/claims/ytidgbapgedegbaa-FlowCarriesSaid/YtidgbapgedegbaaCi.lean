/- FlowCarries: all that is due goes out. -/
import Derived.Test.YtidgbapgedegbaaCh
import Derived.KernelRfl
namespace Go.Proofs.Ytidgbapgedegbaa.Fw
open Go Go.AS Ou
set_option maxRecDepth 100000
set_option linter.unusedSimpArgs false
set_option linter.unusedVariables false
attribute [local irreducible] Trie.set Trie.get Env.rd
attribute [local simp] Nat.add_assoc wD_cons'' wD_nil' wC_seq wC_ops wC_opsD_nil wC_cond wC_skip wC_ret wC_exit wC_block wO_cons' wO_nil wantedA wV_eq lop qop ev wL_some wL_none wPut envOf rd_set rd_leaf eqA thenC blockC wB_true wB_false endF unwindA resultsA resA tupleA rdCell rdCells wrCells cl fillP lay rep binA unA get_set' AHeap.get_alloc oneCell beqd bned idxA

theorem dueS_run {room : Nat} {L : Ln} (ok : LnOk room L) : dueS L.fa L.ps L.pu.length (inlN (some L.tA)) = L.ps.map (segP L.fa L.pu.length 0) := by
  have : inlN (some L.tA) = 0 := by show ((L.tA.base : Nat) : Int) = 0; rw [ok.tA0]; rfl
  rw [this]; simp [dueS, ok.a1, ok.a2]
theorem LnOk.setThere {room : Nat} {L : Ln} (ok : LnOk room L) {l : List Sg} (h : ∀ x ∈ l, ThOk L.fa.isn L.fb.isn L.pu x) : LnOk room { L with there := l } := { ok with there := h }
theorem LnOk.setBack {room : Nat} {L : Ln} (ok : LnOk room L) {l : List Sg} (h : ∀ x ∈ l, BkOk L.fa.isn L.tB.base x) : LnOk room { L with back := l } := { ok with back := h }

theorem doesB_ok {A : AHeap} {p pa pb z : Nat} {L : Ln} {room : Nat} {Q : Value → AHeap → Prop} (env : Env) (h : LnA A p pa pb z L) (ok : LnOk room L) (h60 : L.there.length ≤ 60) (k60 : L.back.length ≤ 60)
    (r0 : env.rd 0 = .pointer (some ⟨p, 0, none⟩))
    (hq : ∀ A' w L', LnA A' p pa pb z L' → Dn room L L' → Ext (fun j => z ≤ j) A A' → Q w A') :
    wC T 55 none c55b { env := env, n := 131, dfs := [], A := A } (blockC 0 (endF [] Q)) := by
  obtain ⟨tv, bv, gv, Sa, Sb, C, gp, pt⟩ := h
  have zz := LnAt.zp pt
  have lp := AHeap.get_lt gp
  have gp' := gp
  simp only [lnc] at gp'
  have few := ok.few
  unfold c55b
  simp [r0, gp', lp]
  refine due_ok' pt.a ok.fok fun A1 lv gv2 sl _ e1 ol _ _ => ?_
  rw [dueS_run ok] at sl
  have pt1 := pt.extN e1
  have gp1 := e1.get gp id
  have ml : (L.ps.map (segP L.fa (L.pu.length : Int) 0)).length = L.ps.length := List.length_map ..
  obtain ⟨v2, A2, c1, c2, c3, c4⟩ := pt1.t.append (bytes := 64) (x := lv) (m := (L.ps.map (segP L.fa (L.pu.length : Int) 0)).length) (new := encs sgc (L.ps.map (segP L.fa (L.pu.length : Int) 0))) (by decide) sl.read.lenA (by rw [sl.read.firstA (Nat.le_refl _), List.take_of_length_le]; rw [encs_len sgcz]; exact Nat.le_refl _) (sgc1 _) (by rw [encs_len sgcz]) (by rw [ml]; omega) (by decide) (by intro q; obtain ⟨a, c, e⟩ := sl.read.val; rw [e] at q; cases q)
  rw [← encs_append, ← List.length_append] at c2
  generalize hnew : L.there ++ L.ps.map (segP L.fa (L.pu.length : Int) 0) = new at *
  have nl : new.length = L.there.length + L.ps.length := by rw [← hnew, List.length_append, ml]
  obtain ⟨C2, pt2⟩ := pt1.setT c3 c2 c4
  have gp2 := c3.get gp1 fun q => by have := pt1.c.t p q; have := pt1.c.p; omega
  have lp2 := AHeap.get_lt gp2
  obtain ⟨sa, sc, hsl⟩ := sl.read.val
  subst hsl
  obtain ⟨a2, n2, hv2⟩ := c2.read.val
  subst hv2
  obtain ⟨ta, tc, htv⟩ := pt.t.read.val
  subst htv
  simp only [lnc] at gp1 gp2
  simp only [ml] at c1
  simp [r0, gp1, c1, gp2, lp2]
  generalize hA3 : AHeap.set A2 p _ = A3
  obtain ⟨g3, e3, z3⟩ := Ou.set_facts lp2 hA3
  have pt3 := pt2.extP e3
  have lp3 := AHeap.get_lt g3
  obtain ⟨v4, f1, f2, f3⟩ := pt3.t.from (k1 := .i64) (l := new.length - 60) (by decide) (Nat.sub_le _ _)
  obtain ⟨a4, n4, hv4⟩ := f2.read.val
  subst hv4
  have m3 : foldV maxV (.int .i64 0) [.int .i64 (IntKind.i64.wrap ((new.length : Int) - 60))] = some (.int .i64 ((new.length - 60 : Nat) : Int)) := by
    rw [IntWalk.i64_in _ (by omega)]
    simp only [foldV, maxV]; congr 2; omega
  obtain ⟨k, hk⟩ : ∃ k, new.length - 60 = k := ⟨_, rfl⟩
  have dl : (new.drop k).length = new.length - k := List.length_drop
  rw [encs_drop sgcz new _ (Nat.sub_le _ _), hk] at f2
  rw [hk] at f1 m3
  have f2' : SliceAt A3 12 (.slice a4 (new.length - k) n4) (new.drop k).length (encs sgc (new.drop k)) := by rw [dl]; exact f2
  simp only [hk] at f1 f3
  simp [r0, g3, m3, f1, lp3]
  generalize hA4 : AHeap.set A3 p _ = A4
  obtain ⟨g4, e4, z4⟩ := Ou.set_facts lp3 hA4
  obtain ⟨C4, pt4⟩ := pt3.setT (there' := new.drop k) (Ext.refl) f2' (fun j hj => .inl (f3 j hj))
  have pt5 := pt4.extP e4
  have ok2 : LnOk room { L with there := new.drop k } := ok.setThere fun x hx => by
    have := List.mem_of_mem_drop hx
    rw [← hnew] at this
    rcases List.mem_append.1 this with q | q
    · exact ok.there x q
    · exact ok.due x q
  refine hq A4 _ { L with there := new.drop k } ⟨_, _, _, Sa, Sb, C4, by rw [g4]; simp [lnc, dl], pt5⟩ ⟨ok2, by simp, by simp, by simp only [dl]; omega, k60⟩ ?_
  have s1 := e1.size
  have s2 := c3.size
  refine ⟨by omega, fun j hj hz => ?_⟩
  rw [e4.keep j (by omega) (fun q => hz (by omega)), e3.keep j (by omega) (fun q => hz (by omega)), c3.keep j (by omega) (fun q => hz (zz.2.2.2.1 j q)), e1.keep j hj id]
end Go.Proofs.Ytidgbapgedegbaa.Fw
