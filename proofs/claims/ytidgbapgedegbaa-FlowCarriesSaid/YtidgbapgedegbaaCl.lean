/- FlowCarries: all is right. -/
import Derived.Test.YtidgbapgedegbaaCk
import Derived.KernelRfl
namespace Go.Proofs.Ytidgbapgedegbaa.Fw
open Go Go.AS Ou
set_option maxRecDepth 100000
set_option linter.unusedSimpArgs false
set_option linter.unusedVariables false
attribute [local irreducible] Trie.set Trie.get Env.rd
attribute [local simp] Nat.add_assoc wD_cons'' wD_nil' wC_seq wC_ops wC_opsD_nil wC_cond wC_skip wC_ret wC_exit wC_block wO_cons' wO_nil wantedA wV_eq lop qop ev wL_some wL_none wPut envOf rd_set rd_leaf eqA thenC blockC wB_true wB_false endF unwindA resultsA resA tupleA rdCell rdCells wrCells cl fillP lay rep binA unA get_set' AHeap.get_alloc oneCell beqd bned idxA

theorem LnAt.ext0 {A A' : AHeap} {p pa pb z : Nat} {L : Ln} {many : Int} (h : LnAt A p pa pb z L many) (e : Ext NoB A A') : LnAt A' p pa pb z L many := by
  obtain ⟨tv, bv, gv, Sa, Sb, C, gp, pt⟩ := h
  exact ⟨tv, bv, gv, Sa, Sb, C, e.get gp id, pt.extN e⟩
theorem cell_of {bs l : List Value} {k m j : Nat} (h : (bs.drop k).take m = l) (hj : j < m) : bs[k + j]? = l[j]? := by
  rw [← h, List.getElem?_take_of_lt hj, List.getElem?_drop]

def RgQ (A : AHeap) (p : Nat) (sv : Value) (f : Fl) (en : Int) (ps : List Pc) (k : Nat) (st : St) : Prop := ∃ i left : Nat, i + k = ps.length ∧ left = (lens (ps.take i)).sum ∧ st.n = 133 ∧ st.dfs = [] ∧ st.A = A ∧ st.env.rd 0 = .pointer (some ⟨p, 0, none⟩) ∧ st.env.rd 4 = sv ∧ st.env.rd 6 = .int .i64 (left : Nat) ∧ st.env.rd 7 = .int .i64 (i : Nat)

theorem rightQ_ok {A : AHeap} {p pa pb z : Nat} {L : Ln} {room : Nat} {Q : Value → AHeap → Prop} (env : Env) (h : LnA A p pa pb z L) (ok : LnOk room L) (r0 : env.rd 0 = .pointer (some ⟨p, 0, none⟩)) (hq : ∀ A', Ext NoB A A' → Q (.bool true) A') :
    wC T 56 none c56q { env := env, n := 133, dfs := [], A := A } (endF [.inl 2] Q) := by
  obtain ⟨tv, bv, gv, Sa, Sb, C, gp, pt⟩ := h
  have gp' := gp
  simp only [lnc] at gp'
  have lp := AHeap.get_lt gp
  have few := ok.few
  have pl := ok.pl
  have tl := ok.to_len
  obtain ⟨f1, f2⟩ := ok.left
  unfold c56q
  simp [r0, gp', lp]
  refine due_ok' pt.a ok.fok fun A1 lv gv2 sl _ e1 _ _ _ => ?_
  rw [dueS_run ok] at sl
  have ml : (L.ps.map (segP L.fa (L.pu.length : Int) 0)).length = L.ps.length := List.length_map ..
  have gp1 := e1.get gp' id
  have lp1 := AHeap.get_lt gp1
  obtain ⟨sa, sc, hsv⟩ := sl.read.val
  rw [ml] at hsv sl
  subst hsv
  simp
  refine wC_loop_inv (RgQ A1 p (.slice sa L.ps.length sc) L.fa L.pu.length L.ps) ?_ L.ps.length _ ⟨0, 0, by omega, rfl, rfl, rfl, rfl, by simp [r0], by simp, by simp, by simp⟩
  rintro k ⟨env', nn, dfs, A2⟩ ⟨i, left, q1, q2, s1, s2, s3, q0, q4, q6, q7⟩
  simp only at s1 s2 s3 q0 q4 q6 q7
  subst s1; subst s2; subst s3
  by_cases c : i < L.ps.length
  · obtain ⟨d, o, cc, bs, ro, opn, z1, z2, z3, z4⟩ := sl.read.elem2 c
    cases z1
    rw [encs_at sgcz _ i (by rw [ml]; exact c)] at z4
    have z3' : o + (i * 12 + 12) ≤ bs.length := by omega
    have dt := cell_of z4 (show 11 < 12 by decide)
    have dv : (sgc (L.ps.map (segP L.fa (L.pu.length : Int) 0))[i])[11]? = some (.string L.ps[i].text) := by rw [List.getElem_map]; rfl
    rw [dv, show o + i * 12 + 11 = o + (i * 12 + 11) by omega] at dt
    have pm := (List.take_append_drop (i + 1) L.ps)
    have ts : (lens (L.ps.take (i + 1))).sum = (lens (L.ps.take i)).sum + L.ps[i].text.data.toList.length := by
      have : L.ps.take (i + 1) = L.ps.take i ++ [L.ps[i]] := by rw [List.take_add_one, List.getElem?_eq_getElem c]; rfl
      rw [this]; simp only [lens, List.map_append, List.map_cons, List.map_nil, List.sum_append, List.sum_cons, List.sum_nil]; omega
    have tle : (lens (L.ps.take (i + 1))).sum ≤ (lens L.ps).sum := by
      have : lens L.ps = lens (L.ps.take (i + 1)) ++ lens (L.ps.drop (i + 1)) := by
        simp only [lens]; rw [← List.map_append, List.take_append_drop]
      rw [this, List.sum_append]; omega
    have sz : L.ps[i].text.size = L.ps[i].text.data.toList.length := rfl
    have w1 : IntKind.i64.wrap ((left : Int) + (L.ps[i].text.size : Int)) = ((lens (L.ps.take (i + 1))).sum : Nat) := by rw [IntWalk.i64_in _ (by omega)]; omega
    have w2 : IntKind.i64.wrap ((i : Int) + 1) = ((i + 1 : Nat) : Int) := IntWalk.i64_in _ (by omega)
    simp [q0, q4, q6, q7, c, idxA, z2, z3', dt]
    exact ⟨k - 1, by omega, i + 1, _, by omega, rfl, rfl, rfl, rfl, by simp [q0], by simp [q4], by simpa using w1, by simpa using w2⟩
  · simp [q0, q4, q6, q7, c, gp1]
    have lt : left = (lens L.ps).sum := by rw [q2, List.take_of_length_le (by omega)]
    have wl : decide (IntKind.i64.wrap ((L.pu.length : Int) - (left : Int)) ≤ (L.to.length : Int)) = true := by
      rw [IntWalk.i64_in _ (by omega)]; simp; omega
    rw [wl]
    exact hq A2 e1
end Go.Proofs.Ytidgbapgedegbaa.Fw
