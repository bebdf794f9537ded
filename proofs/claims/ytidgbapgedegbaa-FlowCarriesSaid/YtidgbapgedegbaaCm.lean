/- FlowCarries: right, the whole. -/
import Derived.Test.YtidgbapgedegbaaCl
import Derived.KernelRfl
namespace Go.Proofs.Ytidgbapgedegbaa.Fw
open Go Go.AS Ou
set_option maxRecDepth 100000
set_option linter.unusedSimpArgs false
set_option linter.unusedVariables false
attribute [local irreducible] Trie.set Trie.get Env.rd
attribute [local simp] Nat.add_assoc wD_cons'' wD_nil' wC_seq wC_ops wC_opsD_nil wC_cond wC_skip wC_ret wC_exit wC_block wO_cons' wO_nil wantedA wV_eq lop qop ev wL_some wL_none wPut envOf rd_set rd_leaf eqA thenC blockC wB_true wB_false endF unwindA resultsA resA tupleA rdCell rdCells wrCells cl fillP lay rep binA unA get_set' AHeap.get_alloc oneCell beqd bned idxA

def RtQ (A : AHeap) (p tg : Nat) (k : Nat) (st : St) : Prop := ∃ i : Nat, i + k = tg ∧ st.n = 133 ∧ st.dfs = [] ∧ st.A = A ∧ st.env.rd 0 = .pointer (some ⟨p, 0, none⟩) ∧ st.env.rd 3 = .int .i64 (i : Nat)
theorem right_ok {A : AHeap} {p pa pb z : Nat} {L : Ln} {room : Nat} {Q : Value → AHeap → Prop} (h : LnA A p pa pb z L) (ok : LnOk room L) (hq : ∀ A', Ext NoB A A' → Q (.bool true) A') :
    wF T (.func (.func 56) #[] #[]) [.pointer (some ⟨p, 0, none⟩)] A Q := by
  have h0 := h
  obtain ⟨tv, bv, gv, Sa, Sb, C, gp, pt⟩ := h
  have gp' := gp
  simp only [lnc] at gp'
  have lp := AHeap.get_lt gp
  have few := ok.few
  have pl := ok.pl
  have tl := ok.to_len
  have bl := ok.bl
  obtain ⟨ga, gc, hg⟩ := pt.g.read.val
  subst hg
  have zs := sl_to L.pu .i64 L.to.length (by omega)
  have pre : L.pu.take L.to.length = L.to := by rw [tl]; exact ok.pre.symm
  rw [pre] at zs
  have c1 : ¬ L.pu.length < L.to.length := by omega
  have c1' : ¬ (L.pu.length : Int) < (L.to.length : Int) := by omega
  have wm : IntKind.i64.wrap ((L.tg : Int) + (L.ps.length : Int) - (L.tg : Int)) = (L.ps.length : Int) := by rw [IntWalk.i64_in _ (by omega)]; omega
  have wm' : IntKind.i64.wrap (L.ps.length : Int) = (L.ps.length : Int) := IntWalk.i64_in _ (by omega)
  refine wF_func (first := []) (captured := []) t56 ⟨rfl, by decide⟩ ?_
  dsimp only [c56]
  simp
  refine wC_opsD_chk ?_
  simp [gp', c1, c1', zs]
  refine flIn_ok pt.b ?_
  obtain ⟨o, So, Si, k1, k2, k3, ⟨i, k4, k5⟩, k6, k7, k8⟩ := id pt.b
  simp [k4]
  refine iN_ok A i _ Si _ k5 ?_
  have c2 : ¬ (L.tg : Int) + (L.ps.length : Int) < (L.tg : Int) := by omega
  simp [gp', tl, c2]
  refine flight_ok' pt.a ?_
  simp [gp', wm, wm']
  refine wE_intro ?_ ?_
  · simp only [List.all_cons, List.all_nil, chkOk, List.nil_append, List.cons_append, List.getElem?_cons_succ, List.getElem?_cons_zero]
    simp [Bx, gp', vbeq]
  unfold c56p
  simp [gp', tl]
  refine wC_loop_inv (RtQ A p L.tg) ?_ L.tg _ ⟨0, by omega, rfl, rfl, rfl, by simp, by simp⟩
  rintro k ⟨env', nn, dfs, A2⟩ ⟨i, q1, s1, s2, s3, q0, q3⟩
  simp only at s1 s2 s3 q0 q3
  subst s1; subst s2; subst s3
  by_cases c : i < L.tg
  · obtain ⟨d, o, cc, bs, ro, opn, y1, y2, y3⟩ := pt.g.read.cell c
    cases y1
    have tg : (ints (upto L.tg))[i]? = some (.int .i64 (i : Nat)) := by simp [ints, upto, c]
    rw [tg] at y3
    have w2 : IntKind.i64.wrap ((i : Int) + 1) = ((i + 1 : Nat) : Int) := IntWalk.i64_in _ (by omega)
    simp [q0, q3, gp', c, idxA, y2, y3]
    exact ⟨k - 1, by omega, i + 1, by omega, rfl, rfl, rfl, by simp [q0], by simpa using w2⟩
  · simp [q0, q3, gp', c]
    refine rightQ_ok _ h0 ok ?_ hq
    simp [q0]
end Go.Proofs.Ytidgbapgedegbaa.Fw
