/- FlowEnds: the middle of the law. -/
import Derived.Test.YtidgbapgedegbaaEa
import Derived.Test.YtidgbapgedegbaaId
import Derived.KernelRfl
namespace Go.Proofs.Ytidgbapgedegbaa.Fw
open Go Go.AS Ou
set_option maxRecDepth 100000
set_option linter.unusedSimpArgs false
set_option linter.unusedVariables false
attribute [local irreducible] Trie.set Trie.get Env.rd
attribute [local simp] Nat.add_assoc wD_cons'' wD_nil' wC_seq wC_ops wC_opsD_nil wC_cond wC_skip wC_ret wC_exit wC_block wO_cons' wO_nil wantedA wV_eq lop qop ev wL_some wL_none wPut envOf rd_set rd_leaf eqA thenC blockC wB_true wB_false endF unwindA resultsA resA tupleA rdCell rdCells wrCells cl fillP lay rep binA unA get_set' AHeap.get_alloc oneCell beqd bned idxA

/-- A text's bytes, from a number on. -/
def sufB (l : List UInt8) (k : Nat) : Bytes := fun j => if (k : Int) ≤ j then l[j.toNat]? else none
theorem sufB_end (l : List UInt8) : sufB l l.length = fun _ => none := funext fun j => by
  unfold sufB; split
  · exact List.getElem?_eq_none (by omega)
  · rfl
theorem sufB_zero (l : List UInt8) : sufB l 0 = strB l := rfl
theorem sufB_put (room : Nat) (a t b : List UInt8) (hr : (a ++ t ++ b).length ≤ room) : putB room 0 (a.length : Int) t (sufB (a ++ t ++ b) (a.length + t.length)) = sufB (a ++ t ++ b) a.length := funext fun j => by
  unfold putB
  simp only [List.length_append] at hr
  by_cases h1 : ((a.length + t.length : Nat) : Int) ≤ j
  · have e1 : sufB (a ++ t ++ b) (a.length + t.length) j = (a ++ t ++ b)[j.toNat]? := if_pos h1
    have e2 : sufB (a ++ t ++ b) a.length j = (a ++ t ++ b)[j.toNat]? := if_pos (by omega)
    rw [e1, e2]
    cases hj : (a ++ t ++ b)[j.toNat]? with
    | some x => rfl
    | none =>
      simp only
      split
      · rw [List.getElem?_eq_none]; omega
      · rfl
  · have e1 : sufB (a ++ t ++ b) (a.length + t.length) j = none := if_neg h1
    rw [e1]
    simp only
    by_cases h2 : (a.length : Int) ≤ j
    · have e2 : sufB (a ++ t ++ b) a.length j = (a ++ t ++ b)[j.toNat]? := if_pos h2
      rw [e2, if_pos (by omega), List.append_assoc, List.getElem?_append_right (by omega), List.getElem?_append_left (by omega)]
      congr 1; omega
    · have e2 : sufB (a ++ t ++ b) a.length j = none := if_neg h2
      rw [e2, if_neg (by omega)]

theorem putB_nil (room base : Nat) (off : Int) (f : Bytes) : putB room base off [] f = f := funext fun k => by unfold putB; cases f k <;> simp
/-- What the reading end is while segments come. -/
def gotI (all : List UInt8) (k : Nat) : IS := ⟨2048, 0, sufB all k, [], false, 0⟩

theorem ends_r (all : List UInt8) (hal : all.length ≤ 400) (A : AHeap) (env : Env) (by_ : Nat) (hby : by_ < 256) (pa pb ov fi : Nat) (fa fb : Fl) (ps : List Pc) (tA : IS) (Sa Sb : Nat → Prop) (over : Sg)
    (ha : FlowAt A pa fa ps all.length 0 (some tA) Sa) (hb : FlowAt A pb fb [] 0 0 (some (gotI all 0)) Sb) (ch : Chain 0 ps all) (few : ps.length < 1000) (dj : ∀ j, Sa j → ¬ Sb j) (a1 : fa.state = 3) (a2 : fa.fin = true) (a3 : fa.fa = false) (a4 : fa.ft = false) (nA : tA.base = 0) (b1 : fb.ft = false) (b2 : fb.fin = false) (pe : fb.peer = fa.isn)
    (gov : A.get ov = some (.cells over.cells false 0)) (gfi : A.get fi = some (.cells (segF fa all.length 0).cells false 0)) (nov : ¬ Sa ov ∧ ¬ Sb ov) (nfi : ¬ Sa fi ∧ ¬ Sb fi) (nof : fi ≠ ov) (o1 : over.ackOn = true) (o2 : over.ack = num fa.isn (all.length + 1))
    (r2 : env.rd 2 = .int .u8 (by_ : Nat)) (r7 : env.rd 7 = .pointer (some ⟨pa, 0, none⟩)) (r8 : env.rd 8 = .pointer (some ⟨pb, 0, none⟩)) (r9 : env.rd 9 = .string ⟨⟨all⟩⟩) (r12 : env.rd 12 = .pointer (some ⟨ov, 0, none⟩)) (r16 : env.rd 16 = .pointer (some ⟨fi, 0, none⟩)) :
    wC T 12 none c12r { env := env, n := 272, dfs := [], A := A } (endF [.inl 6] fun v _ => v = .bool true) := by
  unfold c12r
  simp [r8]
  refine flIn_ok hb ?_
  obtain ⟨o, So, Si, k1, k2, k3, ⟨i, k4, k5⟩, k6, k7, k8⟩ := id hb
  simp [k4]
  refine iraw_ok A i _ Si _ 2000 k5 fun A1 l e1 hl pre => ?_
  have hl' : l = all := by
    have l1 := hl all.length (strB_next all)
    have l2 := strB_pre (l := all) rfl pre
    rw [l2, List.take_of_length_le]
    have : (gotI all 0).base = 0 := rfl
    omega
  subst hl'
  have hb1 := hb.extN e1
  simp [r8]
  refine flIn_ok hb1 ?_
  simp [k4]
  refine iskip_ok A1 i _ Si _ (l.length : Int) (k5.extN e1) fun A2 w to hto hi e2 => ?_
  have hto' : to = l.length := by
    have : (gotI l 0).base = 0 := rfl
    omega
  subst hto'
  have hb2 : FlowAt A2 pb fb [] 0 0 (some (skipS (gotI l 0) l.length)) Sb :=
    ⟨o, So, Si, e2.get (e1.get k1 id) k7.2.1, k2, (k3.ext e1 fun _ _ => id).ext e2 fun j hj q => k7.2.2 j hj q, ⟨i, k4, hi⟩, k6, k7, fun j hj => Nat.lt_of_lt_of_le (k8 j hj) (Nat.le_trans e1.size e2.size)⟩
  have e2' : Ext Sb A1 A2 := e2.mono fun j _ q => k6.2.2 j q
  have ha2 := (ha.extN e1).ext e2' fun j hj q => dj j hj q
  have gov2 := e2'.get (e1.get gov id) nov.2
  have gfi2 := e2'.get (e1.get gfi id) nfi.2
  have inB : inlN (some (skipS (gotI l 0) l.length)) = l.length := rfl
  have bg : beg fb (l.length : Int) (segF fa l.length 0) = l.length := by
    unfold beg segF
    rw [pe, gap_num _ _ _ (by omega)]; omega
  have dl : (segF fa (l.length : Int) 0).data.data.toList = [] := rfl
  simp [r9, r16, gfi2, r8]
  refine finAt_ok _ hb2 (by rw [inB]; omega) (by rw [dl]; simp) fun A3 e3 => ?_
  rw [inB, bg, dl, if_pos ⟨rfl, rfl⟩]
  have hb3 := hb2.extN e3
  simp [r8]
  refine flIn_ok hb3 ?_
  simp [k4]
  refine iN_ok A3 i _ Si _ (hi.extN e3) ?_
  have m0 : max (-1) (l.length : Int) = l.length := by omega
  have sb : (skipS (gotI l 0) l.length).base = l.length := rfl
  simp [m0, sb]
  exact ends_s l hal A3 _ by_ hby pa pb ov fi fa fb ps tA _ Sa Sb over (ha2.extN e3) hb3 ch few dj a1 a2 a3 a4 nA rfl b1 b2 pe (e3.get gov2 id) (e3.get gfi2 id) nov nfi nof o1 o2 (by simp [r2]) (by simp [r7]) (by simp [r8]) (by simp [r12]) (by simp [r16])
end Go.Proofs.Ytidgbapgedegbaa.Fw
