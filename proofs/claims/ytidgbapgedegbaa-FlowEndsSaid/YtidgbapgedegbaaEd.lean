/- FlowEnds: the other half. -/
import Derived.Test.YtidgbapgedegbaaEc
import Derived.KernelRfl
namespace Go.Proofs.Ytidgbapgedegbaa.Fw
open Go Go.AS Ou
set_option maxRecDepth 100000
set_option linter.unusedSimpArgs false
set_option linter.unusedVariables false
attribute [local irreducible] Trie.set Trie.get Env.rd
attribute [local simp] Nat.add_assoc wD_cons'' wD_nil' wC_seq wC_ops wC_opsD_nil wC_cond wC_skip wC_ret wC_exit wC_block wO_cons' wO_nil wantedA wV_eq lop qop ev wL_some wL_none wPut envOf rd_set rd_leaf eqA thenC blockC wB_true wB_false endF unwindA resultsA resA tupleA rdCell rdCells wrCells cl fillP lay rep binA unA get_set' AHeap.get_alloc oneCell beqd bned idxA

theorem ends_p (all : List UInt8) (hal : all.length ≤ 400) (A : AHeap) (env : Env) (by_ : Nat) (hby : by_ < 256) (pa pb bx : Nat) (xa xb ha1 ha2 hb1 hb2 : Int) (fa fb : Fl) (ps : List Pc) (Sa Sb : Nat → Prop)
    (ha : FlowAt A pa fa ps all.length 0 (some (inl0 2048)) Sa) (hb : FlowAt A pb fb [] 0 0 (some (inl0 2048)) Sb) (ch : Chain 0 ps all) (few : ps.length < 1000) (dj : ∀ j, Sa j → ¬ Sb j)
    (ua : UpF fa xa xb 0 ha1 ha2) (ub : UpF fb xb xa 0 hb1 hb2) (gbx : A.get bx = some (.cells [.int .u32 xa, .int .u32 xb] false 0))
    (r2 : env.rd 2 = .int .u8 (by_ : Nat)) (r3 : env.rd 3 = .pointer (some ⟨bx, 0, none⟩)) (r7 : env.rd 7 = .pointer (some ⟨pa, 0, none⟩)) (r8 : env.rd 8 = .pointer (some ⟨pb, 0, none⟩)) (r9 : env.rd 9 = .string ⟨⟨all⟩⟩) :
    wC T 12 none c12p { env := env, n := 272, dfs := [], A := A } (endF [.inl 6] fun v _ => v = .bool true) := by
  have okA : FlOk ps all.length 0 := ⟨by omega, by omega, by omega, few⟩
  have in0 : inlN (some (inl0 2048)) = 0 := rfl
  unfold c12p
  simp [r8]
  refine seg_ok' false true hb flOk0 fun A1 e1 => ?_
  rw [in0]
  generalize hx1 : segOf fb 0 0 false true = x1
  have x1a : x1.ackOn = true := by rw [← hx1]; rfl
  clear hx1
  simp
  generalize hA2 : AHeap.set (AHeap.alloc A1 _) _ _ = A2
  have e2 : Ext NoB A1 A2 := ⟨by rw [← hA2]; simp, fun j hj _ => by rw [← hA2]; simp [show j ≠ A1.size by omega]⟩
  have g2 : A2.get A1.size = some (.cells x1.cells false 0) := by rw [← hA2]; simp [layc]
  clear hA2
  have e12 := e1.trans e2
  have gbx2 := e12.get gbx id
  have lbx := AHeap.get_lt gbx
  have n1 : bx ≠ A1.size := fun q => by have := e1.size; omega
  have l2 := AHeap.get_lt g2
  simp [r3, gbx2, r9, g2, l2]
  generalize hA3 : AHeap.set A2 A1.size _ = A3
  obtain ⟨k3, e3, z3⟩ := Ou.set_facts l2 hA3
  have w1 : IntKind.u32.wrap (IntKind.u32.wrap (IntKind.u32.wrap (xa + 1) + IntKind.u32.wrap (all.length : Int)) + 1) = num fa.isn (all.length + 1) := by
    rw [ua.isn, IntKind.wrap_u32, IntKind.wrap_u32, IntKind.wrap_u32, IntKind.wrap_u32]; unfold num; omega
  clear hA3
  rw [w1] at k3 ⊢
  obtain ⟨over, hov⟩ : ∃ over : Sg, over = { x1 with ack := num fa.isn (all.length + 1) } := ⟨_, rfl⟩
  rw [← hov] at k3 ⊢
  have o1 : over.ackOn = true := by rw [hov]; exact x1a
  have o2 : over.ack = num fa.isn (all.length + 1) := by rw [hov]
  clear hov
  have e13 : Ext NoB A A3 := e12.trans2 e3 fun j hj q => by have := e1.size; omega
  have ha3 := ha.extN e13
  have hb3 := hb.extN e13
  have novA : ¬ Sa A1.size := fun q => by have := ha.own q; have := e1.size; omega
  have novB : ¬ Sb A1.size := fun q => by have := hb.own q; have := e1.size; omega
  have gp0 : gap (num fa.isn 0) over.ack = (all.length : Int) + 1 := by rw [o2, gap_num _ _ _ (by omega)]; omega
  rw [r7]
  refine acks_ok' over ha3 okA fun A4 e4 => ?_
  rw [gp0, ua.fin]
  have no : decide ((0 : Int) + ((all.length : Int) + 1) ≤ if false = true then (all.length : Int) + 1 else (all.length : Int)) = false := by simp; omega
  rw [no]
  have ha4 := ha3.extN e4
  have hb4 := hb3.extN e4
  have k4 := e4.get k3 id
  simp [r7]
  refine finish_ok ha4 fun A5 w ha5 e5 => ?_
  have hb5 := hb4.ext e5 fun j hj q => dj j q hj
  have k5 := e5.get k4 novA
  simp [r7]
  refine due_ok' ha5 okA fun A6 lv tv sl st e6 ol ot _ => ?_
  rw [in0] at sl
  have ds : dueS { fa with fin := true } ps all.length 0 = ps.map (segP { fa with fin := true } all.length 0) ++ [segF { fa with fin := true } all.length 0] := by simp [dueS, ua.state, ua.fa]
  have dt : dueT { fa with fin := true } ps = ps.map (·.tag) ++ [-1] := by simp [dueT, ua.state, ua.fa]
  rw [ds] at sl
  rw [dt] at st
  have ln : (ps.map (segP { fa with fin := true } all.length 0) ++ [segF { fa with fin := true } all.length 0]).length = ps.length + 1 := by simp
  have lt : (ps.map (·.tag) ++ [(-1 : Int)]).length = ps.length + 1 := by simp
  rw [ln] at sl
  rw [lt] at st
  have ha6 := ha5.extN e6
  have hb6 := hb5.extN e6
  have k6 := e6.get k5 id
  obtain ⟨sa, sc, hsv⟩ := sl.read.val
  subst hsv
  obtain ⟨ta, tc, htv⟩ := st.read.val
  subst htv
  simp [k6, r7]
  refine acks_ok' over ha6 okA fun A7 e7 => ?_
  rw [show ({ fa with fin := true } : Fl).isn = fa.isn from rfl, gp0, o1]
  have yes : (true && decide ((0 : Int) ≤ 0 + ((all.length : Int) + 1)) && decide ((0 : Int) + ((all.length : Int) + 1) ≤ if ({ fa with fin := true } : Fl).fin = true then (all.length : Int) + 1 else (all.length : Int))) = true := by simp; omega
  rw [yes]
  have ha7 := ha6.extN e7
  have hb7 := hb6.extN e7
  have k7 := e7.get k6 id
  obtain ⟨td, to, tcc, tbs, tro, topn, y1, y2, y3⟩ := (st.ext e7 fun _ _ => id).read.cell (show ps.length < ps.length + 1 by omega)
  cases y1
  have tg : (ints (ps.map (·.tag) ++ [(-1 : Int)]))[ps.length]? = some (.int .i64 (-1)) := by simp [ints]
  rw [tg] at y3
  have w2 : IntKind.i64.wrap ((ps.length : Nat) : Int) = ((ps.length : Nat) : Int) := IntWalk.i64_in _ (by omega)
  have w3 : IntKind.i64.wrap (((ps.length + 1 : Nat) : Int) - 1) = ((ps.length : Nat) : Int) := by rw [IntWalk.i64_in _ (by omega)]; omega
  have pn : ¬ ((ps.length : Int) + 1 = 0) := by omega
  have pl0 : (0 : Int) ≤ (ps.length : Int) := by omega
  have pl1 : (ps.length : Int) < (ps.length : Int) + 1 := by omega
  simp [w2, w3, y2, y3, r7, pn, pl0, pl1]
  refine push_ok' [120] 9 ha7 okA (fun _ => ?_) (fun q => nomatch q)
  simp [r7]
  refine finished_ok ha7 ?_
  simp [r7]
  refine finAcked_ok ha7 ?_
  simp [ua.fa]
  obtain ⟨d, o', c', bs, ro, opn, z1, z2, z3, z4⟩ := (sl.ext e7 fun _ _ => id).read.elem2 (show ps.length < ps.length + 1 by omega)
  cases z1
  have z3' : o' + (ps.length * 12 + 12) ≤ bs.length := by omega
  rw [encs_at sgcz _ ps.length (by rw [ln]; omega)] at z4
  have sg : (ps.map (segP { fa with fin := true } all.length 0) ++ [segF { fa with fin := true } all.length 0])[ps.length]'(by rw [ln]; omega) = segF { fa with fin := true } all.length 0 := by simp
  rw [sg] at z4
  simp only [sgc] at z4
  simp [w2, pl0, pl1, z2, z3', z4]
  generalize hA8 : AHeap.set (AHeap.alloc A7 _) _ _ = A8
  have e8 : Ext NoB A7 A8 := ⟨by rw [← hA8]; simp, fun j hj _ => by rw [← hA8]; simp [show j ≠ A7.size by omega]⟩
  have g8 : A8.get A7.size = some (.cells (segF { fa with fin := true } all.length 0).cells false 0) := by rw [← hA8]; simp
  clear hA8
  have ha8 := ha7.extN e8
  have hb8 := hb7.extN e8
  have k8 := e8.get k7 id
  have l7 := AHeap.get_lt k7
  refine ends_q all hal A8 _ by_ hby pa pb A1.size A7.size { fa with fin := true } fb ps (inl0 2048) Sa Sb over _ ha8 hb8 ch few dj ua.state rfl ua.fa ua.ft rfl ub.ft ub.fin (by rw [ub.peer]; exact ua.isn.symm) (by rw [ub.isn]; exact ua.peer) k8 g8 ⟨novA, novB⟩ ⟨fun q => by have := ha7.own q; omega, fun q => by have := hb7.own q; omega⟩ (by omega) o1 o2 ((sl.ext e7 fun _ _ => id).ext e8 fun _ _ => id) (fun j hj => ⟨fun q => by have := ol j hj; have := ha5.own q; omega, fun q => by have := ol j hj; have := hb5.own q; omega⟩) ?_ ?_ ?_ ?_ ?_ ?_ ?_
  all_goals simp [r2, r7, r8, r9]
end Go.Proofs.Ytidgbapgedegbaa.Fw
