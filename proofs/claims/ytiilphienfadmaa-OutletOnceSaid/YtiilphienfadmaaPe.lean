/- OutletOnce of stage 21. -/
import Derived.Test.YtiilphienfadmaaPd
import Derived.Test.YtiilphienfadmaaChecked
import Derived.KernelRfl
namespace Go.Proofs.Ytiilphienfadmaa
open Go Go.AS
set_option maxRecDepth 100000
set_option linter.unusedSimpArgs false
set_option linter.unusedVariables false
attribute [local irreducible] Trie.set Trie.get Env.rd
attribute [local simp] wD_cons' wD_nil wC_seq wC_ops wC_opsD_nil wC_cond wC_skip wC_ret wC_exit wC_block wO_cons wO_nil wantedA wV_eq lop qop ev wL wPut envOf rd_set rd_leaf eqA thenC blockC wB endF unwindA resultsA resA tupleA rdCell rdCells wrCells cl fillP lay rep binA unA get_set' AHeap.get_alloc oneCell


attribute [local simp] Nat.add_assoc


def OI (A0 : AHeap) (b : Nat) (lv av : Value) (m : Nat) (st : St) : Prop := ∃ i dv wv gv ps W G en un, m + i = 40 ∧ st.n = 100 ∧ st.dfs = [] ∧ st.env.rd 0 = lv ∧ st.env.rd 1 = av ∧ st.env.rd 5 = .pointer (some ⟨b, 0, none⟩) ∧ st.env.rd 6 = wv ∧ st.env.rd 7 = gv ∧ st.env.rd 8 = .int .i64 (i : Nat) ∧
  OM A0 st.A b dv wv gv ps W G en un ∧ OP ps W G en un i

theorem once_ok (ss : List ByteArray) (ks : List Nat) (lv av : Value) (A0 : AHeap) (h1 : ReadAt A0 1 lv ss.length (strs ss)) (h2 : ReadAt A0 1 av ks.length (u16s ks)) (o1 : ∀ j, Own lv j → j < A0.size) (o2 : ∀ j, Own av j → j < A0.size) : wF T (.func (.func 3) #[] #[]) [lv, av] A0 (fun v _ => v = .bool true) := by
  obtain ⟨a1, c1, rfl⟩ := h1.val
  obtain ⟨a2, c2, rfl⟩ := h2.val
  refine wF_func (first := []) (captured := []) t3 ⟨rfl, by decide⟩ ?_
  dsimp only [c3]; simp
  refine new_ok _ _ ?_
  simp
  refine yes_ok _ _ ?_
  simp
  refine wC_loop_inv (OI A0 A0.size (.slice a1 ss.length c1) (.slice a2 ks.length c2)) ?_ 40 _ ?_
  · rintro m ⟨env, nn, dfs, A⟩ ⟨i, dv, wv, gv, ps, W, G, en, un, k0, k1, k2, k3, k4, k5, k6, k7, k8, M, P⟩
    simp only at k1 k2 k3 k4 k5 k6 k7 k8 M
    subst k1; subst k2
    by_cases hi : i < ss.length
    case' neg => simp [k3, k4, k5, k6, k7, k8, hi]
    case' pos =>
      by_cases h40 : i < 40
      case' neg =>
        have h40' : ¬ (i : Int) < 40 := by omega
        simp [k3, k4, k5, k6, k7, k8, hi, h40']
      case pos =>
        obtain ⟨d1, p1, cc1, bs1, ro1, opn1, q1, q2, q3⟩ := (h1.ext M.ext fun _ _ q => q).cell hi
        have x1 : (strs ss)[i]? = some (.string ss[i]) := by simp [strs, hi]
        rw [x1] at q3
        cases q1
        have m1 : ∃ z : Int, 0 ≤ z ∧ z ≤ ss[i].size ∧ z ≤ 50 ∧ (if (50 : Int) < ss[i].size then 50 else (ss[i].size : Int)) = z := by
          split
          · exact ⟨50, by omega, by omega, by omega, rfl⟩
          · exact ⟨_, by omega, by omega, by omega, rfl⟩
        obtain ⟨z, z0, z1, z2, z3⟩ := m1
        have h40' : (i : Int) < 40 := by omega
        have zs := sliceS_to ss[i] .i64 z z0 z1
        simp [k3, k4, k5, k6, k7, k8, hi, h40', idxA, q2, q3, foldV, minV, z3, zs]
        generalize hx : (⟨⟨ss[i].data.toList.take z.toNat⟩⟩ : ByteArray) = x
        have xs : x.size ≤ 50 := by
          rw [← hx]
          show (ss[i].data.toList.take z.toNat).length ≤ 50
          rw [List.length_take]; omega
        have hn : ps.length < 1000 := by
          have := P.sum; have := congrArg List.length this; simp at this
          have := P.cnt; omega
        refine push_ok _ _ ps.length _ en un _ x A _ M.hb M.hd (fun q => (M.od _ q).2.1 rfl) hn fun A1 dv1 n1 cs1 r1 r2 r3 r4 r5 r6 => ?_
        obtain ⟨aw, cw, hv⟩ := M.hw.read.val
        subst hv
        obtain ⟨ag, cg, hv⟩ := M.hg.read.val
        subst hv
        have lo := P.lo; have le := P.le; have hh := P.hi
        have wl : W.length < 1000 := by have := P.cnt; omega
        simp [k3, k4, k5, k6, k7, k8, hi, h40']
        by_cases hx0 : x.data = #[]
        case' pos =>
          have r1 : n1 = ps.length ∧ cs1 = pcells ps := by
            rcases r1 with ⟨_, e1, e2⟩ | ⟨e0, _⟩
            · exact ⟨e1, e2⟩
            · exact absurd hx0 e0
          obtain ⟨e1, e2⟩ := r1
          subst e1; subst e2
          have x0 : x.size = 0 := by show x.data.size = 0; rw [hx0]; rfl
          have en1 : IntKind.i64.wrap (en + x.size) = en := by rw [x0]; simp; exact IntWalk.i64_in _ (by omega)
          rw [en1] at r2
          have M2 := M.push r2 r3 r4 r5 r6
          have P2 := P.none
          simp [hx0]
        case' neg =>
          have r1 : n1 = ps.length + 1 ∧ cs1 = pcells (ps ++ [⟨en, i, x⟩]) := by
            rcases r1 with ⟨e0, _⟩ | ⟨_, e1, e2⟩
            · exact absurd e0 hx0
            · exact ⟨e1, by rw [pcells_app]; exact e2⟩
          obtain ⟨e1, e2⟩ := r1
          subst e1; subst e2
          have x0 : 0 < x.size := by
            rcases Nat.eq_zero_or_pos x.size with q | q
            · exact absurd (Array.eq_empty_of_size_eq_zero q) hx0
            · exact q
          obtain ⟨f1, P2⟩ := P.push i x x0 xs (by omega)
          have en1 : IntKind.i64.wrap (en + x.size) = en + x.size := f1
          rw [en1] at r2
          have M1 := M.push (ps' := ps ++ [⟨en, i, x⟩]) r2 (by simpa using r3) r4 r5 r6
          obtain ⟨aw2, cw2, A2, s1, s2, s3, s4⟩ := app1 A1 _ W i M1.hw (by omega)
          have M2 := M1.want s2 s3 s4
          simp [hx0, s1, lay]
        all_goals
          have wr2 : IntKind.i64.wrap (_ + 2) = _ + 2 := IntWalk.i64_in _ (OP.small P2 (by omega))
          have ne2 := OP.ne2 P2
          have lo2 := P2.lo
          have le2 := P2.le
          have hh2 := P2.hi
          obtain ⟨pl2, cn2⟩ := P2.lens
          by_cases hk : i < ks.length
          case' neg => have M4 := M2; have P4 := P2; simp [hk]
          case' pos =>
            simp [hk]
            refine wC_opsD_chk ?_
            obtain ⟨d2, p2, cc2, bs2, ro2, opn2, q4, q5, q6⟩ := (h2.ext M2.ext fun _ _ q => q).cell hk
            have x2 : (u16s ks)[i]? = some (.int .u16 (ks[i] : Nat)) := by simp [u16s, hk]
            rw [x2] at q6
            cases q4
            simp [k3, k4, k5, k6, k7, k8, hi, h40', hk, idxA, q5, q6]
            refine end_ok _ _ _ _ _ _ M2.hb ?_
            simp [k3, k4, k5, k6, k7, k8, hi, h40', hk, idxA, q5, q6, wr2, ne2]
            refine ack_ok _ _ _ _ _ _ _ _ _ M2.hb M2.hd (fun q => (M2.od _ q).2.1 rfl) (by omega) (fun _ A3 e3 => ?_) (fun hc1 hc2 A3 sv dv3 t1 t2 t3 t4 t5 t6 t7 => ?_)
            case' refine_1 =>
              have M3 := M2.same e3
              obtain ⟨ag4, cg4, A4, s1, s2, s3, s4⟩ := appN A3 _ (.slice none 0 0) G [] M3.hg SliceAt.nil (by omega) (by decide)
              have M4 := M3.got s2 s3 s4
              have P4 := P2
              simp at s1
              simp only [List.append_nil] at M4
              simp [k3, k4, k5, k6, k7, k8, hi, h40', hk, idxA, q5, q6, wr2, ne2, s1]
              refine ⟨by simp [chkOk, vbeq, k4, k8, q5, q6, idxA, hk], ?_⟩
              skip
            case' refine_2 =>
              have P4 := P2.ack hc1 hc2
              have M3 := M2.push (ps' := List.drop _ _) t1 (by rw [List.length_drop]; exact t2) t3 (t5.mono fun _ _ q => .inl q) (fun j hj => .inl (t7 j hj))
              obtain ⟨ag4, cg4, A4, s1, s2, s3, s4⟩ := appN A3 _ sv G (List.map (fun (x : Pc) => x.tag) _) M3.hg (by rw [List.length_map]; exact t4) (by omega) (by
                have a1 := (List.takeWhile_prefix (l := ps) fun p : Pc => decide (p.fin ≤ 0)).length_le
                rw [List.length_map]
                have := P4.lens
                simp only [List.length_append, List.length_map] at this
                omega)
              have M4 := M3.got s2 s3 s4
              simp at s1
              simp [k3, k4, k5, k6, k7, k8, hi, h40', hk, idxA, q5, q6, wr2, ne2, s1]
              refine ⟨by simp [chkOk, vbeq, k4, k8, q5, q6, idxA, hk], ?_⟩
              skip
        all_goals
          obtain ⟨pl4, cn4⟩ := P4.lens
          obtain ⟨a5, c5, hv⟩ := M4.hd.read.val
          subst hv
          refine flight_ok _ _ _ _ _ _ _ _ M4.hb ?_
          simp [k3, k4, k5, k6, k7, k8]
          have ws := wrap_succ i (by omega)
          refine ⟨?_, m - 1, by omega, i + 1, _, _, _, _, _, _, _, _, by omega, rfl, rfl, ?_, ?_, ?_, ?_, ?_, ?_, M4, P4⟩
          · try simp only [List.length_append, List.length_map, List.length_cons, List.length_nil, List.length_drop] at pl4 cn4
            rw [IntWalk.i64_in _ (by omega)]; omega
          · simp [k3]
          · simp [k4]
          · simp [k5]
          · simp [k6]
          · simp [k7]
          · simpa using ws
    all_goals
      obtain ⟨aw, cw, hv⟩ := M.hw.read.val
      subst hv
      obtain ⟨ag, cg, hv⟩ := M.hg.read.val
      subst hv
      have lo := P.lo; have le := P.le; have hh := P.hi
      obtain ⟨pl, cn⟩ := P.lens
      refine end_ok _ _ _ _ _ _ M.hb ?_
      simp [k3, k4, k5, k6, k7, k8]
      refine ack_ok _ _ _ _ _ _ _ _ _ M.hb M.hd (fun q => (M.od _ q).2.1 rfl) (by omega) (fun hc A3 e3 => ?_) (fun hc1 hc2 A3 sv dv3 t1 t2 t3 t4 t5 t6 t7 => ?_)
      case' refine_1 =>
        have hz := P.fin (by omega)
        have hu : un = en := by omega
        subst hu
        have M3 := M.same e3
        obtain ⟨ag4, cg4, A4, s1, s2, s3, s4⟩ := appN A3 _ (.slice none 0 0) G [] M3.hg SliceAt.nil (by omega) (by decide)
        simp at s1
        have M4 := M3.got s2 s3 s4
        simp only [List.append_nil, List.length_nil, Nat.add_zero] at M4
        have P4 := P
        simp [k3, k4, k5, k6, k7, k8, s1]
      case' refine_2 =>
        have P4 := P.ack hc1 hc2
        have hk := taken_all en ps fun p hp => (P.all p hp).2
        have hz : ps.drop (taken en ps).length = [] := by rw [hk]; simp
        have M3 := M.push (ps' := List.drop _ _) t1 (by rw [List.length_drop]; exact t2) t3 (t5.mono fun _ _ q => .inl q) (fun j hj => .inl (t7 j hj))
        obtain ⟨ag4, cg4, A4, s1, s2, s3, s4⟩ := appN A3 _ sv G (List.map (fun (x : Pc) => x.tag) _) M3.hg (by rw [List.length_map]; exact t4) (by omega) (by rw [List.length_map, hk]; omega)
        simp only [List.length_map] at s1 s2 s4
        have M4 := M3.got s2 s3 s4
        simp [k3, k4, k5, k6, k7, k8, s1]
      all_goals
        have eg := P4.sum
        rw [hz] at eg
        simp only [List.map_nil, List.append_nil] at eg
        obtain ⟨pl4, cn4⟩ := P4.lens
        refine ints_ok _ _ _ _ _ _ _ _ M4.hg.read M4.hw.read (by omega) ?_
        rw [decide_eq_true eg.symm]
        have M5 := M4
        rw [hz] at M5
        obtain ⟨a5, c5, hv⟩ := M5.hd.read.val
        subst hv
        simp [k3, k4, k5]
        refine flight_ok _ _ _ _ _ _ _ _ M5.hb ?_
        simp [k3, k4, k5]
        refine due_ok _ _ _ _ _ _ _ _ M5.hb M5.hd (by simp [pcells]) (by simp) fun A5 v5 u1 u2 u3 => ?_
        obtain ⟨a6, c6, hv⟩ := u1.read.val
        subst hv
        have M6 := M5.same u2
        simp [k3, k4, k5]
        refine una_ok _ _ _ _ _ _ M6.hb ?_
        simp [k3, k4, k5]
        refine end_ok _ _ _ _ _ _ M6.hb ?_
        simp [k3, k4, k5]
  · refine ⟨0, .slice none 0 0, .slice none 0 0, .slice none 0 0, [], [], [], 0, 0, rfl, rfl, rfl, ?_, ?_, ?_, ?_, ?_, ?_, ⟨Nat.le_refl _, ?_, .nil, .nil, .nil, ?_, ?_, ?_, ?_⟩, ⟨rfl, by simp, by omega, by omega, by omega, by simp, by simp⟩⟩
    all_goals simp [Own, Ext.alloc]
end Go.Proofs.Ytiilphienfadmaa
