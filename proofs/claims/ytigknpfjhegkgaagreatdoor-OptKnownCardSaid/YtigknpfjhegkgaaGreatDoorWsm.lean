/- The closed law: its rows built, and the whole. -/
import Derived.Test.YtigknpfjhegkgaaGreatDoorWrm
import Derived.KernelRfl
namespace Go.Proofs.YtigknpfjhegkgaaGreatDoor
open Go Go.AS
set_option maxRecDepth 100000
set_option linter.unusedSimpArgs false
set_option linter.unusedVariables false
attribute [local irreducible] Trie.set Trie.get Env.rd
attribute [local simp ↓] wV_b2s
attribute [local simp] Nat.add_assoc wD_cons'' wD_nil' wC_seq wC_ops wC_opsD_nil wC_cond wC_skip wC_ret wC_exit wC_block wO_cons' wO_nil wantedA wV_eq lop qop ev wL_some wL_none wPut envOf rd_set rd_leaf eqA thenC blockC wB_true wB_false endF unwindA resultsA resA tupleA rdCell rdCells wrCells cl fillP lay rep bi_eql bi_neq bi_lss bi_leq bi_gtr bi_geq bi_add bi_sub bs_eql bs_neq bi_shr4 unA get_set' AHeap.get_alloc oneCell beqd bned idxA
attribute [local simp] Op.len Op.one Cap.ln Jn.len Ds.ln Ad.len Cap.one Jn.one Ds.one Ad.one Op.take Op.at0 Op.head? Op.getCap Op.tCap Op.getJn Op.getDs Op.getAd Op.getIds Op.getPrio Op.getFail Op.getFast Op.getRst Op.putCap Op.putJn Op.putDs Op.putAd Op.putSub Op.putIds Op.putPrio Op.putFail Op.putFast Op.putRf Op.putRr Op.layAll Op.zeroC Op.vb


theorem mulB (a b : Nat) (ha : a * b < 9000000000000000000) : binA .mul (.int .i64 (a : Nat)) (.int .i64 (b : Nat)) = some (.int .i64 ((a * b : Nat) : Int)) := by
  simp only [binA, ne_eq, not_true_eq_false, if_false]
  rw [show (a : Int) * (b : Int) = ((a * b : Nat) : Int) by simp]
  generalize a * b = c at ha
  rw [IntWalk.i64_in _ (by omega)]
theorem p_ok (A0 A : AHeap) (v2 : Value) (hE : EH A0) (ex : Ext NoB A0 A) (h2 : ReadAt A 38 v2 good.length (opsC good))
    (env : Env) (r1 : env.rd 1 = .string ⟨⟨zids⟩⟩) (r2 : env.rd 2 = v2) :
    wC T 9 none c9p { env := env, n := 231, dfs := [], A := A } (endF [.inl 0] (fun v _ => v = .bool true)) := by
  dsimp only [c9p]
  have b0 : fillP Op.zero.cells [(0, 1, .int .i64 9)] = some (Op.only 9).cells := rfl
  have b1 : fillP Op.zero.cells [(0, 1, .int .i64 (-1))] = some (Op.only (-1)).cells := rfl
  have b2 : fillP Op.zero.cells [(0, 1, .int .i64 2)] = some (Op.only 2).cells := rfl
  have b3 : fillP Op.zero.cells [(0, 1, .int .i64 3)] = some (Op.only 3).cells := rfl
  have b4 : fillP Op.zero.cells [(0, 1, .int .i64 4)] = some (Op.only 4).cells := rfl
  have b5' : fillP [.int .i64 0, .int .i64 0] [(1, 1, .int .i64 1)] = some [.int .i64 0, .int .i64 1] := rfl
  have b5 : fillP Op.zero.cells [(0, 1, .int .i64 5), (36, 2, .agg ⟨[.int .i64 0, .int .i64 1]⟩)] = some ({ Op.only 5 with rf := 0, rr := 1 } : Op).cells := rfl
  have b7' : fillP [.int .u64 0] [(0, 1, .int .u64 1)] = some [.int .u64 1] := rfl
  have b7 : fillP Op.zero.cells [(0, 1, .int .i64 7), (34, 1, .agg ⟨[.int .u64 1]⟩)] = some ({ Op.only 7 with fail := 1 } : Op).cells := rfl
  have hfill : fillP (rep 8 Op.zero.cells) [(0, 38, .agg ⟨(Op.only 9).cells⟩), (38, 38, .agg ⟨(Op.only (-1)).cells⟩), (76, 38, .agg ⟨(Op.only 2).cells⟩), (114, 38, .agg ⟨(Op.only 3).cells⟩), (152, 38, .agg ⟨(Op.only 4).cells⟩), (190, 38, .agg ⟨({ Op.only 5 with rf := 0, rr := 1 } : Op).cells⟩), (228, 38, .agg ⟨({ Op.only 8 with rf := 16, rr := 0 } : Op).cells⟩), (266, 38, .agg ⟨({ Op.only 7 with fail := 1 } : Op).cells⟩)] = some (opsC bads) := fill_row bads
  generalize Op.only 9 = y0 at b0 hfill
  generalize Op.only (-1) = y1 at b1 hfill
  generalize Op.only 2 = y2 at b2 hfill
  generalize Op.only 3 = y3 at b3 hfill
  generalize Op.only 4 = y4 at b4 hfill
  generalize ({ Op.only 5 with rf := 0, rr := 1 } : Op) = y5 at b5 hfill
  generalize ({ Op.only 7 with fail := 1 } : Op) = y7 at b7 hfill
  simp [-rep, -fillP, b0, b1, b2, b3, b4, b5', b5, b7', b7]
  refine rst_ok A 16 0 _ fun B eB => ?_
  generalize ({ Op.only 8 with rf := 16, rr := 0 } : Op) = y6 at hfill ⊢
  simp [-rep, -fillP, b0, b1, b2, b3, b4, b5', b5, b7', b7, hfill]
  refine m_ok A0 _ v2 (.slice (some ⟨B.size, 0, none⟩) 8 8) hE ((ex.trans eB).trans Ext.alloc) ((h2.ext eB fun _ _ q => q).ext Ext.alloc fun _ _ q => q) (.inr (.inl ⟨B.size, 0, 8, _, false, 0, rfl, by rw [AHeap.get_alloc, if_pos rfl], by rw [opsC_len]; decide, by rw [List.drop_zero, List.take_of_length_le (by rw [opsC_len]; decide)], fun q => by cases q⟩)) _ ?_ ?_ ?_
  · simp [r1]
  · simp [r2]
  · simp
def GdI (A0 : AHeap) (v2 v3 : Value) (m : Nat) (st : St) : Prop := ∃ i : Nat, i ≤ 9 ∧ m = 9 - i ∧ st.n = 231 ∧ st.dfs = [] ∧ (st.env.rd 1 = .string ⟨⟨zids⟩⟩ ∧ st.env.rd 2 = v2 ∧ st.env.rd 3 = v3 ∧ st.env.rd 4 = .int .i64 (i : Nat)) ∧ Ext NoB A0 st.A
def szC : List Value := sizes.map (.int .i64 ·)
theorem l_ok (A0 A : AHeap) (v2 v3 : Value) (hE : EH A0) (ex : Ext NoB A0 A) (h2 : ReadAt A 38 v2 good.length (opsC good)) (h3 : ReadAt A 1 v3 9 szC)
    (env : Env) (r1 : env.rd 1 = .string ⟨⟨zids⟩⟩) (r2 : env.rd 2 = v2) (r3 : env.rd 3 = v3) :
    wC T 9 none c9l { env := env, n := 231, dfs := [], A := A } (thenC (fun st => wC T 9 none c9p st (endF [.inl 0] (fun v _ => v = .bool true))) (endF [.inl 0] (fun v _ => v = .bool true))) := by
  dsimp only [c9l]
  simp
  refine wC_loop_inv (GdI A v2 v3) ?_ 9 _ ⟨0, by omega, rfl, rfl, rfl, ⟨by simp [r1], by simp [r2], by simp [r3], by simp⟩, Ext.refl⟩
  rintro m ⟨env, nn, dfs, B⟩ ⟨i, hi9, rfl, k1, k2, ⟨r1, r2, r3, r4⟩, eB⟩
  simp only at k1 k2 r1 r2 r3 r4 eB
  subst k1; subst k2
  have h2B := h2.ext eB fun _ _ q => q
  have h3B := h3.ext eB fun _ _ q => q
  have hgl : good.length = 9 := rfl
  by_cases hi : i < 9
  case neg =>
    have hii : ¬ (i : Int) < 9 := by omega
    obtain ⟨a2, c2, e2⟩ := h2.val
    have r2' := r2
    rw [e2, hgl] at r2'
    simp [r2', r4, hii]
    exact p_ok A0 B v2 hE (ex.trans eB) h2B _ (by simp [r1]) (by simp [r2])
  have hib : i < good.length := hi
  have hga := goods i hi
  unfold goodAt at hga
  rw [List.getElem?_eq_getElem hib, List.getElem?_eq_getElem (show i < sizes.length from hi)] at hga
  have hxw := good_w good[i] (List.getElem_mem hib)
  obtain ⟨d2, p2, cc2, bs2, ro2, opn2, s1, s2, s3, s4⟩ := h2B.elem2 hib
  obtain ⟨d3, p3, cc3, bs3, ro3, opn3, q1, q2, q3, q4⟩ := h3B.elem2 hi
  rw [opsC_at good i hib] at s4
  have hsz : (szC.drop (i * 1)).take 1 = [.int .i64 (sizes[i]'hi)] := by
    rw [Nat.mul_one, show szC = sizes.map (.int .i64 ·) from rfl, ← List.map_drop, ← List.map_take, List.drop_eq_getElem_cons (show i < sizes.length from hi)]
    rfl
  rw [hsz] at q4
  generalize good[i] = x at s4 hxw hga
  generalize sizes[i]'hi = n at q4 hga
  simp only at hga
  obtain ⟨t, ht⟩ : ∃ t, x.enc = t := ⟨_, rfl⟩
  rw [ht] at hga
  match t, ht, hga with
  | none, _, hga => simp at hga
  | some [], _, hga => simp at hga
  | some (b :: r), ht, hga =>
  simp only [Bool.and_eq_true, Bool.or_eq_true, decide_eq_true_eq] at hga
  obtain ⟨⟨⟨hn, hb⟩, hv0⟩, hv1⟩ := hga
  rw [Nat.add_assoc] at s3 q3
  rw [hgl] at s1
  subst s1; subst q1
  have hii : (i : Int) < 9 := by omega
  have w1 : IntKind.i64.wrap ((i : Int) + 1) = ((i + 1 : Nat) : Int) := IntWalk.i64_in _ (by omega)
  simp [r2, r3, r4, hi, hii, s2, s3, s4]
  refine encode_ok B x hxw _ fun C eC => ?_
  rw [ht]
  subst hn
  have ld2 := AHeap.get_lt s2
  have ld3 := AHeap.get_lt q2
  have zC := eC.size
  have s2C := eC.get s2 id
  have q2C := eC.get q2 id
  have q5 : bs3[p3 + i]? = some (.int .i64 ((r.length + 1 : Nat) : Int)) := by
    have := congrArg (fun l => l[0]?) q4
    simpa [List.getElem?_take, List.getElem?_drop] using this
  have s5 : bs2[p2 + (i * 38 + 2)]? = some (.int .i64 x.cap.ver) := by
    have h1 := congrArg (fun l => l[2]?) s4
    have h2 : x.cells[2]? = some (.int .i64 x.cap.ver) := rfl
    simp only [h2] at h1
    rw [← h1, List.getElem?_take, if_pos (by decide), List.getElem?_drop, Nat.add_assoc]
  obtain ⟨z, hz⟩ : ∃ z, z = i * 16 := ⟨_, rfl⟩
  have hzl : z ≤ 128 := by omega
  have hmul : binA .mul (.int .i64 (i : Nat)) (.int .i64 16) = some (.int .i64 (z : Nat)) := by rw [hz]; exact mulB i 16 (by omega)
  rw [← hz] at hb
  generalize x.cap.ver = v at hb hv0 hv1 s5
  have w2 : IntKind.u8.wrap (z : Int) = (z : Int) := IntWalk.u8_in _ (by omega)
  have w3 : IntKind.u8.wrap v = v := IntWalk.u8_in _ (by omega)
  have w4 : IntKind.u8.wrap ((z : Int) + v) = (z : Int) + v := IntWalk.u8_in _ (by omega)
  simp [resI, itemV, r2, r3, r4, hi, hii, s2C, s3, s4, s5, q2C, q3, q5, hmul, w2, w3, w4, show ¬ d2 = C.size by omega, show ¬ d3 = C.size by omega]
  generalize hG : AHeap.set _ _ _ = G
  have eG : Ext NoB B G := by subst hG; (repeat first | exact Ext.refl | assumption | refine Ext.allocN ?_ | refine Ext.setN ?_ (by first | omega | (simp; done) | (simp; omega)))
  have s2G := eG.get s2 id
  have fin : ∀ (D : AHeap) (env' : Env), Ext NoB G D → env'.rd 1 = .string ⟨⟨zids⟩⟩ → env'.rd 2 = .slice (some ⟨d2, p2, none⟩) 9 cc2 → env'.rd 3 = .slice (some ⟨d3, p3, none⟩) 9 cc3 → env'.rd 4 = .int .i64 ((i + 1 : Nat) : Int) → ∃ m', m' < 9 - i ∧ GdI A (.slice (some ⟨d2, p2, none⟩) 9 cc2) (.slice (some ⟨d3, p3, none⟩) 9 cc3) m' { env := env', n := 231, dfs := [], A := D } :=
    fun D env' eD z1 z2 z3 z4 => ⟨9 - (i + 1), by omega, i + 1, by omega, rfl, rfl, rfl, ⟨z1, z2, z3, z4⟩, (eB.trans eG).trans eD⟩
  by_cases hq : (b.toNat : Int) = (z : Int) + v
  · simp [hq, r2, r3, r4, hi, hii, s2G, s3, s4]
    refine may_ok G x hxw _ fun D eD => ?_
    rw [ht]
    simp [r4, w1]
    exact fin D _ eD (by simp [r1]) (by simp [r2]) (by simp [r3]) (by simp)
  · have hi3 : i = 3 := by rcases hb with q | q; exact q; exact absurd q hq
    subst hi3
    simp at s3 s4 r4 w1
    simp [hq, r2, r3, r4, s2G, s3, s4]
    refine may_ok G x hxw _ fun D eD => ?_
    rw [ht]
    simp [r4, w1]
    exact fin D _ eD (by simp [r1]) (by simp [r2]) (by simp [r3]) (by simp)
theorem zids_ok (A : AHeap) : ∀ cs : List Value, cs = List.replicate 37 (.int .u8 0) → b2s (A.alloc (.cells cs false 0)) (.slice (some ⟨A.size, 0, none⟩) 37 37) = some (.string ⟨⟨zids⟩⟩) := by
  rintro cs rfl
  have hb : bcells zids = List.replicate 37 (.int .u8 0) := rfl
  exact b2s_ok (l := zids) (.inr (.inl ⟨A.size, 0, 37, _, false, 0, rfl, by rw [AHeap.get_alloc, if_pos rfl], by simp [zids], by rw [List.drop_zero, hb]; rfl, fun q => absurd q (by decide)⟩))
theorem known_ok (A : AHeap) (hE : EH A) : wF T (.func (.func 9) #[] #[]) [] A (fun v _ => v = .bool true) := by
  refine wF_func (first := []) (captured := []) t9 ⟨rfl, by decide⟩ ?_
  dsimp only [c9]
  have hz := zids_ok A (rep 37 [.int .u8 0]) rfl
  have c0' : fillP [.int .i64 0, .int .i64 0, .bool false, .bool false, .int .u64 0, .int .u64 0, .int .i64 0, .int .u16 0] [(1, 1, .int .i64 1)] = some ({ Op.zero.cap with ver := 1 } : Cap).cells := rfl
  have c0 : fillP Op.zero.cells [(1, 8, .agg ⟨({ Op.zero.cap with ver := 1 } : Cap).cells⟩)] = some ({ Op.zero with cap := { Op.zero.cap with ver := 1 } } : Op).cells := rfl
  have c1 : fillP Op.zero.cells [(0, 1, .int .i64 1)] = some (Op.only 1).cells := rfl
  have c2' : fillP [.bool false, .bool false, .bool false, .int .u64 0, .bool false, .bool false, .int .u64 0, .int .u32 0, .int .i64 0, .bool false, .int .u16 0] [(1, 1, .bool true)] = some ({ Op.zero.ds with hasAck := true } : Ds).cells := rfl
  have c2 : fillP Op.zero.cells [(0, 1, .int .i64 2), (15, 11, .agg ⟨({ Op.zero.ds with hasAck := true } : Ds).cells⟩)] = some ({ Op.only 2 with ds := { Op.zero.ds with hasAck := true } } : Op).cells := rfl
  have c3' : fillP [.bool false, .int .i64 0, .string ⟨⟨[]⟩⟩, .bool false, .int .i64 0, .string ⟨⟨[]⟩⟩] [(0, 1, .bool true), (2, 1, .string ⟨⟨[97, 98, 99, 100]⟩⟩)] = some ({ Op.zero.ad with echo := true, ip := [97, 98, 99, 100] } : Ad).cells := rfl
  have c3 : fillP Op.zero.cells [(0, 1, .int .i64 3), (26, 6, .agg ⟨({ Op.zero.ad with echo := true, ip := [97, 98, 99, 100] } : Ad).cells⟩)] = some ({ Op.only 3 with ad := { Op.zero.ad with echo := true, ip := [97, 98, 99, 100] } } : Op).cells := rfl
  have c4' : fillP [.string ⟨⟨[]⟩⟩] [(0, 1, .string ⟨⟨[97]⟩⟩)] = some [.string ⟨⟨[97]⟩⟩] := rfl
  have c4 : fillP Op.zero.cells [(0, 1, .int .i64 4), (32, 1, .agg ⟨[.string ⟨⟨[97]⟩⟩]⟩)] = some ({ Op.only 4 with ids := [97] } : Op).cells := rfl
  have c6 : fillP Op.zero.cells [(0, 1, .int .i64 6)] = some (Op.only 6).cells := rfl
  have c7 : fillP Op.zero.cells [(0, 1, .int .i64 7)] = some (Op.only 7).cells := rfl
  have hfill : fillP (rep 9 Op.zero.cells) [(0, 38, .agg ⟨({ Op.zero with cap := { Op.zero.cap with ver := 1 } } : Op).cells⟩), (38, 38, .agg ⟨(Op.only 1).cells⟩), (76, 38, .agg ⟨({ Op.only 2 with ds := { Op.zero.ds with hasAck := true } } : Op).cells⟩), (114, 38, .agg ⟨({ Op.only 3 with ad := { Op.zero.ad with echo := true, ip := [97, 98, 99, 100] } } : Op).cells⟩), (152, 38, .agg ⟨({ Op.only 4 with ids := [97] } : Op).cells⟩), (190, 38, .agg ⟨({ Op.only 5 with prio := false } : Op).cells⟩), (228, 38, .agg ⟨(Op.only 6).cells⟩), (266, 38, .agg ⟨(Op.only 7).cells⟩), (304, 38, .agg ⟨({ Op.only 8 with rf := 0, rr := 0 } : Op).cells⟩)] = some (opsC good) := fill_row good
  have hsize : fillP (rep 9 [.int .i64 0]) [(0, 1, .int .i64 2), (1, 1, .int .i64 10), (2, 1, .int .i64 6), (3, 1, .int .i64 6), (4, 1, .int .i64 2), (5, 1, .int .i64 1), (6, 1, .int .i64 10), (7, 1, .int .i64 10), (8, 1, .int .i64 2)] = some szC := rfl
  generalize ({ Op.zero with cap := { Op.zero.cap with ver := 1 } } : Op) = y0 at c0 hfill
  generalize ({ Op.zero.cap with ver := 1 } : Cap).cells = z0 at c0' c0
  generalize Op.only 1 = y1 at c1 hfill
  generalize ({ Op.only 2 with ds := { Op.zero.ds with hasAck := true } } : Op) = y2 at c2 hfill
  generalize ({ Op.zero.ds with hasAck := true } : Ds).cells = z2 at c2' c2
  generalize ({ Op.only 3 with ad := { Op.zero.ad with echo := true, ip := [97, 98, 99, 100] } } : Op) = y3 at c3 hfill
  generalize ({ Op.zero.ad with echo := true, ip := [97, 98, 99, 100] } : Ad).cells = z3 at c3' c3
  generalize ({ Op.only 4 with ids := [97] } : Op) = y4 at c4 hfill
  generalize Op.only 6 = y6 at c6 hfill
  generalize Op.only 7 = y7 at c7 hfill
  simp [-rep, -fillP, hz]
  generalize hB : AHeap.alloc _ _ = B
  have eB : Ext NoB A B := by subst hB; exact Ext.alloc
  simp [-rep, -fillP, c0', c0, c1, c2', c2, c3', c3, c4', c4, c6, c7]
  refine prio_ok B false _ fun C eC => ?_
  generalize ({ Op.only 5 with prio := false } : Op) = y5 at hfill ⊢
  simp [-rep, -fillP, c0', c0, c1, c2', c2, c3', c3, c4', c4, c6, c7]
  refine rst_ok C 0 0 _ fun D eD => ?_
  generalize ({ Op.only 8 with rf := 0, rr := 0 } : Op) = y8 at hfill ⊢
  simp [-rep, -fillP, hfill, hsize]
  have eD' := (eB.trans eC).trans eD
  have e2 : Ext NoB D ((D.alloc (.cells (opsC good) false 0)).alloc (.cells szC false 0)) := Ext.trans Ext.alloc Ext.alloc
  refine l_ok A _ (.slice (some ⟨D.size, 0, none⟩) 9 9) (.slice (some ⟨D.size + 1, 0, none⟩) 9 9) hE (eD'.trans e2) (.inr (.inl ⟨D.size, 0, 9, _, false, 0, rfl, by simp; rfl, by rw [opsC_len]; decide, by rw [List.drop_zero, List.take_of_length_le (by rw [opsC_len]; decide)], fun q => by cases q⟩)) (.inr (.inl ⟨D.size + 1, 0, 9, _, false, 0, rfl, by simp; rfl, by decide, by rw [List.drop_zero, List.take_of_length_le (by decide)], fun q => by cases q⟩)) _ ?_ ?_ ?_
  · simp
  · simp
  · simp
end Go.Proofs.YtigknpfjhegkgaaGreatDoor
