/- InletSpoilt: what it answers. -/
import Derived.Test.YtidgbapgedegbaaDv
import Derived.KernelRfl
namespace Go.Proofs.Ytidgbapgedegbaa
open Go Go.AS
set_option maxRecDepth 100000
set_option linter.unusedSimpArgs false
set_option linter.unusedVariables false
attribute [local irreducible] Trie.set Trie.get Env.rd
attribute [local simp ↓] wV_b2s
attribute [local simp] Nat.add_assoc wD_cons'' wD_nil' wC_seq wC_ops wC_opsD_nil wC_cond wC_skip wC_ret wC_exit wC_block wO_cons' wO_nil wantedA wV_eq lop qop ev wL_some wL_none wPut envOf rd_set rd_leaf eqA thenC blockC wB_true wB_false endF unwindA resultsA resA tupleA rdCell rdCells wrCells cl fillP lay rep binA unA get_set' AHeap.get_alloc oneCell beqd bned idxA

set_option maxHeartbeats 3200000 in
theorem ispoilt_ok (A : AHeap) (s00 : List UInt8) (bv : Value) (bl : List Int) (idsn : Int) (sums : Bool) (a y : Nat) (bare : Bool) (hb : ∀ x ∈ bl, 0 ≤ x ∧ x < 256) (hbv : ReadAt A 1 bv bl.length (ucells bl)) (ha : a < 65536) (hy : y < 256) :
    wF T (.func (.func 10) #[] #[]) [.agg ⟨[.string ⟨⟨s00⟩⟩, bv, .int .u64 idsn, .bool sums]⟩, .int .u16 a, .int .u8 y, .bool bare] A (fun v _ => v = .bool true) := by
  refine wF_func (first := []) (captured := []) u10' ⟨rfl, by decide⟩ ?_
  dsimp only [d10']
  simp
  generalize hA1 : A.alloc _ = A1
  have e1 : Ext NoB A A1 := by rw [← hA1]; exact Ext.alloc
  have g1 : A1.get A.size = some (.cells [.string ⟨⟨s00⟩⟩, bv, .int .u64 idsn, .bool sums] false 0) := by rw [← hA1]; simp
  clear hA1
  refine yes20 A1 _ ?_
  simp [g1]
  refine chunks_ok A1 s00 bv bl idsn sums _ hb (hbv.ext e1 fun _ _ => id) fun A2 vm vt cs e2 seg hflat hsm hst => ?_
  have g2 := e2.get g1 id
  have l2 := AHeap.get_lt g2
  generalize A.size = q3 at g1 g2 l2
  have hsz : pos cs cs.length ≤ 600 := by
    have h2 := size_flat cs
    rw [hflat, List.length_take] at h2
    unfold pos
    rw [List.take_of_length_le (Nat.le_refl _)]
    omega
  have hcl : cs.length ≤ 600 := by
    have h1 := size_ge seg
    have h2 := size_flat cs
    rw [hflat, List.length_take] at h2
    omega
  obtain ⟨ma, mc, rfl⟩ := hsm.read.val
  obtain ⟨ta, tc, rfl⟩ := hst.read.val
  simp [g2]
  refine inew_ok 2048 sums idsn (by omega) (by omega) A2 _ fun A3 i e3 hi hin => ?_
  have hvm := hsm.read
  have hvt := hst.read
  have homl : ∀ j, Own (.slice ma cs.length mc) j → j < A2.size := fun j hj => hsm.own_lt hj
  have hotl : ∀ j, Own (.slice ta cs.length tc) j → j < A2.size := fun j hj => hst.own_lt hj
  by_cases cn : cs.length = 0
  · have R0 : RightOk ⟨2048, 0, fun _ => none, [], sums, idsn⟩ (rtF idsn) := right_in ⟨2048, 0, fun _ => none, [], sums, idsn⟩ fun m hm => by cases hm
    simp [cn]
    refine lnext_ok A3 i _ _ (rtF idsn) 0 mp0 [] _ hin R0 fun A4 e4 => ?_
    have : nextV ⟨2048, 0, fun _ => none, [], sums, idsn⟩ (rtF idsn) = (0, mp0, []) := rfl
    rw [this]
    simp [mp_beq]
    refine iraw_ok A4 i _ _ _ 5 (hin.extN e4) fun A5 l e5 q1 q2 => ?_
    have := q1 0 ⟨Nat.le_refl _, rfl, fun k h1 h2 => by omega⟩
    have hl : l = [] := by
      cases l with
      | nil => rfl
      | cons x l => simp only [List.length_cons] at this; omega
    subst hl
    simp
  · have hn : 0 < cs.length := by omega
    obtain ⟨c, hc1, hc2⟩ := tmod_lt a cs.length hn
    have wa : IntKind.i64.wrap (a : Int) = a := IntWalk.i64_in _ (by omega)
    have hcs : ¬ cs = [] := fun q => cn (by rw [q]; rfl)
    have ck := segs_at seg hc2
    obtain ⟨d2, o2, cc2, bs2, ro2, op2, x1, x2, x3⟩ := (hvt.ext e3 fun _ _ => id).cell hc2
    rw [strB_at, List.getElem?_map, List.getElem?_eq_getElem hc2] at x3
    cases x1
    have hlt := ck.2.2.2.1
    have hgt := ck.2.2.1
    have hte : ¬ cs[c].t = [] := fun q => by rw [q] at hgt; simp at hgt
    have wd : IntKind.u16.wrap ((a : Int) / 7) = ((a / 7 : Nat) : Int) := by rw [IntWalk.u16_in _ (by omega)]; omega
    have wd2 : IntKind.i64.wrap ((a / 7 : Nat) : Int) = ((a / 7 : Nat) : Int) := IntWalk.i64_in _ (by omega)
    obtain ⟨q, hq1, hq2⟩ := tmod_lt (a / 7) (cs[c]).t.length (by omega)
    generalize ((a / 7 : Nat) : Int) = a7 at wd wd2 hq1
    obtain ⟨z, hz1, hz2⟩ := tmod_lt y 255 (by omega)
    have hz1' : (y : Int).tmod 255 = z := hz1
    have wz : IntKind.u8.wrap ((1 : Int) + (z : Int)) = (1 : Int) + (z : Int) := IntWalk.u8_in _ (by omega)
    obtain ⟨b, hb1, hb2⟩ := xor_other ((cs[c]).t[q]) z hz2
    simp at hb2
    simp [cn, wa, hc1, hc2, hcs, x2, x3, hte, wd, wd2, hq1, hq2, hz1', wz, hb2, show q + 1 ≤ (cs[c]).t.length by omega]
    generalize hA5 : AHeap.set (A3.alloc _) A3.size _ = A5
    have e5 : Ext NoB A3 A5 := ⟨by rw [← hA5]; simp, fun j hj _ => by rw [← hA5]; simp [show j ≠ A3.size by omega]⟩
    obtain ⟨sp, hsp⟩ : ∃ sp, sp = (cs[c]).t.set q b := ⟨_, rfl⟩
    have hspl : sp.length = (cs[c]).t.length := by rw [hsp, List.length_set]
    have g5 : A5.get A3.size = some (.cells (bcells sp) false 1) := by
      rw [← hA5, hsp]
      simp [bcells, byt, List.map_set]
      rfl
    have hvs : ReadAt A5 1 (.slice (some ⟨A3.size, 0, none⟩) (cs[c]).t.length OPEN) sp.length (bcells sp) := by
      rw [← hspl]
      exact .inr (.inl ⟨A3.size, 0, OPEN, bcells sp, false, 1, rfl, g5, by simp [bcells], by rw [List.drop_zero, Nat.mul_one]; exact (List.take_of_length_le (by simp [bcells])).symm, fun q => absurd q (by decide)⟩)
    obtain ⟨tx, htx⟩ : ∃ tx, tx = if bare = true then cs.map (·.t) else (cs.map (·.t)).set c sp := ⟨_, rfl⟩
    have X : Tx cs tx := by
      rw [htx]
      split
      · exact tx_self cs
      · exact tx_set hc2 hspl
    have hx1 : ∀ j (hj : j < cs.length), tx[j]'(by rw [X.len]; exact hj) = if j = c ∧ bare = false then sp else cs[j].t := by
      intro j hj
      cases bare with
      | true => simp [htx]
      | false =>
        simp only [htx, List.getElem_set]
        by_cases h : j = c
        · subst h; simp
        · simp [h, show ¬ c = j from fun z => h z.symm]
    have hin5 := hin.extN e5
    have F0 : SpF A5 (fun j => A2.size ≤ j ∧ j < A3.size) i cs tx (fun j => !(decide (j = c)) || !bare) sums idsn 0 0 0 A5 := ⟨_, _, hin5, ⟨by simp [pos, size], fun x => by rw [if_neg (by omega)], fun m => ⟨(fun h => by cases h), (fun ⟨_, _, h, _⟩ => absurd h (by omega))⟩⟩, ⟨rfl, rfl, rfl⟩, fun j hj => .inl hj, Ext.refl⟩
    have hvm5 := (hvm.ext e3 fun _ _ => id).ext e5 fun _ _ => id
    have hvt5 := (hvt.ext e3 fun _ _ => id).ext e5 fun _ _ => id
    have g25 := e5.get (e3.get g2 id) id
    have hom : ∀ j, Own (.slice ma cs.length mc) j → ¬ (A2.size ≤ j ∧ j < A3.size) := fun j hj h => by have := homl j hj; omega
    have hot : ∀ j, Own (.slice (some ⟨d2, o2, none⟩) cs.length tc) j → ¬ (A2.size ≤ j ∧ j < A3.size) := fun j hj h => by have := hotl j hj; omega
    have hos : ∀ j, Own (.slice (some ⟨A3.size, 0, none⟩) (cs[c]).t.length OPEN) j → ¬ (A2.size ≤ j ∧ j < A3.size) := fun j ⟨_, _, _, hj⟩ h => by cases hj; omega
    clear hA5 hin hin5 e3 e5 hb2
    simp
    refine sp_l A5 _ i cs tx _ sums idsn c bare _ _ _ sp _ _ F0 seg X (by omega) hcl hc2 (fun _ => rfl) hx1 hvm5 hvt5 hvs hom hot hos ?_ ?_ ?_ ?_ ?_ ?_ fun env' A6 F6 v3 v4 v9 v10 v11 v12 v13 => ?_
    · simp
    · simp
    · simp
    · simp
    · simp
    · simp
    simp at v3 v4 v9 v10 v11 v12 v13
    simp
    refine sp_m A5 _ i cs tx _ sums idsn c _ _ _ A6 _ F6 seg X (by omega) hcl hc2 (fun j hj => by simp [hj]) (fun j hj hjc => by rw [hx1 j hj, if_neg (by simp [hjc])]) hvm5 hvt5 hom hot v9 v10 v11 v12 fun env2 A7 F7 u3 u4 u9 u10 u11 u12 u13 => ?_
    rw [v3] at u3; rw [v4] at u4; rw [v9] at u9; rw [v10] at u10; rw [v11] at u11; rw [v12] at u12; rw [v13] at u13
    simp
    exact sp_e A5 _ i cs tx _ sums idsn c bare _ _ _ sp q3 _ _ _ env2 A7 F7 seg X hcl hc2 (by simp) (by rw [hx1 c hc2]; cases bare <;> simp) hspl (fun h => by subst h; rw [hsp]; exact rt_other seg hc2 hq2 hb1) hvm5 hvt5 hvs hom hot hos g25 (fun h => by omega) u3 u4 u9 u10 u11 u12 u13
end Go.Proofs.Ytidgbapgedegbaa
