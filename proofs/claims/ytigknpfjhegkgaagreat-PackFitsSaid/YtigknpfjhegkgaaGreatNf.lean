/- Texts of this claim, one behind the other. -/
import Derived.Test.YtigknpfjhegkgaaGreatDdm
import Derived.Test.YtigknpfjhegkgaaGreatXlm
import Derived.KernelRfl
section
/- What is packed has an area; ranks rise; taken and left are all (plain law). -/
namespace Go.Proofs.YtigknpfjhegkgaaGreat
open Go Go.AS
set_option maxRecDepth 100000
set_option linter.unusedSimpArgs false
set_option linter.unusedVariables false
attribute [local irreducible] Trie.set Trie.get Env.rd
attribute [local simp ↓] wV_b2s
attribute [local simp] Nat.add_assoc wD_cons'' wD_nil' wC_seq wC_ops wC_opsD_nil wC_cond wC_skip wC_ret wC_exit wC_block wO_cons' wO_nil wantedA wV_eq lop qop ev wL_some wL_none wPut envOf rd_set rd_leaf eqA thenC blockC wB_true wB_false endF unwindA resultsA resA tupleA rdCell rdCells wrCells cl fillP lay rep bi_eql bi_neq bi_lss bi_leq bi_gtr bi_geq bi_add bi_sub bs_eql bs_neq bi_shr4 unA get_set' AHeap.get_alloc oneCell beqd bned idxA
attribute [local simp] Op.len Op.one Op.take Op.at0 Op.head? Op.getCap Op.getAd Op.layAll Op.zeroC Op.vb

theorem opsC_one : ∀ l : List Op, (opsC l).all oneCell = true
  | [] => rfl
  | x :: l => by
    show (x.cells ++ opsC l).all oneCell = true
    rw [List.all_append, Op.one, opsC_one l]; rfl
/-- A row of options behind another. -/
theorem appOs (A : AHeap) (v x : Value) (l t : List Op) (h : SliceAt A 38 v l.length (opsC l)) (hx : ReadAt A 38 x t.length (opsC t)) (hn : l.length + t.length < 1000000) :
    ∃ a' c' A', appA A 38 288 v x = some (.slice a' (l.length + t.length) c', A') ∧ SliceAt A' 38 (.slice a' (l.length + t.length) c') (l ++ t).length (opsC (l ++ t)) ∧ Ext (Own v) A A' ∧ ∀ j, Own (.slice a' (l.length + t.length) c') j → Own v j ∨ A.size ≤ j := by
  have hf := hx.firstA (Nat.le_refl _)
  rw [List.take_of_length_le (by rw [opsC_len]; exact Nat.le_refl _)] at hf
  obtain ⟨v', A', k1, k2, k3, k4⟩ := h.append (x := x) (m := t.length) (bytes := 288) (new := opsC t) (by decide) hx.lenA hf (opsC_one t) (by rw [opsC_len]) (by omega) (by decide) (by obtain ⟨a, c, rfl⟩ := hx.val; simp [isStr])
  obtain ⟨a', c', hv⟩ := k2.read.val
  subst hv
  refine ⟨a', c', A', k1, ?_, k3, k4⟩
  have e : opsC (l ++ t) = opsC l ++ opsC t := by simp [opsC]
  rw [e, List.length_append]
  exact k2
theorem takes_pos {x : Op} : 0 < takes x ↔ x.enc.isSome = true := by
  unfold takes
  cases x.enc with
  | none => simp
  | some l => simp; omega
theorem sumA_pick (l : List Op) : ∀ K : List Nat, (∀ k ∈ K, k < l.length) → sumA (pickO l K) = sumP (szO l) K
  | [], _ => rfl
  | k :: K, h => by
    have hk := h k (List.mem_cons_self ..)
    rw [pickO_cons l K hk, sumA, sumA_pick l K fun x hx => h x (List.mem_cons_of_mem _ hx), sumP, szO_at hk]
theorem fits_sum (l : List Op) (r : Int) : sumA (takeO l r) ≤ max 0 r := by
  unfold takeO
  rw [sumA_pick l _ (taken_lt l r)]
  exact fitP_sum _ _ _
theorem fits_may (l : List Op) (r : Int) : ∀ x ∈ takeO l r, x.enc.isSome = true := fun x hx => by
  obtain ⟨i, h1, h2, rfl⟩ := pickO_mem hx
  have h3 := (ordO_is l).1.subset ((fitP_sub _ _ _).subset h1)
  have h4 := (List.mem_filter.1 h3).2
  rw [szO_at h2] at h4
  exact takes_pos.1 (by simpa using h4)
theorem rank_up (l : List Op) : ∀ K : List Nat, (∀ k ∈ K, k < l.length) → Ord (rkO l) K → (pickO l K).Pairwise fun a b => rankO a ≤ rankO b
  | [], _, _ => by simp [pickO]
  | k :: K, h, ho => by
    have hk := h k (List.mem_cons_self ..)
    have ho' := List.pairwise_cons.1 ho
    rw [pickO_cons l K hk, List.pairwise_cons]
    refine ⟨fun y hy => ?_, rank_up l K (fun x hx => h x (List.mem_cons_of_mem _ hx)) ho'.2⟩
    obtain ⟨i, h1, h2, rfl⟩ := pickO_mem hy
    have := ho'.1 i h1
    unfold Be at this
    rw [rkO_at hk, rkO_at h2] at this
    omega
theorem fits_rank (l : List Op) (r : Int) : (takeO l r).Pairwise fun a b => rankO a ≤ rankO b :=
  rank_up l _ (taken_lt l r) (List.Pairwise.sublist (fitP_sub _ _ _) (ordO_is l).2)
theorem raw_sum : ∀ t : List Op, (∀ x ∈ t, x.enc.isSome = true) → ((Ar.raw (t.map itO)).length : Int) = sumA t
  | [], _ => rfl
  | x :: t, h => by
    have ih := raw_sum t fun z hz => h z (List.mem_cons_of_mem _ hz)
    have hx := h x (List.mem_cons_self ..)
    have e : (Ar.raw ((x :: t).map itO)).length = (itO x).raw.length + (Ar.raw (t.map itO)).length := by simp [Ar.raw]
    rw [e, Ar.It.raw_len, sumA, ← ih]
    have : 2 + (itO x).body.size = takes x := by
      unfold itO takes
      cases hq : x.enc with
      | none => rw [hq] at hx; cases hx
      | some l => rfl
    omega
theorem sumA_nn : ∀ t : List Op, 0 ≤ sumA t
  | [] => by simp [sumA]
  | y :: t => by have := sumA_nn t; rw [sumA]; omega
theorem sumA_mem (t : List Op) (x : Op) (h : x ∈ t) : (takes x : Int) ≤ sumA t := by
  induction t with
  | nil => cases h
  | cons y t ih =>
    rw [sumA]
    have h0 := sumA_nn t
    rcases List.mem_cons.1 h with q | q
    · rw [q]; omega
    · have := ih q; omega
theorem padlen (l : List UInt8) : (Ar.pad l).length = l.length + (4 - l.length % 4) % 4 := by simp [Ar.pad]
/-- What is taken has an area. -/
theorem fits_lay (t : List Op) (hm : ∀ x ∈ t, x.enc.isSome = true) (hs : sumA t ≤ 40) : ∃ b : List UInt8, layO t = (⟨⟨b⟩⟩, 0) ∧ b.length ≤ 40 ∧ sumA t ≤ (b.length : Int) ∧ (b.length : Int) ≤ sumA t + 3 := by
  have hr := raw_sum t hm
  have ha : t.all (fun x => x.enc.isSome) = true := List.all_eq_true.2 hm
  have hok : (t.map itO).all (fun x => decide x.ok) = true := by
    rw [List.all_eq_true]
    intro y hy
    obtain ⟨x, hx, rfl⟩ := List.mem_map.1 hy
    refine decide_eq_true (show 2 ≤ (30 : Int) ∧ (30 : Int) ≤ 255 ∧ (itO x).body.size ≤ 253 from ⟨by decide, by decide, ?_⟩)
    have h1 := sumA_mem t x hx
    have h2 := hm x hx
    unfold takes at h1
    unfold itO
    cases hq : x.enc with
    | none => rw [hq] at h2; cases h2
    | some l =>
      rw [hq] at h1
      show l.length ≤ 253
      simp only at h1
      omega
  refine ⟨Ar.pad (Ar.raw (t.map itO)), ?_, ?_, ?_, ?_⟩
  · unfold layO
    rw [if_pos ha]
    unfold Ar.layR
    rw [if_pos hok, if_pos (by omega)]
  · rw [padlen]; omega
  · rw [padlen]; omega
  · rw [padlen]; omega
theorem pick_range (l : List Op) : ∀ k, k ≤ l.length → pickO l (List.range k) = l.take k
  | 0, _ => by simp [pickO]
  | k + 1, h => by
    rw [List.range_succ, pickO_snoc l _ (show k < l.length by omega), pick_range l k (by omega), List.take_add_one, List.getElem?_eq_getElem (show k < l.length by omega)]
    rfl
theorem pick_filter (l : List Op) (p : Op → Bool) (s : Nat → Bool) : ∀ K : List Nat, (∀ k ∈ K, ∀ h : k < l.length, s k = p l[k]) → (∀ k ∈ K, k < l.length) → pickO l (K.filter s) = (pickO l K).filter p
  | [], _, _ => rfl
  | k :: K, h, hl => by
    have hk := hl k (List.mem_cons_self ..)
    have ih := pick_filter l p s K (fun x hx => h x (List.mem_cons_of_mem _ hx)) fun x hx => hl x (List.mem_cons_of_mem _ hx)
    have hs := h k (List.mem_cons_self ..) hk
    rw [pickO_cons l K hk, List.filter_cons, List.filter_cons, ← hs]
    split
    · rw [pickO_cons l _ hk, ih]
    · exact ih
theorem pickO_app (l : List Op) (a b : List Nat) : pickO l (a ++ b) = pickO l a ++ pickO l b := by simp [pickO, List.filterMap_append]
/-- What is taken and what is left are all that may be. -/
theorem fits_perm (l : List Op) (r : Int) : (takeO l r ++ leftO l r).Perm (l.filter fun x => decide (0 < takes x)) := by
  have h1 : pickO l (placesO l) = l.filter fun x => decide (0 < takes x) := by
    have := pick_filter l (fun x => decide (0 < takes x)) (fun i => decide (0 < szO l i)) (List.range l.length) (fun k _ h => by rw [szO_at h]) (fun k hk => by simpa using hk)
    rw [pick_range l _ (Nat.le_refl _), List.take_length] at this
    exact this
  have hT : (takenO l r).Nodup := by
    have : (ordO l).Nodup := (ordO_is l).1.symm.nodup ((placesO_up l).imp fun h => by omega)
    exact this.sublist (fitP_sub _ _ _)
  have hP : (placesO l).Nodup := (placesO_up l).imp fun h => by omega
  have := part_perm hT hP fun x hx => (ordO_is l).1.subset ((fitP_sub _ _ _).subset hx)
  rw [← h1]
  unfold takeO leftO leftP
  rw [← pickO_app]
  exact this.filterMap _
theorem fits_count (l : List Op) (r : Int) (x : Op) : (takeO l r ++ leftO l r).count x = if x.enc.isSome then l.count x else 0 := by
  rw [(fits_perm l r).count_eq]
  by_cases h : x.enc.isSome = true
  · rw [if_pos h, List.count_filter (by simpa using takes_pos.2 h)]
  · rw [if_neg h, List.count_eq_zero]
    intro q
    have := (List.mem_filter.1 q).2
    exact h (takes_pos.1 (by simpa using this))
theorem fits_from (l : List Op) (r : Int) : ∀ x ∈ takeO l r ++ leftO l r, 0 < l.count x := fun x hx => by
  have := (fits_perm l r).subset hx
  exact List.count_pos_iff.2 (List.mem_filter.1 this).1
end Go.Proofs.YtigknpfjhegkgaaGreat
end

section
/- What is packed fits: the loops. -/
namespace Go.Proofs.YtigknpfjhegkgaaGreat
open Go Go.AS
set_option maxRecDepth 100000
set_option linter.unusedSimpArgs false
set_option linter.unusedVariables false
attribute [local irreducible] Trie.set Trie.get Env.rd
attribute [local simp ↓] wV_b2s
attribute [local simp] Nat.add_assoc wD_cons'' wD_nil' wC_seq wC_ops wC_opsD_nil wC_cond wC_skip wC_ret wC_exit wC_block wO_cons' wO_nil wantedA wV_eq lop qop ev wL_some wL_none wPut envOf rd_set rd_leaf eqA thenC blockC wB_true wB_false endF unwindA resultsA resA tupleA rdCell rdCells wrCells cl fillP lay rep bi_eql bi_neq bi_lss bi_leq bi_gtr bi_geq bi_add bi_sub bs_eql bs_neq bi_shr4 unA get_set' AHeap.get_alloc oneCell beqd bned idxA
attribute [local simp] Op.len Op.one Op.take Op.at0 Op.head? Op.getCap Op.getAd Op.layAll Op.zeroC Op.vb

/-- What stays in the frame. -/
def Kp (e e0 : Env) : Prop := e.rd 0 = e0.rd 0 ∧ e.rd 6 = e0.rd 6 ∧ e.rd 7 = e0.rd 7 ∧ e.rd 8 = e0.rd 8 ∧ e.rd 27 = e0.rd 27 ∧ e.rd 28 = e0.rd 28
def FsI (A1 : AHeap) (env0 : Env) (t : List Op) (m : Nat) (st : St) : Prop := ∃ k, m + k = t.length ∧ st.n = 150 ∧ st.dfs = [] ∧ Kp st.env env0 ∧ st.env.rd 9 = .int .i64 (sumA (t.take k)) ∧ st.env.rd 10 = .int .i64 (k : Nat) ∧ Ext NoB A1 st.A
theorem fs_ok (A1 : AHeap) (tv : Value) (t : List Op) (ht : ReadAt A1 38 tv t.length (opsC t)) (htl : t.length ≤ 30) (hw : ∀ x ∈ t, OkO x) (hm : ∀ x ∈ t, x.enc.isSome = true) (hr : t.Pairwise fun a b => rankO a ≤ rankO b) (env : Env) (r7 : env.rd 7 = tv) (r9 : env.rd 9 = .int .i64 0) (Q : AExit → St → Prop)
    (hq : ∀ env' A', Kp env' env → env'.rd 9 = .int .i64 (sumA t) → Ext NoB A1 A' → Q .normal { env := env', n := 150, dfs := [], A := A' }) :
    wC T 6 none c6s { env := env, n := 150, dfs := [], A := A1 } Q := by
  dsimp only [c6s]
  obtain ⟨a7, c7, rfl⟩ := ht.val
  simp
  refine wC_loop_inv (FsI A1 env t) ?_ t.length _ ⟨0, rfl, rfl, rfl, ⟨by simp, by simp, by simp, by simp, by simp, by simp⟩, by simp [r9, sumA], by simp, Ext.refl⟩
  rintro m ⟨env', nn, dfs, A⟩ ⟨k, k0, k1, k2, ⟨s0, s6, s7, s8, s27, s28⟩, s9, s10, e1⟩
  simp only at k1 k2 s0 s6 s7 s8 s27 s28 s9 s10 e1
  have s7' := s7
  rw [r7] at s7'
  subst k1; subst k2
  by_cases hk : k < t.length
  case neg =>
    have hkk : ¬ (k : Int) < (t.length : Int) := by omega
    rw [List.take_of_length_le (by omega)] at s9
    simp [s7', s10, hkk, hk]
    refine hq _ _ ⟨?_, ?_, ?_, ?_, ?_, ?_⟩ ?_ e1 <;> simp [s0, s6, s7, s8, s27, s28, s9]
  have hkk : (k : Int) < (t.length : Int) := by omega
  obtain ⟨d1, p1, cc1, bs1, ro1, opn1, q1, q2, q3, q4⟩ := (ht.ext e1 fun _ _ q => q).elem2 hk
  rw [opsC_at t k hk] at q4
  rw [Nat.add_assoc] at q3
  cases q1
  have hok := hw _ (List.getElem_mem hk)
  have hmx := hm _ (List.getElem_mem hk)
  have hbd := sumA_le (t.take k) fun x hx => hw x (List.mem_of_mem_take hx)
  have hlt : (t.take k).length ≤ 30 := by rw [List.length_take]; omega
  have htk : t.take (k + 1) = t.take k ++ [t[k]] := by rw [List.take_add_one, List.getElem?_eq_getElem hk]; rfl
  have hrk : ∀ (h : k - 1 < t.length), 0 < k → rankO (t[k - 1]'h) ≤ rankO t[k] := fun h h0 => List.pairwise_iff_getElem.1 hr (k - 1) k h hk (by omega)
  generalize t[k] = x at q4 hok htk hmx hrk
  have htl2 := takes_le hok
  have ws := wrap_succ k (by omega)
  have wadd : IntKind.i64.wrap (sumA (t.take k) + (takes x : Nat)) = sumA (t.take k) + (takes x : Nat) := IntWalk.i64_in _ (by omega)
  simp [s7', s9, s10, hkk, hk, q2, q3, q4]
  refine size_ok A x hok.1 _ hok.2 fun B e2 => ?_
  have qB := e2.get q2 id
  have e12 := e1.trans e2
  simp [wadd]
  refine wC_opsD_chk ?_
  simp [s7', s10, hkk, hk, qB, q3, q4]
  refine may_ok B x hok.1 _ fun C e3 => ?_
  have qC := e3.get qB id
  have e13 := e12.trans e3
  rw [hmx]
  by_cases h0 : k = 0
  · subst h0
    simp [s10]
    refine wE_intro ?_ ?_
    · simp only [List.all_cons, List.all_nil, chkOk, List.nil_append, List.cons_append, List.getElem?_cons_succ, List.getElem?_cons_zero]
      simp [Bx]
    · simp [s10]
      refine ⟨m - 1, by omega, 1, by omega, rfl, rfl, ⟨by simp [s0], by simp [s6], by simp [s7], by simp [s8], by simp [s27], by simp [s28]⟩, ?_, by simp [show IntKind.i64.wrap 1 = 1 by decide], e13⟩
      rw [htk]; simp [sumA_app, sumA]
  · obtain ⟨j, rfl⟩ : ∃ j, k = j + 1 := ⟨k - 1, by omega⟩
    have hj : j < t.length := by omega
    have hrj := hrk hj (by omega)
    simp only [Nat.add_sub_cancel] at hrj
    have h0' : (0 : Int) < (j : Int) + 1 := by omega
    have h0l : (0 : Int) ≤ (j : Int) + 1 := by omega
    have htn : ((j : Int) + 1).toNat = j + 1 := by omega
    have hjj : (j : Int) < (t.length : Int) := by omega
    have hkk' : (j : Int) + 1 < (t.length : Int) := by omega
    have wj : IntKind.i64.wrap (j : Int) = (j : Int) := IntWalk.i64_in _ (by omega)
    have ws' : IntKind.i64.wrap ((j : Int) + 1 + 1) = ((j + 1 + 1 : Nat) : Int) := IntWalk.i64_in _ (by omega)
    simp at s10
    simp [s7', s10, hkk, hkk', hk, qC, q3, q4, h0', h0l, htn]
    refine rank_ok C x _ fun D e4 => ?_
    obtain ⟨d2, p2, cc2, bs2, ro2, opn2, u1, u2, u3, u4⟩ := (ht.ext e13 fun _ _ q => q).elem2 hj
    rw [opsC_at t j hj] at u4
    rw [Nat.add_assoc] at u3
    cases u1
    have uD := e4.get u2 id
    generalize t[j] = y at u4 hrj
    simp [s7', s10, hkk, hkk', hk, hj, hjj, wj, uD, u3, u4]
    refine rank_ok D y _ fun E e5 => ?_
    have uE := e5.get uD id
    have hnl : ¬ rankO x < rankO y := by omega
    simp [hnl]
    refine wE_intro ?_ ?_
    · simp only [List.all_cons, List.all_nil, chkOk, List.nil_append, List.cons_append, List.getElem?_cons_succ, List.getElem?_cons_zero]
      simp [Bx, u2, uD, uE, u3, u4, vbeq]
    · simp [s10, ws']
      refine ⟨m - 1, by omega, j + 1 + 1, by omega, rfl, rfl, ⟨by simp [s0], by simp [s6], by simp [s7], by simp [s8], by simp [s27], by simp [s28]⟩, ?_, by simp, (e13.trans e4).trans e5⟩
      rw [htk]; simp [sumA_app, sumA]
def FpI (A1 : AHeap) (env0 : Env) (av : Value) (l : List Op) (m : Nat) (st : St) : Prop := ∃ k, m + k = l.length ∧ st.n = 150 ∧ st.dfs = [] ∧ Kp st.env env0 ∧ st.env.rd 13 = av ∧ st.env.rd 14 = .int .i64 (k : Nat) ∧ Ext NoB A1 st.A
theorem fp_ok (A1 : AHeap) (v av : Value) (l al : List Op) (hl : ReadAt A1 38 v l.length (opsC l)) (ha : ReadAt A1 38 av al.length (opsC al)) (hn : l.length ≤ 30) (hal : al.length ≤ 100) (hw : ∀ x ∈ l, OkO x) (hc : ∀ x, al.count x = if x.enc.isSome then l.count x else 0) (env : Env) (r0 : env.rd 0 = v) (r13 : env.rd 13 = av) (Q : AExit → St → Prop)
    (hq : ∀ env' A', Kp env' env → env'.rd 13 = av → Ext NoB A1 A' → Q .normal { env := env', n := 150, dfs := [], A := A' }) :
    wC T 6 none c6p { env := env, n := 150, dfs := [], A := A1 } Q := by
  dsimp only [c6p]
  obtain ⟨a0, c0, rfl⟩ := hl.val
  simp
  refine wC_loop_inv (FpI A1 env av l) ?_ l.length _ ⟨0, rfl, rfl, rfl, ⟨by simp, by simp, by simp, by simp, by simp, by simp⟩, by simp [r13], by simp, Ext.refl⟩
  rintro m ⟨env', nn, dfs, A⟩ ⟨k, k0, k1, k2, ⟨s0, s6, s7, s8, s27, s28⟩, s13, s14, e1⟩
  simp only at k1 k2 s0 s6 s7 s8 s27 s28 s13 s14 e1
  have s0' := s0
  rw [r0] at s0'
  subst k1; subst k2
  by_cases hk : k < l.length
  case neg =>
    have hkk : ¬ (k : Int) < (l.length : Int) := by omega
    simp [s0', s14, hkk, hk]
    refine hq _ _ ⟨?_, ?_, ?_, ?_, ?_, ?_⟩ ?_ e1 <;> simp [s0, s6, s7, s8, s27, s28, s13]
  have hkk : (k : Int) < (l.length : Int) := by omega
  obtain ⟨d1, p1, cc1, bs1, ro1, opn1, q1, q2, q3, q4⟩ := (hl.ext e1 fun _ _ q => q).elem2 hk
  rw [opsC_at l k hk] at q4
  rw [Nat.add_assoc] at q3
  cases q1
  have hok := hw _ (List.getElem_mem hk)
  generalize l[k] = x at q4 hok
  have hcx := hc x
  have ws := wrap_succ k (by omega)
  simp [s0', s14, hkk, hk, q2, q3, q4]
  refine may_ok A x hok.1 _ fun B e2 => ?_
  have qB := e2.get q2 id
  have e12 := e1.trans e2
  cases hm : x.enc.isSome with
  | false =>
    rw [hm] at hcx
    simp [s0', s14, hkk, hk, qB, q3, q4, s13]
    refine count_ok B av al x (ha.ext e12 fun _ _ q => q) (by omega) _ fun C e3 => ?_
    have hz : ((al.count x : Nat) : Int) = 0 := by rw [hcx]; rfl
    have hz' : al.count x = 0 := by rw [hcx]; rfl
    simp [hz, hz', s14, ws]
    exact ⟨m - 1, by omega, k + 1, by omega, rfl, rfl, ⟨by simp [s0], by simp [s6], by simp [s7], by simp [s8], by simp [s27], by simp [s28]⟩, by simp [s13], by simp, e12.trans e3⟩
  | true =>
    rw [hm, if_pos rfl] at hcx
    simp [s0', s14, hkk, hk, qB, q3, q4, s13]
    refine count_ok B _ l x (hl.ext e12 fun _ _ q => q) (by omega) _ fun C e3 => ?_
    have qC := e3.get qB id
    have e13 := e12.trans e3
    simp [s0', s14, hkk, hk, qC, q3, q4, s13]
    refine count_ok C av al x (ha.ext e13 fun _ _ q => q) (by omega) _ fun D e4 => ?_
    rw [hcx]
    simp [s14, ws]
    exact ⟨m - 1, by omega, k + 1, by omega, rfl, rfl, ⟨by simp [s0], by simp [s6], by simp [s7], by simp [s8], by simp [s27], by simp [s28]⟩, by simp [s13], by simp, e13.trans e4⟩
def FqI (A1 : AHeap) (env0 : Env) (av : Value) (al : List Op) (m : Nat) (st : St) : Prop := ∃ k, m + k = al.length ∧ st.n = 150 ∧ st.dfs = [] ∧ Kp st.env env0 ∧ st.env.rd 13 = av ∧ st.env.rd 16 = .int .i64 (k : Nat) ∧ Ext NoB A1 st.A
theorem fq_ok (A1 : AHeap) (v av : Value) (l al : List Op) (hl : ReadAt A1 38 v l.length (opsC l)) (ha : ReadAt A1 38 av al.length (opsC al)) (hn : l.length ≤ 30) (hal : al.length ≤ 100) (hc : ∀ x ∈ al, 0 < l.count x) (env : Env) (r0 : env.rd 0 = v) (r13 : env.rd 13 = av) (Q : AExit → St → Prop)
    (hq : ∀ env' A', Kp env' env → Ext NoB A1 A' → Q .normal { env := env', n := 150, dfs := [], A := A' }) :
    wC T 6 none c6q { env := env, n := 150, dfs := [], A := A1 } Q := by
  dsimp only [c6q]
  obtain ⟨a0, c0, rfl⟩ := ha.val
  simp
  refine wC_loop_inv (FqI A1 env (.slice a0 al.length c0) al) ?_ al.length _ ⟨0, rfl, rfl, rfl, ⟨by simp, by simp, by simp, by simp, by simp, by simp⟩, by simp [r13], by simp, Ext.refl⟩
  rintro m ⟨env', nn, dfs, A⟩ ⟨k, k0, k1, k2, ⟨s0, s6, s7, s8, s27, s28⟩, s13, s16, e1⟩
  simp only at k1 k2 s0 s6 s7 s8 s27 s28 s13 s16 e1
  have s0' := s0
  rw [r0] at s0'
  subst k1; subst k2
  by_cases hk : k < al.length
  case neg =>
    have hkk : ¬ (k : Int) < (al.length : Int) := by omega
    simp [s13, s16, hkk, hk]
    refine hq _ _ ⟨?_, ?_, ?_, ?_, ?_, ?_⟩ e1 <;> simp [s0, s6, s7, s8, s27, s28]
  have hkk : (k : Int) < (al.length : Int) := by omega
  obtain ⟨d1, p1, cc1, bs1, ro1, opn1, q1, q2, q3, q4⟩ := (ha.ext e1 fun _ _ q => q).elem2 hk
  rw [opsC_at al k hk] at q4
  rw [Nat.add_assoc] at q3
  cases q1
  have hcx := hc _ (List.getElem_mem hk)
  generalize al[k] = x at q4 hcx
  have ws := wrap_succ k (by omega)
  simp [s0', s13, s16, hkk, hk, q2, q3, q4]
  refine count_ok A v l x (hl.ext e1 fun _ _ q => q) (by omega) _ fun B e2 => ?_
  have hne : ¬ ((l.count x : Nat) : Int) = 0 := by omega
  have hne' : ¬ l.count x = 0 := by omega
  simp [hne, hne', s16, ws]
  exact ⟨m - 1, by omega, k + 1, by omega, rfl, rfl, ⟨by simp [s0], by simp [s6], by simp [s7], by simp [s8], by simp [s27], by simp [s28]⟩, by simp [s13], by simp, e1.trans e2⟩
end Go.Proofs.YtigknpfjhegkgaaGreat
end

section
/- What is packed fits. -/
namespace Go.Proofs.YtigknpfjhegkgaaGreat
open Go Go.AS
set_option maxRecDepth 100000
set_option linter.unusedSimpArgs false
set_option linter.unusedVariables false
attribute [local irreducible] Trie.set Trie.get Env.rd
attribute [local simp ↓] wV_b2s
attribute [local simp] Nat.add_assoc wD_cons'' wD_nil' wC_seq wC_ops wC_opsD_nil wC_cond wC_skip wC_ret wC_exit wC_block wO_cons' wO_nil wantedA wV_eq lop qop ev wL_some wL_none wPut envOf rd_set rd_leaf eqA thenC blockC wB_true wB_false endF unwindA resultsA resA tupleA rdCell rdCells wrCells cl fillP lay rep bi_eql bi_neq bi_lss bi_leq bi_gtr bi_geq bi_add bi_sub bs_eql bs_neq bi_shr4 unA get_set' AHeap.get_alloc oneCell beqd bned idxA
attribute [local simp] Op.len Op.one Op.take Op.at0 Op.head? Op.getCap Op.getAd Op.layAll Op.zeroC Op.vb

theorem fk_ok (A1 : AHeap) (v tv fv : Value) (l t g : List Op) (hl : ReadAt A1 38 v l.length (opsC l)) (ht : ReadAt A1 38 tv t.length (opsC t)) (hg : ReadAt A1 38 fv g.length (opsC g)) (hn : l.length ≤ 30) (htl : t.length ≤ 30) (hgl : g.length ≤ 30) (hw : ∀ x ∈ l, OkO x)
    (hc : ∀ x, (t ++ g).count x = if x.enc.isSome then l.count x else 0) (hf : ∀ x ∈ t ++ g, 0 < l.count x) (env : Env) (r0 : env.rd 0 = v) (r7 : env.rd 7 = tv) (r8 : env.rd 8 = fv) (Q : AExit → St → Prop)
    (hq : ∀ env' A', Kp env' env → Ext NoB A1 A' → Q .normal { env := env', n := 150, dfs := [], A := A' }) :
    wC T 6 none c6k { env := env, n := 150, dfs := [], A := A1 } Q := by
  dsimp only [c6k]
  have s0 : SliceAt (A1.alloc (.cells [] false 0)) 38 (.slice (some ⟨A1.size, 0, none⟩) 0 0) ([] : List Op).length (opsC []) := .inr ⟨A1.size, 0, 0, [], 0, rfl, by rw [AHeap.get_alloc, if_pos rfl], by simp, by simp [opsC], .inr (.inl ⟨rfl, by decide⟩)⟩
  have e0 : Ext NoB A1 (A1.alloc (.cells [] false 0)) := Ext.alloc
  obtain ⟨a1, c1, B, u1, u2, u3, u4⟩ := appOs (A1.alloc (.cells [] false 0)) (.slice (some ⟨A1.size, 0, none⟩) 0 0) tv [] t s0 (ht.ext e0 fun _ _ q => q) (by simp; omega)
  rw [List.nil_append] at u2
  have eB : Ext NoB A1 B := e0.trans2 u3 fun j hj q => by obtain ⟨o, n, c, z⟩ := q; cases z; omega
  simp only [List.length_nil, Nat.zero_add] at u1 u2 u4
  obtain ⟨a2, c2, C, w1, w2, w3, w4⟩ := appOs B (.slice a1 t.length c1) fv t g u2 (hg.ext eB fun _ _ q => q) (by omega)
  have eC : Ext NoB A1 C := eB.trans2 w3 fun j hj q => by
    rcases u4 j q with z | z
    · obtain ⟨o, n, c, z⟩ := z; cases z; omega
    · simp at z; omega
  simp [r7, r8, u1, w1]
  have hlen : (t ++ g).length = t.length + g.length := List.length_append
  refine fp_ok C v (.slice a2 (t.length + g.length) c2) l (t ++ g) (hl.ext eC fun _ _ q => q) w2.read hn (by omega) hw hc _ (by simp [r0]) (by simp) _ fun env2 D k2 k13 e2 => ?_
  obtain ⟨z0, z6, z7, z8, z27, z28⟩ := k2
  have e12 := eC.trans e2
  refine fq_ok D v (.slice a2 (t.length + g.length) c2) l (t ++ g) (hl.ext e12 fun _ _ q => q) (w2.read.ext e2 fun _ _ q => q) hn (by omega) hf _ (by rw [z0]; simp [r0]) k13 _ fun env3 E k3 e3 => ?_
  obtain ⟨y0, y6, y7, y8, y27, y28⟩ := k3
  refine hq _ _ ⟨by rw [y0, z0]; simp, by rw [y6, z6]; simp, by rw [y7, z7]; simp, by rw [y8, z8]; simp, by rw [y27, z27]; simp, by rw [y28, z28]; simp⟩ (e12.trans e3)
theorem fr_ok (A1 : AHeap) (v tv fv : Value) (l t g : List Op) (n : Int) (hl : ReadAt A1 38 v l.length (opsC l)) (ht : ReadAt A1 38 tv t.length (opsC t)) (hg : ReadAt A1 38 fv g.length (opsC g)) (hn : l.length ≤ 30) (htl : t.length ≤ 30) (hgl : g.length ≤ 30) (hw : ∀ x ∈ l, OkO x) (hwt : ∀ x ∈ t, OkO x)
    (hm : ∀ x ∈ t, x.enc.isSome = true) (hs : sumA t ≤ max 0 (min n 40)) (hc : ∀ x, (t ++ g).count x = if x.enc.isSome then l.count x else 0) (hf : ∀ x ∈ t ++ g, 0 < l.count x) (env : Env) (r0 : env.rd 0 = v) (r6 : env.rd 6 = .int .i64 n) (r7 : env.rd 7 = tv) (r8 : env.rd 8 = fv) (r9 : env.rd 9 = .int .i64 (sumA t)) (Q : AExit → St → Prop)
    (hq : ∀ env' A', Kp env' env → Ext NoB A1 A' → Q .normal { env := env', n := 150, dfs := [], A := A' }) :
    wC T 6 none c6r { env := env, n := 150, dfs := [], A := A1 } Q := by
  dsimp only [c6r]
  have hs40 : sumA t ≤ 40 := by omega
  have hs0 := sumA_nn t
  obtain ⟨b, h1, h2, h3, h4⟩ := fits_lay t hm hs40
  simp [r7]
  refine laying_ok t tv A1 _ ht (fun x hx => (hwt x hx).1) (by omega) fun B e1 => ?_
  rw [h1]
  have hmin : minV (.int .i64 n) (.int .i64 40) = some (.int .i64 (min n 40)) := by
    simp [minV]
    omega
  have hmax : maxV (.int .i64 0) (.int .i64 (min n 40)) = some (.int .i64 (max 0 (min n 40))) := by
    simp only [maxV]
    congr 2
    split <;> omega
  generalize max 0 (min n 40) = mx at hs hmax
  have q1 : ¬ mx < sumA t := by omega
  have q2 : ¬ (40 : Int) < (b.length : Int) := by omega
  have q3 : ¬ (b.length : Int) < sumA t := by omega
  have q4 : ¬ sumA t + 3 < (b.length : Int) := by omega
  have q2' : ¬ 40 < b.length := by omega
  have w : IntKind.i64.wrap (sumA t + 3) = sumA t + 3 := IntWalk.i64_in _ (by omega)
  simp [r9, r6, foldV, hmin, hmax, q1, q2, q2', q3, w, q4]
  refine fk_ok B v tv fv l t g (hl.ext e1 fun _ _ q => q) (ht.ext e1 fun _ _ q => q) (hg.ext e1 fun _ _ q => q) hn htl hgl hw hc hf _ (by simp [r0]) (by simp [r7]) (by simp [r8]) _ fun env2 C k2 e2 => ?_
  obtain ⟨z0, z6, z7, z8, z27, z28⟩ := k2
  exact hq _ _ ⟨by rw [z0]; simp, by rw [z6]; simp, by rw [z7]; simp, by rw [z8]; simp, by rw [z27]; simp, by rw [z28]; simp⟩ (e1.trans e2)
def FfI (A0 : AHeap) (v : Value) (room : Int) (m : Nat) (st : St) : Prop := ∃ i, m + i = 3 ∧ st.n = 150 ∧ st.dfs = [] ∧ st.env.rd 0 = v ∧ st.env.rd 27 = .agg ⟨[.int .i64 room, .int .i64 (room.tmod 60), .int .i64 40]⟩ ∧ st.env.rd 28 = .int .i64 (i : Nat) ∧ Ext NoB A0 st.A
theorem fits_ok (A0 : AHeap) (v0 : Value) (L : List Op) (room : Int) (ha : ArgV v0 L.length) (hL : ReadAt A0 38 v0 L.length (opsC L)) (hlv : ∀ j, Own v0 j → j < A0.size) (hw : ∀ x ∈ L, x.W) : wF T (.func (.func 6) #[] #[]) [v0, .int .i64 room] A0 (fun v _ => v = .bool true) := by
  refine wF_func (first := []) (captured := []) t6 ⟨rfl, by decide⟩ ?_
  dsimp only [c6]
  have hmin := min_thirty L
  obtain ⟨a0, c0, rfl⟩ := hL.val
  have hn : (L.take 30).length ≤ 30 := by rw [List.length_take]; omega
  have hwl : ∀ x ∈ L.take 30, OkO x := fun x hx => OkO.of (hw x (List.mem_of_mem_take hx))
  simp
  refine works_ok A0 _ fun A1 e1 => ?_
  obtain ⟨v', h1', h2, h3⟩ := front_thirty ha (hL.ext e1 fun _ _ q => q)
  have hlv' : ∀ j, Own v' j → j < A1.size := fun j hj => Nat.lt_of_lt_of_le (hlv j (h3 j hj)) e1.size
  generalize L.take 30 = l at h1' h2 hmin hn hwl
  simp [foldV, hmin, h1', binA]
  refine wC_loop_inv (FfI A1 v' room) ?_ 3 _ ⟨0, rfl, rfl, rfl, by simp, by simp, by simp, Ext.refl⟩
  rintro m ⟨env, nn, dfs, A⟩ ⟨i, k0, k1, k2, s0, s27, s28, e2⟩
  simp only at k1 k2 s0 s27 s28 e2
  subst k1; subst k2
  by_cases hi : i < 3
  case neg =>
    have hii : ¬ (i : Int) < 3 := by omega
    simp [s28, hii, hi]
  have hii : (i : Int) < 3 := by omega
  obtain ⟨n, hat⟩ : ∃ n, ([.int .i64 room, .int .i64 (room.tmod 60), .int .i64 40] : List Value)[i]? = some (.int .i64 n) := by
    match i, hi with
    | 0, _ => exact ⟨_, rfl⟩
    | 1, _ => exact ⟨_, rfl⟩
    | 2, _ => exact ⟨_, rfl⟩
  have hat' : ∀ hh, ([.int .i64 room, .int .i64 (room.tmod 60), .int .i64 40] : List Value)[i]'hh = .int .i64 n := fun hh => by rw [List.getElem?_eq_getElem hh] at hat; exact Option.some.inj hat
  have ws := wrap_succ i (by omega)
  simp [s28, hii, hi, s27, hat, hat', s0]
  refine pack_ok A v' l n (h2.ext e2 fun _ _ q => q) (fun j hj => Nat.lt_of_lt_of_le (hlv' j hj) e2.size) hn hwl _ fun B tv fv e3 t3 f3 _ _ => ?_
  have e23 := e2.trans e3
  simp
  refine fs_ok B tv (takeO l (min n 40)) t3.read (take_len l _ hn) (fun x hx => hwl x (take_mem l _ x hx)) (fits_may l _) (fits_rank l _) _ (by simp) (by simp) _ fun env2 C k2 z9 e4 => ?_
  obtain ⟨z0, z6, z7, z8, z27, z28⟩ := k2
  have e24 := e23.trans e4
  simp [s0] at z0
  simp at z6 z7 z8
  simp [s27] at z27
  simp [s28] at z28
  refine fr_ok C v' tv fv l (takeO l (min n 40)) (leftO l (min n 40)) n (h2.ext e24 fun _ _ q => q) (t3.read.ext e4 fun _ _ q => q) (f3.read.ext e4 fun _ _ q => q) hn (take_len l _ hn) (left_len l _ hn) hwl (fun x hx => hwl x (take_mem l _ x hx)) (fits_may l _) (fits_sum l _) (fits_count l _) (fits_from l _) env2 z0 z6 z7 z8 z9 _ fun env3 D k3 e5 => ?_
  obtain ⟨y0, y6, y7, y8, y27, y28⟩ := k3
  rw [z0] at y0; rw [z27] at y27; rw [z28] at y28
  simp [y28, ws]
  exact ⟨m - 1, by omega, i + 1, by omega, rfl, rfl, by simp [y0], by simp [y27], by simp, e24.trans e5⟩
end Go.Proofs.YtigknpfjhegkgaaGreat
end
