/- None that is left would have fitted. -/
import Derived.Test.YtigknpfjhegkgaaGreatDbm
import Derived.KernelRfl
namespace Go.Proofs.YtigknpfjhegkgaaGreat
open Go Go.AS
set_option maxRecDepth 100000
set_option linter.unusedSimpArgs false
set_option linter.unusedVariables false
attribute [local irreducible] Trie.set Trie.get Env.rd
attribute [local simp ↓] wV_b2s
attribute [local simp] Nat.add_assoc wD_cons'' wD_nil' wC_seq wC_ops wC_opsD_nil wC_cond wC_skip wC_ret wC_exit wC_block wO_cons' wO_nil wantedA wV_eq lop qop ev wL_some wL_none wPut envOf rd_set rd_leaf eqA thenC blockC wB_true wB_false endF unwindA resultsA resA tupleA rdCell rdCells wrCells cl fillP lay rep bi_eql bi_neq bi_lss bi_leq bi_gtr bi_geq bi_add bi_sub bs_eql bs_neq bi_shr4 unA get_set' AHeap.get_alloc oneCell beqd bned idxA
attribute [local simp] Op.len Op.one Op.take Op.at0 Op.head? Op.getCap Op.getAd Op.layAll Op.zeroC Op.vb

/-- What those take that are of a rank no higher. -/
def sumR (y : Op) : List Op → Int
  | [] => 0
  | x :: t => (if rankO x ≤ rankO y then (takes x : Int) else 0) + sumR y t
theorem sumR_app (y : Op) : ∀ a b, sumR y (a ++ b) = sumR y a + sumR y b
  | [], b => by simp [sumR]
  | x :: a, b => by simp only [List.cons_append, sumR, sumR_app y a b]; omega
theorem takes_le {x : Op} (h : OkO x) : takes x ≤ 1000002 := by
  unfold takes
  cases he : x.enc with
  | none => simp
  | some l => have := h.2 l he; simp; omega
theorem sumR_le (y : Op) : ∀ t : List Op, (∀ x ∈ t, OkO x) → 0 ≤ sumR y t ∧ sumR y t ≤ 1000002 * (t.length : Int)
  | [], _ => by simp [sumR]
  | x :: t, h => by
    have h1 := sumR_le y t fun z hz => h z (List.mem_cons_of_mem _ hz)
    have h2 := takes_le (h x (List.mem_cons_self ..))
    simp only [sumR, List.length_cons]
    constructor
    · split <;> omega
    · split <;> omega
def sumA : List Op → Int
  | [] => 0
  | x :: t => (takes x : Int) + sumA t
theorem sumA_app : ∀ a b, sumA (a ++ b) = sumA a + sumA b
  | [], b => by simp [sumA]
  | x :: a, b => by simp only [List.cons_append, sumA, sumA_app a b]; omega
theorem sumA_le : ∀ t : List Op, (∀ x ∈ t, OkO x) → 0 ≤ sumA t ∧ sumA t ≤ 1000002 * (t.length : Int)
  | [], _ => by simp [sumA]
  | x :: t, h => by
    have h1 := sumA_le t fun z hz => h z (List.mem_cons_of_mem _ hz)
    have h2 := takes_le (h x (List.mem_cons_self ..))
    simp only [sumA, List.length_cons]
    constructor <;> omega
theorem pickO_cons (l : List Op) (is : List Nat) {i : Nat} (h : i < l.length) : pickO l (i :: is) = l[i] :: pickO l is := by
  simp [pickO, List.getElem?_eq_getElem h]
theorem sumR_pick (l : List Op) (i : Nat) (hi : i < l.length) : ∀ K : List Nat, (∀ k ∈ K, k < l.length) → sumR l[i] (pickO l K) = sumP (szO l) (K.filter fun k => decide (rkO l k ≤ rkO l i))
  | [], _ => rfl
  | k :: K, h => by
    have hk := h k (List.mem_cons_self ..)
    have ih := sumR_pick l i hi K fun x hx => h x (List.mem_cons_of_mem _ hx)
    rw [pickO_cons l K hk, sumR, ih, List.filter_cons, rkO_at hk, rkO_at hi]
    by_cases q : rankO l[k] ≤ rankO l[i]
    · simp [q, sumP, szO_at hk]
    · simp [q]
theorem pickO_mem {l : List Op} {K : List Nat} {y : Op} (h : y ∈ pickO l K) : ∃ i ∈ K, ∃ hi : i < l.length, l[i] = y := by
  obtain ⟨i, h1, h2⟩ := List.mem_filterMap.1 h
  obtain ⟨h3, h4⟩ := List.getElem?_eq_some_iff.1 h2
  exact ⟨i, h1, h3, h4⟩
theorem taken_lt (l : List Op) (r : Int) : ∀ k ∈ takenO l r, k < l.length := fun k hk => placesO_lt l k ((ordO_is l).1.subset ((fitP_sub _ _ _).subset hk))
/-- What is left would not have fitted. -/
theorem most_left (l : List Op) (r : Int) : ∀ y ∈ leftO l r, r - sumR y (takeO l r) < (takes y : Int) := by
  intro y hy
  obtain ⟨i, hi, hl, rfl⟩ := pickO_mem hy
  have h1 := List.mem_filter.1 hi
  have h2 : i ∉ takenO l r := by simpa using h1.2
  have h3 := fitP_most (szO l) (ordO_is l).2 r ((ordO_is l).1.symm.subset h1.1) h2
  unfold takeO
  rw [sumR_pick l i hl _ (taken_lt l r), ← szO_at hl]
  exact h3
theorem sumP_perm (s : Nat → Nat) {a b : List Nat} (h : a.Perm b) : sumP s a = sumP s b := by
  induction h with
  | nil => rfl
  | cons x _ ih => simp only [sumP, ih]
  | swap x y l => simp only [sumP]; omega
  | trans _ _ h1 h2 => rw [h1, h2]
theorem sumP_places (s : Nat → Nat) : ∀ L : List Nat, sumP s (L.filter fun i => decide (0 < s i)) = sumP s L
  | [] => rfl
  | i :: L => by
    have ih := sumP_places s L
    rw [List.filter_cons]
    by_cases h : 0 < s i
    · simp only [h, decide_true, if_true, sumP, ih]
    · have : s i = 0 := by omega
      rw [if_neg (by simpa using h), ih, sumP, this]; omega
theorem sumA_range (l : List Op) : ∀ k, k ≤ l.length → sumP (szO l) (List.range k) = sumA (l.take k)
  | 0, _ => by simp [sumP, sumA]
  | k + 1, h => by
    rw [List.range_succ, sumP_app, sumA_range l k (by omega), List.take_add_one, List.getElem?_eq_getElem (show k < l.length by omega), sumA_app]
    simp [sumP, sumA, szO_at (show k < l.length by omega)]
/-- With room for all none is left. -/
theorem all_left (l : List Op) (r : Int) (h : sumA l ≤ r) : leftO l r = [] := by
  have h1 : sumP (szO l) (ordO l) = sumA l := by
    rw [sumP_perm _ (ordO_is l).1]
    unfold placesO
    rw [sumP_places, sumA_range l _ (Nat.le_refl _), List.take_length]
  have h2 : takenO l r = ordO l := fitP_all _ _ _ (by omega)
  have h3 : leftP l r = [] := by
    unfold leftP
    rw [List.filter_eq_nil_iff]
    intro x hx
    rw [h2]
    have := (ordO_is l).1.symm.subset hx
    simp [this]
  unfold leftO
  rw [h3]
  rfl
theorem take_mem (l : List Op) (r : Int) : ∀ x ∈ takeO l r, x ∈ l := fun x hx => by
  obtain ⟨i, _, hi, rfl⟩ := pickO_mem hx
  exact List.getElem_mem hi
theorem left_mem (l : List Op) (r : Int) : ∀ x ∈ leftO l r, x ∈ l := fun x hx => by
  obtain ⟨i, _, hi, rfl⟩ := pickO_mem hx
  exact List.getElem_mem hi
theorem take_len (l : List Op) (r : Int) (h : l.length ≤ 30) : (takeO l r).length ≤ 30 := by
  have g1 := pickO_len l (takenO l r)
  have g2 := (fitP_sub (szO l) (ordO l) r).length_le
  have g3 := (ordO_is l).1.length_eq
  have g4 := List.length_filter_le (fun i => decide (0 < szO l i)) (List.range l.length)
  rw [List.length_range] at g4
  unfold placesO at g3
  unfold takeO takenO
  unfold takenO at g1
  omega
theorem left_len (l : List Op) (r : Int) (h : l.length ≤ 30) : (leftO l r).length ≤ 30 := by
  have g1 := pickO_len l (leftP l r)
  have g2 := List.length_filter_le (fun i => !decide (i ∈ takenO l r)) (placesO l)
  have g4 := List.length_filter_le (fun i => decide (0 < szO l i)) (List.range l.length)
  rw [List.length_range] at g4
  unfold leftO
  unfold leftP at g1
  unfold placesO at g1 g2
  unfold leftP placesO
  omega
def MiI (A1 : AHeap) (env0 : Env) (t : List Op) (y : Op) (n : Int) (m : Nat) (st : St) : Prop := ∃ k, m + k = t.length ∧ st.n = 88 ∧ st.dfs = [] ∧ (st.env.rd 0 = env0.rd 0 ∧ st.env.rd 5 = env0.rd 5 ∧ st.env.rd 6 = env0.rd 6 ∧ st.env.rd 7 = env0.rd 7 ∧ st.env.rd 8 = env0.rd 8) ∧ st.env.rd 9 = .int .i64 (n - sumR y (t.take k)) ∧ st.env.rd 10 = .int .i64 (k : Nat) ∧ Ext NoB A1 st.A
theorem in_ok (A1 : AHeap) (tv fv : Value) (t g : List Op) (i : Nat) (n : Int) (ht : ReadAt A1 38 tv t.length (opsC t)) (hg : ReadAt A1 38 fv g.length (opsC g)) (hi : i < g.length) (htl : t.length ≤ 30) (hgl : g.length ≤ 30) (hw : ∀ x ∈ t, OkO x) (hn0 : 0 ≤ n) (hn1 : n ≤ 40)
    (env : Env) (r6 : env.rd 6 = tv) (r7 : env.rd 7 = fv) (r8 : env.rd 8 = .int .i64 (i : Nat)) (r9 : env.rd 9 = .int .i64 n) (Q : AExit → St → Prop)
    (hq : ∀ env' A', env'.rd 0 = env.rd 0 → env'.rd 5 = env.rd 5 → env'.rd 6 = env.rd 6 → env'.rd 7 = env.rd 7 → env'.rd 8 = env.rd 8 → env'.rd 9 = .int .i64 (n - sumR g[i] t) → Ext NoB A1 A' → Q .normal { env := env', n := 88, dfs := [], A := A' }) :
    wC T 4 none c4i { env := env, n := 88, dfs := [], A := A1 } Q := by
  dsimp only [c4i]
  obtain ⟨a6, c6, rfl⟩ := ht.val
  obtain ⟨a7, c7, rfl⟩ := hg.val
  simp
  refine wC_loop_inv (MiI A1 env t g[i] n) ?_ t.length _ ⟨0, rfl, rfl, rfl, ⟨by simp, by simp, by simp, by simp, by simp⟩, by simp [r9, sumR], by simp, Ext.refl⟩
  rintro m ⟨env', nn, dfs, A⟩ ⟨k, k0, k1, k2, ⟨s0, s5, s6, s7, s8⟩, s9, s10, e1⟩
  simp only at k1 k2 s0 s5 s6 s7 s8 s9 s10 e1
  rw [r6] at s6; rw [r7] at s7; rw [r8] at s8
  subst k1; subst k2
  by_cases hk : k < t.length
  case neg =>
    have hkk : ¬ (k : Int) < (t.length : Int) := by omega
    rw [List.take_of_length_le (by omega)] at s9
    simp [s6, s10, hkk, hk]
    refine hq _ _ ?_ ?_ ?_ ?_ ?_ ?_ e1 <;> simp [s0, s5, s6, s7, s8, s9, r6, r7, r8]
  have hkk : (k : Int) < (t.length : Int) := by omega
  obtain ⟨d1, p1, cc1, bs1, ro1, opn1, q1, q2, q3, q4⟩ := (ht.ext e1 fun _ _ q => q).elem2 hk
  rw [opsC_at t k hk] at q4
  rw [Nat.add_assoc] at q3
  cases q1
  obtain ⟨d2, p2, cc2, bs2, ro2, opn2, u1, u2, u3, u4⟩ := (hg.ext e1 fun _ _ q => q).elem2 hi
  rw [opsC_at g i hi] at u4
  rw [Nat.add_assoc] at u3
  cases u1
  have hok := hw _ (List.getElem_mem hk)
  have hbd := sumR_le g[i] (t.take k) fun x hx => hw x (List.mem_of_mem_take hx)
  have hlt : (t.take k).length ≤ 30 := by rw [List.length_take]; omega
  have htk : t.take (k + 1) = t.take k ++ [t[k]] := by rw [List.take_add_one, List.getElem?_eq_getElem hk]; rfl
  generalize g[i] = y at u4 hbd hq s9 ⊢
  generalize t[k] = x at q4 hok htk
  have htl2 := takes_le hok
  have hii : (i : Int) < (g.length : Int) := by omega
  have ws := wrap_succ k (by omega)
  have wsub : IntKind.i64.wrap (n - sumR y (t.take k) - (takes x : Nat)) = n - sumR y (t.take k) - (takes x : Nat) := IntWalk.i64_in _ (by omega)
  simp [s6, s10, hkk, hk]
  refine wC_opsD_chk ?_
  simp [s6, s7, s8, s10, hkk, hk, hii, hi, q2, q3, q4]
  refine rank_ok A x _ fun B e2 => ?_
  have qB := e2.get q2 id
  have uB := e2.get u2 id
  simp [s6, s7, s8, s10, hkk, hk, hii, hi, uB, u3, u4]
  refine rank_ok B y _ fun C e3 => ?_
  have qC := e3.get qB id
  have uC := e3.get uB id
  have e13 := (e1.trans e2).trans e3
  simp
  refine wE_intro ?_ ?_
  · simp only [List.all_cons, List.all_nil, chkOk, List.nil_append, List.cons_append, List.getElem?_cons_succ, List.getElem?_cons_zero]
    simp [Bx, u2, uB, uC, u3, u4, s6, s7, s8, s10, hkk, hk, hii, hi, vbeq]
  by_cases hr : rankO x ≤ rankO y
  · simp [hr, s6, s9, s10, hkk, hk, qC, q3, q4]
    refine size_ok C x hok.1 _ hok.2 fun D e4 => ?_
    simp [s9, wsub, s10, ws]
    refine ⟨m - 1, by omega, k + 1, by omega, rfl, rfl, ⟨by simp [s0], by simp [s5], by simp [s6, r6], by simp [s7, r7], by simp [s8, r8]⟩, ?_, by simp, e13.trans e4⟩
    simp [htk, sumR_app, sumR, hr]; omega
  · simp [hr, s10, ws]
    refine ⟨m - 1, by omega, k + 1, by omega, rfl, rfl, ⟨by simp [s0], by simp [s5], by simp [s6, r6], by simp [s7, r7], by simp [s8, r8]⟩, ?_, by simp, e13⟩
    simp [htk, sumR_app, sumR, hr, s9]
def MoI (A0 : AHeap) (v tv fv : Value) (l : List Op) (n : Int) (m : Nat) (st : St) : Prop := ∃ i, m + i = (leftO l (min n 40)).length ∧ st.n = 88 ∧ st.dfs = [] ∧ (st.env.rd 0 = v ∧ st.env.rd 5 = .int .i64 n ∧ st.env.rd 6 = tv ∧ st.env.rd 7 = fv ∧ st.env.rd 8 = .int .i64 (i : Nat)) ∧ Ext NoB A0 st.A
def MsI (A0 : AHeap) (v fv : Value) (l : List Op) (n : Int) (m : Nat) (st : St) : Prop := ∃ i, m + i = l.length ∧ st.n = 88 ∧ st.dfs = [] ∧ (st.env.rd 0 = v ∧ st.env.rd 5 = .int .i64 n ∧ st.env.rd 7 = fv ∧ st.env.rd 11 = .int .i64 (sumA (l.take i)) ∧ st.env.rd 12 = .int .i64 (i : Nat)) ∧ Ext NoB A0 st.A
theorem most3_ok (A0 : AHeap) (v : Value) (l : List Op) (n : Int) (fa : Option Addr) (fc : Nat) (hl : ReadAt A0 38 v l.length (opsC l)) (hn : l.length ≤ 30) (hw : ∀ x ∈ l, OkO x) (hn0 : 0 ≤ n) (hn1 : n ≤ 40)
    (env : Env) (r0 : env.rd 0 = v) (r5 : env.rd 5 = .int .i64 n) (r7 : env.rd 7 = .slice fa (leftO l (min n 40)).length fc) :
    wC T 4 none c4u { env := env, n := 88, dfs := [], A := A0 } (endF [.inl 4] (fun v _ => v = .bool true)) := by
  dsimp only [c4u]
  obtain ⟨a1, c1, rfl⟩ := hl.val
  simp
  refine wC_loop_inv (MsI A0 (.slice a1 l.length c1) (.slice fa (leftO l (min n 40)).length fc) l n) ?_ l.length _ ⟨0, rfl, rfl, rfl, ⟨by simp [r0], by simp [r5], by simp [r7], by simp [sumA], by simp⟩, Ext.refl⟩
  clear r0 r5 r7
  rintro m ⟨env, nn, dfs, A⟩ ⟨i, k0, k1, k2, ⟨s0, s5, s7, s11, s12⟩, e1⟩
  simp only at k1 k2 s0 s5 s7 s11 s12 e1
  subst k1; subst k2
  by_cases hi : i < l.length
  case neg =>
    have hii : ¬ (i : Int) < (l.length : Int) := by omega
    rw [List.take_of_length_le (by omega)] at s11
    by_cases hs : n < sumA l
    · simp [s0, s12, hii, hi, s11, s5, hs]
    · have hx := all_left l (min n 40) (by omega)
      have hx2 : (leftO l (min n 40)).length = 0 := by rw [hx]; rfl
      rw [hx2] at s7
      simp [s0, s12, hii, hi, s11, s5, hs, s7]
  have hii : (i : Int) < (l.length : Int) := by omega
  obtain ⟨d1, p1, cc1, bs1, ro1, opn1, q1, q2, q3, q4⟩ := (hl.ext e1 fun _ _ q => q).elem2 hi
  rw [opsC_at l i hi] at q4
  rw [Nat.add_assoc] at q3
  cases q1
  have hok := hw _ (List.getElem_mem hi)
  have hbd := sumA_le (l.take i) fun x hx => hw x (List.mem_of_mem_take hx)
  have hlt : (l.take i).length ≤ 30 := by rw [List.length_take]; omega
  have htk : l.take (i + 1) = l.take i ++ [l[i]] := by rw [List.take_add_one, List.getElem?_eq_getElem hi]; rfl
  generalize l[i] = x at q4 hok htk
  have htl := takes_le hok
  have ws := wrap_succ i (by omega)
  have wadd : IntKind.i64.wrap (sumA (l.take i) + (takes x : Nat)) = sumA (l.take i) + (takes x : Nat) := IntWalk.i64_in _ (by omega)
  simp [s0, s12, hii, hi, s11, q2, q3, q4]
  refine size_ok A x hok.1 _ hok.2 fun B e2 => ?_
  simp [wadd, ws, s12]
  refine ⟨m - 1, by omega, i + 1, by omega, rfl, rfl, ⟨by simp [s0], by simp [s5], by simp [s7], ?_, by simp⟩, e1.trans e2⟩
  simp [htk, sumA_app, sumA]
theorem most2_ok (A0 : AHeap) (v tv fv : Value) (l : List Op) (n : Int) (hl : ReadAt A0 38 v l.length (opsC l)) (ht : ReadAt A0 38 tv (takeO l (min n 40)).length (opsC (takeO l (min n 40)))) (hf : ReadAt A0 38 fv (leftO l (min n 40)).length (opsC (leftO l (min n 40)))) (hn : l.length ≤ 30) (hw : ∀ x ∈ l, OkO x) (hn0 : 0 ≤ n) (hn1 : n ≤ 40)
    (env : Env) (r0 : env.rd 0 = v) (r5 : env.rd 5 = .int .i64 n) (r6 : env.rd 6 = tv) (r7 : env.rd 7 = fv) :
    wC T 4 none c4t { env := env, n := 88, dfs := [], A := A0 } (endF [.inl 4] (fun v _ => v = .bool true)) := by
  dsimp only [c4t]
  obtain ⟨a7, c7, rfl⟩ := hf.val
  simp
  refine wC_loop_inv (MoI A0 v tv (.slice a7 (leftO l (min n 40)).length c7) l n) ?_ (leftO l (min n 40)).length _ ⟨0, rfl, rfl, rfl, ⟨by simp [r0], by simp [r5], by simp [r6], by simp [r7], by simp⟩, Ext.refl⟩
  clear r0 r5 r6 r7
  rintro m ⟨env, nn, dfs, A⟩ ⟨i, k0, k1, k2, ⟨s0, s5, s6, s7, s8⟩, e1⟩
  simp only at k1 k2 s0 s5 s6 s7 s8 e1
  subst k1; subst k2
  by_cases hi : i < (leftO l (min n 40)).length
  case neg =>
    have hii : ¬ (i : Int) < ((leftO l (min n 40)).length : Int) := by omega
    simp [s7, s8, hii, hi]
    exact most3_ok A v l n a7 c7 (hl.ext e1 fun _ _ q => q) hn hw hn0 hn1 _ (by simp [s0]) (by simp [s5]) (by simp [s7])
  have hii : (i : Int) < ((leftO l (min n 40)).length : Int) := by omega
  have hfull := most_left l (min n 40) _ (List.getElem_mem hi)
  have hok := hw _ (left_mem l (min n 40) _ (List.getElem_mem hi))
  simp [s7, s8, hii, hi, s5]
  refine in_ok A tv (.slice a7 (leftO l (min n 40)).length c7) (takeO l (min n 40)) (leftO l (min n 40)) i n (ht.ext e1 fun _ _ q => q) (hf.ext e1 fun _ _ q => q) hi (take_len l _ hn) (left_len l _ hn) (fun x hx => hw x (take_mem l _ x hx)) hn0 hn1 _ (by simp [s6]) (by simp [s7]) (by simp [s8]) (by simp) _ fun env' B z0 z5 z6 z7 z8 z9 e2 => ?_
  have e12 := e1.trans e2
  obtain ⟨d1, p1, cc1, bs1, ro1, opn1, q1, q2, q3, q4⟩ := (hf.ext e12 fun _ _ q => q).elem2 hi
  rw [opsC_at _ i hi] at q4
  rw [Nat.add_assoc] at q3
  cases q1
  generalize (leftO l (min n 40))[i] = y at q4 z9 hfull hok
  simp [s0] at z0
  simp [s5] at z5
  simp [s6] at z6
  simp [s7] at z7
  simp [s8] at z8
  have hnot : ¬ (takes y : Int) ≤ n - sumR y (takeO l (min n 40)) := by
    have : min n 40 = n := by omega
    rw [this] at hfull ⊢
    omega
  have ws := wrap_succ i (by have := left_len l (min n 40) hn; omega)
  simp [z7, z8, hii, hi, q2, q3, q4]
  refine size_ok B y hok.1 _ hok.2 fun C e3 => ?_
  simp [z8, z9, hnot, ws]
  exact ⟨m - 1, by omega, i + 1, by omega, rfl, rfl, ⟨by simp [z0], by simp [z5], by simp [z6], by simp [z7], by simp⟩, e12.trans e3⟩
theorem most_ok (A0 : AHeap) (v0 : Value) (L : List Op) (room : Nat) (ha : ArgV v0 L.length) (hL : ReadAt A0 38 v0 L.length (opsC L)) (hlv : ∀ j, Own v0 j → j < A0.size) (hw : ∀ x ∈ L, x.W) (hr : room < 256) : wF T (.func (.func 4) #[] #[]) [v0, .int .u8 (room : Nat)] A0 (fun v _ => v = .bool true) := by
  refine wF_func (first := []) (captured := []) t4 ⟨rfl, by decide⟩ ?_
  dsimp only [c4]
  have hmin := min_thirty L
  obtain ⟨a0, c0, rfl⟩ := hL.val
  have hn : (L.take 30).length ≤ 30 := by rw [List.length_take]; omega
  have hwl : ∀ x ∈ L.take 30, OkO x := fun x hx => OkO.of (hw x (List.mem_of_mem_take hx))
  simp
  refine works_ok A0 _ fun A1 e1 => ?_
  obtain ⟨v', h1', h2, h3⟩ := front_thirty ha (hL.ext e1 fun _ _ q => q)
  have hlv' : ∀ j, Own v' j → j < A1.size := fun j hj => Nat.lt_of_lt_of_le (hlv j (h3 j hj)) e1.size
  generalize L.take 30 = l at h1' h2 hmin hn hwl
  have hrw : IntKind.i64.wrap (room : Int) = (room : Nat) := IntWalk.i64_in _ (by omega)
  have hrem : (room : Int).tmod 41 = ((room % 41 : Nat) : Int) := rfl
  obtain ⟨n, hn'⟩ : ∃ n : Nat, n = room % 41 := ⟨_, rfl⟩
  rw [← hn'] at hrem
  have hn41 : n ≤ 40 := by omega
  simp [foldV, hmin, h1', hrw, hrem, binA]
  refine pack_ok A1 v' l n h2 hlv' hn hwl _ fun B tv fv e2 t2 f2 _ _ => ?_
  have e12 := e1.trans e2
  simp
  exact most2_ok B v' tv fv l n (h2.ext e2 fun _ _ q => q) t2.read f2.read hn hwl (by omega) (by omega) _ (by simp) (by simp) (by simp) (by simp)
end Go.Proofs.YtigknpfjhegkgaaGreat
