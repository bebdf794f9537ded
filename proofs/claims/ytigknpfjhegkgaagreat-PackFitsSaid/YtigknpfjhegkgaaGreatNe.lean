/- Texts of this claim, one behind the other. -/
import Derived.Test.YtigknpfjhegkgaaGreatNd
import Derived.Test.YtigknpfjhegkgaaGreatBd
import Derived.KernelRfl
section
/- What the program packs: what is left. -/
namespace Go.Proofs.YtigknpfjhegkgaaGreat
open Go Go.AS
set_option maxRecDepth 100000
set_option linter.unusedSimpArgs false
set_option linter.unusedVariables false
attribute [local irreducible] Trie.set Trie.get Env.rd
attribute [local simp ↓] wV_b2s
attribute [local simp] Nat.add_assoc wD_cons'' wD_nil' wC_seq wC_ops wC_opsD_nil wC_cond wC_skip wC_ret wC_exit wC_block wO_cons' wO_nil wantedA wV_eq lop qop ev wL_some wL_none wPut envOf rd_set rd_leaf eqA thenC blockC wB_true wB_false endF unwindA resultsA resA tupleA rdCell rdCells wrCells cl fillP lay rep bi_eql bi_neq bi_lss bi_leq bi_gtr bi_geq bi_add bi_sub bs_eql bs_neq bi_shr4 unA get_set' AHeap.get_alloc oneCell beqd bned idxA
attribute [local simp] Op.len Op.one Op.take Op.at0 Op.head? Op.getCap Op.getAd Op.layAll Op.zeroC Op.vb

def placesO (l : List Op) : List Nat := (List.range l.length).filter fun i => decide (0 < szO l i)
def ordO (l : List Op) : List Nat := (List.range 10).flatMap fun k => (placesO l).filter fun x => decide (rkO l x = (0 : Int) + (k : Nat))
theorem placesO_lt (l : List Op) : ∀ x ∈ placesO l, x < l.length := fun x hx => by
  have := (List.mem_filter.1 hx).1
  simpa using this
theorem placesO_up (l : List Op) : (placesO l).Pairwise (· < ·) := List.pairwise_lt_range.filter _
theorem ordO_is (l : List Op) : IsOrd (rkO l) (placesO l) (ordO l) := passes_ord (rkO l) (placesO l) (placesO_up l) 10 0 fun x hx => by
  rw [rkO_at (placesO_lt l x hx)]
  have := rankO_in (l[x]'(placesO_lt l x hx))
  omega
theorem ordO_uniq {l : List Op} {L : List Nat} (h : IsOrd (rkO l) (placesO l) L) : L = ordO l := Ord.unique h.2 (ordO_is l).2 (h.1.trans (ordO_is l).1.symm)
def takenO (l : List Op) (r : Int) : List Nat := fitP (szO l) (ordO l) r
def pickO (l : List Op) (is : List Nat) : List Op := is.filterMap fun i => l[i]?
def takeO (l : List Op) (r : Int) : List Op := pickO l (takenO l r)
def leftP (l : List Op) (r : Int) : List Nat := (placesO l).filter fun i => !decide (i ∈ takenO l r)
def leftO (l : List Op) (r : Int) : List Op := pickO l (leftP l r)
theorem pickO_snoc (l : List Op) (is : List Nat) {i : Nat} (h : i < l.length) : pickO l (is ++ [i]) = pickO l is ++ [l[i]] := by
  simp [pickO, List.filterMap_append, List.getElem?_eq_getElem h]
theorem pickO_len (l : List Op) : ∀ is : List Nat, (pickO l is).length ≤ is.length := fun is => List.length_filterMap_le ..
theorem range_snoc (p : Nat → Bool) (i : Nat) : (List.range (i + 1)).filter p = (List.range i).filter p ++ if p i then [i] else [] := by
  rw [List.range_succ, List.filter_append, List.filter_cons, List.filter_nil]
def LfI (A0 : AHeap) (b p mb N : Nat) (lv tv : Value) (l : List Op) (L K : List Nat) (m : Nat) (st : St) : Prop := ∃ i v, m + i = L.length ∧ st.n = 86 ∧ st.dfs = [] ∧ (st.env.rd 2 = .pointer (some ⟨b, 0, none⟩) ∧ st.env.rd 4 = tv ∧ st.env.rd 5 = v ∧ st.env.rd 9 = .map (some mb) ∧ st.env.rd 66 = .slice (some ⟨p, 0, none⟩) L.length N ∧ st.env.rd 67 = .int .i64 (L.length : Nat) ∧ st.env.rd 68 = .int .i64 (i : Nat)) ∧
  Ext NoB A0 st.A ∧ SliceAt st.A 38 v (pickO l ((L.take i).filter fun i => !decide (i ∈ K))).length (opsC (pickO l ((L.take i).filter fun i => !decide (i ∈ K)))) ∧ ∀ j, Own v j → A0.size ≤ j
theorem left_ok (A0 : AHeap) (b p mb N opn : Nat) (lv tv : Value) (l : List Op) (L K : List Nat) (f : Int → Option Value) (hb : A0.get b = some (.cells [lv] false opn)) (hl : ReadAt A0 38 lv l.length (opsC l)) (hr : RowAt A0 p 0 L) (hm : MapIs A0 mb f) (hL : ∀ x ∈ L, x < l.length) (hn : l.length ≤ 30) (hLn : L.length ≤ 30)
    (hf : ∀ x ∈ L, (f (x : Nat) = none ∧ x ∉ K) ∨ ∃ n : Nat, f (x : Nat) = some (.int .i64 (n : Nat)) ∧ 0 < n ∧ x ∈ K) (env : Env) (r2 : env.rd 2 = .pointer (some ⟨b, 0, none⟩)) (r4 : env.rd 4 = tv) (r5 : env.rd 5 = .slice none 0 0) (r6 : env.rd 6 = .slice (some ⟨p, 0, none⟩) L.length N) (r9 : env.rd 9 = .map (some mb)) (Q : Value → AHeap → Prop)
    (hq : ∀ A' v, Ext NoB A0 A' → SliceAt A' 38 v (pickO l (L.filter fun i => !decide (i ∈ K))).length (opsC (pickO l (L.filter fun i => !decide (i ∈ K)))) → (∀ j, Own v j → A0.size ≤ j) → Q (.tuple ⟨[tv, v]⟩) A') :
    wC T 11 none c11u { env := env, n := 86, dfs := [], A := A0 } (endF [.inl 4, .inl 5] Q) := by
  dsimp only [c11u]
  simp [r6]
  refine wC_loop_inv (LfI A0 b p mb N lv tv l L K) ?_ L.length _ ⟨0, .slice none 0 0, rfl, rfl, rfl, ⟨by simp [r2], by simp [r4], by simp [r5], by simp [r9], by simp, by simp, by simp⟩, Ext.refl, by simpa [pickO, opsC] using .inl ⟨rfl, rfl, rfl⟩, fun j ⟨_, _, _, q⟩ => by cases q⟩
  rintro m ⟨env, nn, dfs, A⟩ ⟨i, v, k0, k1, k2, ⟨s2, s4, s5, s9, s66, s67, s68⟩, e1, s1, o1⟩
  simp only at k1 k2 s2 s4 s5 s9 s66 s67 s68 e1 s1
  subst k1; subst k2
  by_cases hi : i < L.length
  case neg =>
    have hii : ¬ (i : Int) < (L.length : Int) := by omega
    rw [List.take_of_length_le (by omega)] at s1
    simp [s67, s68, hii, hi, s4, s5]
    exact hq A v e1 s1 o1
  have hii : (i : Int) < (L.length : Int) := by omega
  obtain ⟨bs, opp, hB⟩ := hr.ext e1 id
  have gp := hB.get
  have hat := hB.at hi
  rw [Nat.zero_add] at hat
  have hli : i < bs.length := by have := hB.le; omega
  have ht : L.take (i + 1) = L.take i ++ [L[i]] := by rw [List.take_add_one, List.getElem?_eq_getElem hi]; rfl
  have hmem := List.getElem_mem hi
  have hLx := hL _ hmem
  have hfx := hf _ hmem
  rw [List.getD_eq_getElem?_getD, List.getElem?_eq_getElem hi, Option.getD_some] at hat
  generalize L[i] = x at hat ht hmem hLx hfx
  have gb := e1.get hb id
  obtain ⟨es, ck, gm, hfind⟩ := (hm.ext e1 id).get (x : Nat)
  have ws := wrap_succ i (by omega)
  have hat' : ∀ hh, bs[i]'hh = .int .i64 (x : Nat) := fun hh => by rw [List.getElem?_eq_getElem hh] at hat; exact Option.some.inj hat
  rcases hfx with ⟨f1, f2⟩ | ⟨n, f1, f2, f3⟩
  · rw [f1] at hfind
    simp only at hfind
    obtain ⟨d1, p1, cc1, bs1, ro1, opn1, q1, q2, q3, q4⟩ := (hl.ext e1 fun _ _ q => q).elem2 hLx
    rw [opsC_at l x hLx] at q4
    rw [Nat.add_assoc] at q3
    subst q1
    have hps := pickO_snoc l ((L.take i).filter fun i => !decide (i ∈ K)) hLx
    generalize l[x] = y at q4 hps
    have hfl : (L.take (i + 1)).filter (fun i => !decide (i ∈ K)) = (L.take i).filter (fun i => !decide (i ∈ K)) ++ [x] := by rw [ht, List.filter_append]; simp [f2]
    obtain ⟨a', c', A', u1, u2, u3, u4⟩ := appO A (A.alloc (.cells y.cells false 0)) v (.slice (some ⟨A.size, 0, none⟩) 1 1) (pickO l ((L.take i).filter fun i => !decide (i ∈ K))) y s1 Ext.alloc rfl (by simp [firstA, ENDCAP]) rfl (by have := pickO_len l ((L.take i).filter fun i => !decide (i ∈ K)); have := List.length_filter_le (fun i => !decide (i ∈ K)) (L.take i); rw [List.length_take] at this; omega)
    simp [s67, s68, hii, hi, s66, gp, hat, hat', hli, s9, gm, hfind, getRes, s5, s2, gb, hLx, q2, q3, q4, u1, ws]
    refine ⟨m - 1, by omega, i + 1, _, by omega, rfl, rfl, ⟨by simp [s2], by simp [s4], by simp; rfl, by simp [s9], by simp [s66], by simp [s67], by simp⟩, ?_, ?_, ?_⟩
    · exact e1.trans2 u3 fun j hj q => by have := o1 j q; omega
    · rw [hfl, hps]; simpa using u2
    · exact fun j hj => by
        rcases u4 j hj with q | q
        · exact o1 j q
        · exact Nat.le_trans e1.size q
  · rw [f1] at hfind
    obtain ⟨ix, hfind⟩ := hfind
    have hfl : (L.take (i + 1)).filter (fun i => !decide (i ∈ K)) = (L.take i).filter (fun i => !decide (i ∈ K)) := by rw [ht, List.filter_append]; simp [f3]
    have hne : ¬ (n : Int) = 0 := by omega
    have hne' : ¬ n = 0 := by omega
    simp [s67, s68, hii, hi, s66, gp, hat, hat', hli, s9, gm, hfind, getRes, hne, hne', ws]
    refine ⟨m - 1, by omega, i + 1, v, by omega, rfl, rfl, ⟨by simp [s2], by simp [s4], by simp [s5], by simp [s9], by simp [s66], by simp [s67], by simp⟩, e1, ?_, o1⟩
    rw [hfl]; exact s1
end Go.Proofs.YtigknpfjhegkgaaGreat
end

section
/- What the program packs: what is taken. -/
namespace Go.Proofs.YtigknpfjhegkgaaGreat
open Go Go.AS
set_option maxRecDepth 100000
set_option linter.unusedSimpArgs false
set_option linter.unusedVariables false
attribute [local irreducible] Trie.set Trie.get Env.rd
attribute [local simp ↓] wV_b2s
attribute [local simp] Nat.add_assoc wD_cons'' wD_nil' wC_seq wC_ops wC_opsD_nil wC_cond wC_skip wC_ret wC_exit wC_block wO_cons' wO_nil wantedA wV_eq lop qop ev wL_some wL_none wPut envOf rd_set rd_leaf eqA thenC blockC wB_true wB_false endF unwindA resultsA resA tupleA rdCell rdCells wrCells cl fillP lay rep bi_eql bi_neq bi_lss bi_leq bi_gtr bi_geq bi_add bi_sub bs_eql bs_neq bi_shr4 unA get_set' AHeap.get_alloc oneCell beqd bned idxA
attribute [local simp] Op.len Op.one Op.take Op.at0 Op.head? Op.getCap Op.getAd Op.layAll Op.zeroC Op.vb

/-- An option that may be packed: it is well formed, and what it is laid as is no endless row. -/
def OkO (x : Op) : Prop := x.W ∧ ∀ t, x.enc = some t → t.length < 1000000
def mapF (s : Nat → Nat) (K : List Nat) : Int → Option Value := fun k => if 0 ≤ k ∧ k.toNat ∈ K then some (.int .i64 (s k.toNat : Nat)) else none
theorem mapF_at (s : Nat → Nat) (K : List Nat) (x : Nat) : mapF s K (x : Nat) = if x ∈ K then some (.int .i64 (s x : Nat)) else none := by
  unfold mapF
  by_cases h : x ∈ K
  · rw [if_pos h, if_pos ⟨by omega, by simpa using h⟩]; simp
  · rw [if_neg h, if_neg (fun q => h (by simpa using q.2))]
theorem mapF_snoc (s : Nat → Nat) (K : List Nat) (x : Nat) : ∀ k, (if k = (x : Int) then some (.int .i64 (s x : Nat)) else mapF s K k) = mapF s (K ++ [x]) k := by
  intro k
  unfold mapF
  by_cases h : k = (x : Int)
  · subst h; simp
  · have : ¬ (k = (x : Int)) := h
    rw [if_neg h]
    by_cases g : 0 ≤ k
    · have : ¬ k.toNat = x := by omega
      simp [this]
    · simp [g]
def TkI (A0 : AHeap) (b p mb d' o' c' N : Nat) (lv pv : Value) (l : List Op) (M : List Nat) (r : Int) (m : Nat) (st : St) : Prop := ∃ i v, m + i = M.length ∧ st.n = 86 ∧ st.dfs = [] ∧ (st.env.rd 1 = .int .i64 (r - sumP (szO l) (fitP (szO l) (M.take i) r)) ∧ st.env.rd 2 = .pointer (some ⟨b, 0, none⟩) ∧ st.env.rd 4 = v ∧ st.env.rd 5 = .slice none 0 0 ∧ st.env.rd 6 = pv ∧ st.env.rd 9 = .map (some mb) ∧ st.env.rd 38 = .slice (some ⟨d', o', none⟩) M.length c' ∧ st.env.rd 39 = .int .i64 (M.length : Nat) ∧ st.env.rd 40 = .int .i64 (i : Nat)) ∧
  Ext NoB A0 st.A ∧ SliceAt st.A 38 v (pickO l (fitP (szO l) (M.take i) r)).length (opsC (pickO l (fitP (szO l) (M.take i) r))) ∧ (∀ j, Own v j → A0.size ≤ j ∧ j ≠ mb ∧ j ≠ d') ∧ MapIs st.A mb (mapF (szO l) (fitP (szO l) (M.take i) r)) ∧ RowAt st.A d' o' M
theorem take_ok (A0 : AHeap) (b p N opn : Nat) (lv : Value) (l : List Op) (r : Int) (hb : A0.get b = some (.cells [lv] false opn)) (hl : ReadAt A0 38 lv l.length (opsC l)) (hlv : ∀ j, Own lv j → j < A0.size) (hr : RowAt A0 p 0 (placesO l)) (hread : ReadAt A0 1 (.slice (some ⟨p, 0, none⟩) (placesO l).length N) (placesO l).length ((placesO l).map pc)) (hn : l.length ≤ 30) (hw : ∀ x ∈ l, OkO x) (hr40 : r ≤ 40)
    (env : Env) (r1 : env.rd 1 = .int .i64 r) (r2 : env.rd 2 = .pointer (some ⟨b, 0, none⟩)) (r4 : env.rd 4 = .slice none 0 0) (r5 : env.rd 5 = .slice none 0 0) (r6 : env.rd 6 = .slice (some ⟨p, 0, none⟩) (placesO l).length N) (Q : Value → AHeap → Prop)
    (hq : ∀ A' tv fv, Ext NoB A0 A' → SliceAt A' 38 tv (takeO l r).length (opsC (takeO l r)) → SliceAt A' 38 fv (leftO l r).length (opsC (leftO l r)) → (∀ j, Own tv j → A0.size ≤ j) → (∀ j, Own fv j → A0.size ≤ j) → Q (.tuple ⟨[tv, fv]⟩) A') :
    wC T 11 none c11t { env := env, n := 86, dfs := [], A := A0 } (endF [.inl 4, .inl 5] Q) := by
  dsimp only [c11t]
  have hPl : (placesO l).length ≤ 30 := by
    have := List.length_filter_le (fun i => decide (0 < szO l i)) (List.range l.length)
    rw [List.length_range] at this
    unfold placesO; omega
  simp [r6, r2]
  generalize hA1 : AHeap.alloc A0 _ = A1
  have e1 : Ext NoB A0 A1 := by subst hA1; exact Ext.alloc
  have m1 : MapIs A1 A0.size (fun _ => none) := by subst hA1; exact MapIs.nil (c := 0) (by simp)
  have z1 : A1.size = A0.size + 1 := by subst hA1; rfl
  refine sorted_ok A1 b opn p 0 N lv l (placesO l) (e1.get hb id) (hl.ext e1 fun _ _ q => q) hn (placesO_up l) hPl (placesO_lt l) (hread.ext e1 fun _ _ q => q) (fun j hj => by have := hlv j hj; omega) _ fun B d' o' c' M e2 hM hrM ld => ?_
  have hMeq := ordO_uniq hM
  subst hMeq
  have hMl : (placesO l).length = (ordO l).length := hM.1.length_eq.symm
  have hMlt : ∀ x ∈ ordO l, x < l.length := fun x hx => placesO_lt l x (hM.1.subset hx)
  have eB := e1.trans e2
  rw [hMl]
  simp
  refine wC_loop_inv (TkI A0 b p A0.size d' o' c' N lv (.slice (some ⟨p, 0, none⟩) (placesO l).length N) l (ordO l) r) ?_ (ordO l).length _ ⟨0, .slice none 0 0, rfl, rfl, rfl, ⟨by simp [r1, fitP, sumP], by simp [r2], by simp [r4], by simp [r5], by simp [r6], by simp, by simp, by simp, by simp⟩, eB, by simpa [pickO, opsC, fitP] using .inl ⟨rfl, rfl, rfl⟩, (fun j ⟨_, _, _, q⟩ => by cases q), (m1.ext e2 id).congr (fun k => by simp [mapF, fitP]), hrM⟩
  rintro m ⟨env, nn, dfs, A⟩ ⟨i, v, k0, k1, k2, ⟨s1, s2, s4, s5, s6, s9, s38, s39, s40⟩, e3, t1, o1, hm, hrow⟩
  simp only at k1 k2 s1 s2 s4 s5 s6 s9 s38 s39 s40 e3 t1 hm hrow
  subst k1; subst k2
  have fin : Ext NoB A0 A := e3
  by_cases hi : i < (ordO l).length
  case neg =>
    have hii : ¬ (i : Int) < ((ordO l).length : Int) := by omega
    rw [List.take_of_length_le (by omega)] at t1 hm
    simp [s39, s40, hii, hi]
    refine left_ok A b p A0.size N opn lv v l (placesO l) (takenO l r) _ (e3.get hb id) (hl.ext e3 fun _ _ q => q) (hr.ext e3 id) hm (placesO_lt l) hn hPl (fun x hx => ?_) _ (by simp [s2]) (by simp [s4]) (by simp [s5]) (by simp [s6]) (by simp [s9]) _ fun A' fv e4 t4 o4 => hq A' v fv (e3.trans e4) (t1.ext e4 fun _ _ q => q) t4 (fun j hj => (o1 j hj).1) (fun j hj => Nat.le_trans e3.size (o4 j hj))
    rw [mapF_at]
    by_cases g : x ∈ takenO l r
    · rw [if_pos (by exact g)]
      exact .inr ⟨_, rfl, by simpa using (List.mem_filter.1 hx).2, g⟩
    · rw [if_neg (by exact g)]
      exact .inl ⟨rfl, g⟩
  have hii : (i : Int) < ((ordO l).length : Int) := by omega
  obtain ⟨bs, opp, hB⟩ := hrow
  have gp := hB.get
  have hat := hB.at hi
  have hli : o' + i < bs.length := by have := hB.le; omega
  have ht : (ordO l).take (i + 1) = (ordO l).take i ++ [(ordO l)[i]] := by rw [List.take_add_one, List.getElem?_eq_getElem hi]; rfl
  have hLx := hMlt _ (List.getElem_mem hi)
  rw [List.getD_eq_getElem?_getD, List.getElem?_eq_getElem hi, Option.getD_some] at hat
  have hnew : (ordO l)[i] ∉ fitP (szO l) ((ordO l).take i) r := by
    intro q
    have q1 := (fitP_sub (szO l) _ r).subset q
    have nd : (ordO l).Pairwise (· ≠ ·) := hM.2.imp fun {a b} h q => by subst q; unfold Be at h; omega
    obtain ⟨j, hj, hjx⟩ := List.getElem_of_mem q1
    rw [List.getElem_take] at hjx
    rw [List.length_take] at hj
    exact (List.pairwise_iff_getElem.1 nd) j i (by omega) hi (by omega) hjx
  generalize (ordO l)[i] = x at hat ht hLx hnew
  have hat' : ∀ hh, bs[o' + i]'hh = .int .i64 (x : Nat) := fun hh => by rw [List.getElem?_eq_getElem hh] at hat; exact Option.some.inj hat
  have gb := e3.get hb id
  have ws := wrap_succ i (by omega)
  have hsz := szO_at hLx
  have hok := hw _ (List.getElem_mem hLx)
  obtain ⟨d1, p1, cc1, bs1, ro1, opn1, q1, q2, q3, q4⟩ := (hl.ext e3 fun _ _ q => q).elem2 hLx
  rw [opsC_at l x hLx] at q4
  rw [Nat.add_assoc] at q3
  subst q1
  have hps := pickO_snoc l (fitP (szO l) ((ordO l).take i) r) hLx
  have hfs := fitP_snoc (szO l) ((ordO l).take i) x r
  rw [← ht] at hfs
  generalize l[x] = y at q4 hps hsz hok
  simp [s39, s40, hii, hi, s38, gp, hat, hat', hli, s2, gb, hLx, q2, q3, q4]
  refine size_ok A y hok.1 _ hok.2 fun C e4 => ?_
  have e5 := e3.trans e4
  rw [← hsz]
  have gb5 := e4.get gb id
  have q2' := e4.get q2 id
  have gp5 := e4.get gp id
  obtain ⟨kk, hkk⟩ : ∃ kk, kk = r - sumP (szO l) (fitP (szO l) ((ordO l).take i) r) := ⟨_, rfl⟩
  rw [← hkk] at s1 hfs
  have hkr : kk ≤ 40 := by have := sumP_pos (szO l) (fitP (szO l) ((ordO l).take i) r); omega
  have lmb := m1.lt
  have hm5 := hm.ext e4 id
  obtain ⟨es, ck, gm, hfind⟩ := hm5.get (x : Nat)
  rw [mapF_at, if_neg hnew] at hfind
  simp only at hfind
  by_cases hle : (szO l x : Int) ≤ kk
  · rw [if_pos hle] at hfs
    have w : IntKind.i64.wrap (kk - (szO l x : Nat)) = kk - (szO l x : Nat) := IntWalk.i64_in _ (by omega)
    have hp2 := hm5.put2 (n := (x : Nat)) (.int .i64 (szO l x : Nat)) (by rw [mapF_at, if_neg hnew]) gm
    generalize hD : AHeap.set C A0.size _ = D at hp2
    have e6 : Ext (fun j => j = A0.size) C D := by subst hD; exact Ext.set rfl
    have gb6 := e6.get gb5 (by have := AHeap.get_lt hb; omega)
    have q26 := e6.get q2' (by have := hlv d1 ⟨_, _, _, rfl⟩; omega)
    have tC := (t1.ext e4 fun _ _ q => q).ext e6 fun j hj q => (o1 j hj).2.1 q
    obtain ⟨a', c2, A', u1, u2, u3, u4⟩ := appO D (D.alloc (.cells y.cells false 0)) v (.slice (some ⟨D.size, 0, none⟩) 1 1) (pickO l (fitP (szO l) ((ordO l).take i) r)) y tC Ext.alloc rfl (by simp [firstA, ENDCAP]) rfl (by
      have g1 := pickO_len l (fitP (szO l) ((ordO l).take i) r)
      have g2 := (fitP_sub (szO l) ((ordO l).take i) r).length_le
      rw [List.length_take] at g2
      omega)
    simp [s1, hle, w, s9, gm, hfind, hD, s4, s2, gb6, hLx, q26, q3, q4, u1, ws, s40]
    have lD : D.size = C.size := by subst hD; rfl
    have hmz : A0.size < C.size := AHeap.get_lt gm
    have hd' := AHeap.get_lt gp
    have e7 : Ext NoB A0 D := (e5).trans2 e6 fun j hj q => by omega
    have ownD : ∀ j, Own v j → A0.size ≤ j ∧ j ≠ A0.size ∧ j ≠ d' := o1
    refine ⟨m - 1, by omega, i + 1, _, by omega, rfl, rfl, ⟨by simp [hfs, sumP_app, sumP]; omega, by simp [s2], by simp; rfl, by simp [s5], by simp [s6], by simp [s9], by simp [s38], by simp [s39], by simp⟩, ?_, ?_, ?_, ?_, ?_⟩
    · exact e7.trans2 u3 fun j hj q => by have := (o1 j q).1; omega
    · rw [hfs, hps]; simpa using u2
    · exact fun j hj => by
        rcases u4 j hj with q | q
        · exact o1 j q
        · have := e4.size; exact ⟨by have := e5.size; omega, by omega, by omega⟩
    · rw [hfs]
      exact (hp2.congr (mapF_snoc _ _ _)).ext u3 fun q => (o1 _ q).2.1 rfl
    · exact RowAt.ext (S := Own v) (RowAt.ext (S := fun j => j = A0.size) ⟨bs, opp, gp5, hB.le, hB.eq⟩ e6 (by omega)) u3 fun q => (o1 _ q).2.2 rfl
  · rw [if_neg hle, List.append_nil] at hfs
    simp [s1, hle, ws, s40]
    refine ⟨m - 1, by omega, i + 1, v, by omega, rfl, rfl, ⟨by simp [s1, hfs, hkk], by simp [s2], by simp [s4], by simp [s5], by simp [s6], by simp [s9], by simp [s38], by simp [s39], by simp⟩, e5, ?_, o1, ?_, ⟨bs, opp, gp5, hB.le, hB.eq⟩⟩
    · rw [hfs]; exact t1.ext e4 fun _ _ q => q
    · rw [hfs]; exact hm5
end Go.Proofs.YtigknpfjhegkgaaGreat
end

section
/- What the program packs. -/
namespace Go.Proofs.YtigknpfjhegkgaaGreat
open Go Go.AS
set_option maxRecDepth 100000
set_option linter.unusedSimpArgs false
set_option linter.unusedVariables false
attribute [local irreducible] Trie.set Trie.get Env.rd
attribute [local simp ↓] wV_b2s
attribute [local simp] Nat.add_assoc wD_cons'' wD_nil' wC_seq wC_ops wC_opsD_nil wC_cond wC_skip wC_ret wC_exit wC_block wO_cons' wO_nil wantedA wV_eq lop qop ev wL_some wL_none wPut envOf rd_set rd_leaf eqA thenC blockC wB_true wB_false endF unwindA resultsA resA tupleA rdCell rdCells wrCells cl fillP lay rep bi_eql bi_neq bi_lss bi_leq bi_gtr bi_geq bi_add bi_sub bs_eql bs_neq bi_shr4 unA get_set' AHeap.get_alloc oneCell beqd bned idxA
attribute [local simp] Op.len Op.one Op.take Op.at0 Op.head? Op.getCap Op.getAd Op.layAll Op.zeroC Op.vb

theorem rep_one (n : Nat) (v : Value) : rep n [v] = List.replicate n v := by
  induction n with
  | zero => rfl
  | succ n ih => simp only [rep, List.replicate_succ, List.flatten_cons] at ih ⊢; rw [ih]; rfl
def PlI (A0 : AHeap) (b p : Nat) (lv : Value) (l : List Op) (r : Int) (m : Nat) (st : St) : Prop := ∃ i k bs, m + i = l.length ∧ k = ((List.range i).filter fun i => decide (0 < szO l i)).length ∧ st.n = 86 ∧ st.dfs = [] ∧ (st.env.rd 1 = .int .i64 r ∧ st.env.rd 2 = .pointer (some ⟨b, 0, none⟩) ∧ st.env.rd 4 = .slice none 0 0 ∧ st.env.rd 5 = .slice none 0 0 ∧ st.env.rd 6 = .slice (some ⟨p, 0, none⟩) k l.length ∧ st.env.rd 20 = lv ∧ st.env.rd 21 = .int .i64 (l.length : Nat) ∧ st.env.rd 22 = .int .i64 (i : Nat)) ∧
  Ext NoB A0 st.A ∧ st.A.get b = some (.cells [lv] false 0) ∧ RowB st.A p 0 ((List.range i).filter fun i => decide (0 < szO l i)) bs 0 ∧ bs.length = l.length
theorem pack_ok (A0 : AHeap) (lv : Value) (l : List Op) (room : Int) (hl : ReadAt A0 38 lv l.length (opsC l)) (hlv : ∀ j, Own lv j → j < A0.size) (hn : l.length ≤ 30) (hw : ∀ x ∈ l, OkO x) (Q : Value → AHeap → Prop)
    (hq : ∀ A' tv fv, Ext NoB A0 A' → SliceAt A' 38 tv (takeO l (min room 40)).length (opsC (takeO l (min room 40))) → SliceAt A' 38 fv (leftO l (min room 40)).length (opsC (leftO l (min room 40))) → (∀ j, Own tv j → A0.size ≤ j) → (∀ j, Own fv j → A0.size ≤ j) → Q (.tuple ⟨[tv, fv]⟩) A') :
    wF T (.func (.func 11) #[] #[]) [lv, .int .i64 room] A0 Q := by
  obtain ⟨a1, c1, rfl⟩ := hl.val
  refine wF_func (first := []) (captured := []) t11 ⟨rfl, by decide⟩ ?_
  dsimp only [c11]
  have hmin : minV (.int .i64 room) (.int .i64 40) = some (.int .i64 (min room 40)) := by
    simp [minV]
    omega
  have hr40 : min room 40 ≤ 40 := by omega
  generalize min room 40 = r at hmin hr40 hq
  have hc : (l.length : Int) ≤ 4294967296 := by omega
  simp [foldV, hmin, hc]
  generalize hA2 : AHeap.alloc (AHeap.alloc A0 _) _ = A2
  have e2 : Ext NoB A0 A2 := by subst hA2; exact Ext.alloc.trans Ext.alloc
  have z2 : A2.size = A0.size + 2 := by subst hA2; rfl
  have b2 : A2.get A0.size = some (.cells [.slice a1 l.length c1] false 0) := by subst hA2; simp
  have p2 : A2.get (A0.size + 1) = some (.cells (List.replicate l.length (.int .i64 0)) false 0) := by
    subst hA2
    rw [← rep_one]
    simp
  refine wC_loop_inv (PlI A0 A0.size (A0.size + 1) (.slice a1 l.length c1) l r) ?_ l.length _ ⟨0, 0, List.replicate l.length (.int .i64 0), rfl, rfl, rfl, rfl, ⟨by simp, by simp, by simp, by simp, by simp, by simp, by simp, by simp⟩, e2, b2, ⟨p2, by simp, by simp⟩, by simp⟩
  rintro m ⟨env, nn, dfs, A⟩ ⟨i, k, bs, k0, hk, k1, k2, ⟨s1, s2, s4, s5, s6, s20, s21, s22⟩, e3, gb, hrow, hbs⟩
  simp only at k1 k2 s1 s2 s4 s5 s6 s20 s21 s22 e3 gb hrow
  subst k1; subst k2
  have hki : k ≤ i := by
    have := List.length_filter_le (fun i => decide (0 < szO l i)) (List.range i)
    rw [List.length_range] at this; omega
  have sA := e3.size
  by_cases hi : i < l.length
  case neg =>
    have hii : ¬ (i : Int) < (l.length : Int) := by omega
    have hil : i = l.length := by omega
    subst hil
    simp [s21, s22]
    have hkk : k = (placesO l).length := hk
    have hre : ReadAt A 1 (.slice (some ⟨A0.size + 1, 0, none⟩) (placesO l).length l.length) (placesO l).length ((placesO l).map pc) := by
      refine .inr (.inl ⟨A0.size + 1, 0, l.length, bs, false, 0, rfl, hrow.get, by rw [← hkk]; omega, ?_, fun q => ?_⟩)
      · have := hrow.eq
        rw [Nat.mul_one]; exact this.symm
      · rw [q] at hn; exact absurd hn (by decide)
    have lA := AHeap.get_lt gb
    refine take_ok A A0.size (A0.size + 1) l.length 0 (.slice a1 l.length c1) l r gb (hl.ext e3 fun _ _ q => q) (fun j hj => by have := hlv j hj; omega) ⟨bs, 0, hrow⟩ hre hn hw hr40 _ (by simp [s1]) (by simp [s2]) (by simp [s4]) (by simp [s5]) (by simp [s6, hkk]) _ fun A' tv fv e4 t4 f4 o4 o5 => hq A' tv fv (e3.trans e4) t4 f4 (fun j hj => Nat.le_trans sA (o4 j hj)) (fun j hj => Nat.le_trans sA (o5 j hj))
  have hii : (i : Int) < (l.length : Int) := by omega
  obtain ⟨d1, p1, cc1, bs1, ro1, opn1, q1, q2, q3, q4⟩ := (hl.ext e3 fun _ _ q => q).elem2 hi
  have hd1 := hlv d1 ⟨p1, l.length, cc1, q1⟩
  rw [opsC_at l i hi] at q4
  rw [Nat.add_assoc] at q3
  cases q1
  have hsz := szO_at hi
  have hok := hw _ (List.getElem_mem hi)
  have ws := wrap_succ i (by omega)
  have hsn := range_snoc (fun i => decide (0 < szO l i)) i
  generalize l[i] = y at q4 hsz hok
  have lA := AHeap.get_lt gb
  have lP := AHeap.get_lt hrow.get
  simp [s21, s22, hii, hi, s20, q2, q3, q4]
  generalize hB : AHeap.set _ _ _ = B
  have eB : Ext NoB A B := by subst hB; (repeat first | exact Ext.refl | assumption | refine Ext.allocN ?_ | refine Ext.setN ?_ (by first | omega | (simp; done) | (simp; omega)))
  have gB : B.get A.size = some (.cells y.cells false 0) := by subst hB; simp
  simp [gB]
  refine size_ok B y hok.1 _ hok.2 fun C e4 => ?_
  rw [← hsz]
  have e5 := eB.trans e4
  have gp5 := e5.get hrow.get id
  have gb5 := e5.get gb id
  by_cases h0 : 0 < szO l i
  · rw [if_pos (by simpa using h0)] at hsn
    have h0' : (0 : Int) < (szO l i : Int) := by omega
    have gp6 : (C.alloc (.cells [.int .i64 (i : Nat)] false 0)).get (A0.size + 1) = some (.cells bs false 0) := by
      rw [AHeap.get_alloc, if_neg (by have := AHeap.get_lt gp5; omega)]; exact gp5
    have hap := app_in (A := C.alloc (.cells [.int .i64 (i : Nat)] false 0)) (d := C.size) (bytes := 8) (y := .int .i64 (i : Nat)) (ro := false) (opn2 := 0) gp6 hbs (show k < l.length by omega) (by omega) (by decide) (by simp) rfl
    simp [h0, h0', s6, hap, ws, s22]
    generalize hD : AHeap.set _ _ _ = D
    have eD : Ext (fun j => j = A0.size + 1) C D := by
      subst hD
      exact (Ext.alloc (S := fun j => j = A0.size + 1)).trans (Ext.set rfl)
    refine ⟨m - 1, by omega, i + 1, k + 1, bs.set k (.int .i64 (i : Nat)), by omega, by rw [hsn, List.length_append, ← hk]; rfl, rfl, rfl, ⟨by simp [s1], by simp [s2], by simp [s4], by simp [s5], by simp, by simp [s20], by simp [s21], by simp⟩, ?_, ?_, ?_, by simpa using hbs⟩
    · exact (e3.trans e5).trans2 eD fun j hj q => by omega
    · exact eD.get gb5 (by omega)
    · have hle := hrow.le
      have heq := hrow.eq
      rw [← hk] at hle heq
      rw [List.drop_zero] at heq
      refine ⟨?_, ?_, ?_⟩
      · subst hD; rw [get_set', if_pos rfl, if_pos (by simp; have := AHeap.get_lt gp5; omega)]
      · rw [hsn, List.length_append, ← hk]; simp; omega
      · rw [hsn, List.length_append, ← hk, List.drop_zero, List.map_append]
        show (bs.set k (.int .i64 (i : Nat))).take (k + 1) = _
        rw [List.take_add_one, List.take_set_of_le (by omega), heq, List.getElem?_set_self (by omega)]
        rfl
  · rw [if_neg (by simpa using h0), List.append_nil] at hsn
    have h0' : ¬ (0 : Int) < (szO l i : Int) := by omega
    simp [h0, h0', ws, s22]
    refine ⟨m - 1, by omega, i + 1, k, bs, by omega, by rw [hsn]; exact hk, rfl, rfl, ⟨by simp [s1], by simp [s2], by simp [s4], by simp [s5], by simp [s6], by simp [s20], by simp [s21], by simp⟩, e3.trans e5, gb5, by rw [hsn]; exact ⟨gp5, hrow.le, hrow.eq⟩, hbs⟩
end Go.Proofs.YtigknpfjhegkgaaGreat
end

section
/- What the reference packs: one pass. -/
namespace Go.Proofs.YtigknpfjhegkgaaGreat
open Go Go.AS
set_option maxRecDepth 100000
set_option linter.unusedSimpArgs false
set_option linter.unusedVariables false
attribute [local irreducible] Trie.set Trie.get Env.rd
attribute [local simp ↓] wV_b2s
attribute [local simp] Nat.add_assoc wD_cons'' wD_nil' wC_seq wC_ops wC_opsD_nil wC_cond wC_skip wC_ret wC_exit wC_block wO_cons' wO_nil wantedA wV_eq lop qop ev wL_some wL_none wPut envOf rd_set rd_leaf eqA thenC blockC wB_true wB_false endF unwindA resultsA resA tupleA rdCell rdCells wrCells cl fillP lay rep bi_eql bi_neq bi_lss bi_leq bi_gtr bi_geq bi_add bi_sub bs_eql bs_neq bi_shr4 unA get_set' AHeap.get_alloc oneCell beqd bned idxA
attribute [local simp] Op.len Op.one Op.take Op.at0 Op.head? Op.getCap Op.getAd Op.layAll Op.zeroC Op.vb

def boolsO (n : Nat) (K : List Nat) : List Value := (List.range n).map fun i => .bool (decide (i ∈ K))
theorem boolsO_len (n : Nat) (K : List Nat) : (boolsO n K).length = n := by simp [boolsO]
theorem boolsO_at (n : Nat) (K : List Nat) {i : Nat} (h : i < n) : (boolsO n K)[i]? = some (.bool (decide (i ∈ K))) := by
  simp [boolsO, h]
theorem boolsO_set (n : Nat) (K : List Nat) (i : Nat) : (boolsO n K).set i (.bool true) = boolsO n (K ++ [i]) := by
  refine List.ext_getElem? fun j => ?_
  rw [List.getElem?_set]
  by_cases h : i = j
  · subst h
    rw [if_pos rfl, boolsO_len]
    by_cases g : i < n
    · rw [if_pos g, boolsO_at n _ g]; simp
    · rw [if_neg g, List.getElem?_eq_none (by rw [boolsO_len]; omega)]
  · rw [if_neg h]
    by_cases g : j < n
    · rw [boolsO_at n _ g, boolsO_at n _ g]
      have : ¬ j = i := fun q => h q.symm
      simp [this]
    · rw [List.getElem?_eq_none (by rw [boolsO_len]; omega), List.getElem?_eq_none (by rw [boolsO_len]; omega)]
def passP (l : List Op) (k i : Nat) : List Nat := ((List.range i).filter fun i => decide (0 < szO l i)).filter fun x => decide (rkO l x = (0 : Int) + (k : Nat))
theorem passP_snoc (l : List Op) (k i : Nat) : passP l k (i + 1) = passP l k i ++ if 0 < szO l i ∧ rkO l i = (k : Nat) then [i] else [] := by
  unfold passP
  rw [range_snoc, List.filter_append]
  congr 1
  by_cases h : 0 < szO l i
  · by_cases g : rkO l i = (k : Nat)
    · simp [h, g]
    · simp [h, g]
  · simp [h]
structure PsM (A0 A : AHeap) (q : Nat) (v : Value) (l : List Op) (K : List Nat) : Prop where
  ex : Ext NoB A0 A
  q0 : A0.size ≤ q
  gq : A.get q = some (.cells (boolsO l.length K) false 0)
  sv : SliceAt A 38 v (pickO l K).length (opsC (pickO l K))
  ow : ∀ j, Own v j → A0.size ≤ j ∧ j ≠ q
def PsE (env : Env) (lv : Value) (q k : Nat) (v : Value) (l : List Op) (kk : Int) : Prop := env.rd 0 = lv ∧ env.rd 1 = .int .i64 kk ∧ env.rd 4 = .slice none 0 0 ∧ env.rd 5 = .slice none 0 0 ∧ env.rd 6 = .slice (some ⟨q, 0, none⟩) l.length l.length ∧ env.rd 7 = v ∧ env.rd 8 = .slice none 0 0 ∧ env.rd 9 = .int .i64 (k : Nat)
def PsI (A0 : AHeap) (lv : Value) (l : List Op) (q k : Nat) (r : Int) (X : List Nat) (m : Nat) (st : St) : Prop := ∃ i v, m + i = l.length ∧ st.n = 90 ∧ st.dfs = [] ∧ PsE st.env lv q k v l (r - sumP (szO l) (fitP (szO l) (X ++ passP l k i) r)) ∧ st.env.rd 10 = .int .i64 (i : Nat) ∧ PsM A0 st.A q v l (fitP (szO l) (X ++ passP l k i) r)
theorem rpass_ok (A0 A1 : AHeap) (lv : Value) (l : List Op) (q k : Nat) (r : Int) (X : List Nat) (v : Value) (hl : ReadAt A0 38 lv l.length (opsC l)) (hlv : ∀ j, Own lv j → j < A0.size) (hn : l.length ≤ 30) (hw : ∀ x ∈ l, OkO x) (hr40 : r ≤ 40) (hX : X.length ≤ 1000) (hk : k < 10) (env : Env)
    (hE : PsE env lv q k v l (r - sumP (szO l) (fitP (szO l) X r))) (hM : PsM A0 A1 q v l (fitP (szO l) X r)) (Q : AExit → St → Prop)
    (hq : ∀ env' A' v', PsE env' lv q k v' l (r - sumP (szO l) (fitP (szO l) (X ++ passP l k l.length) r)) → PsM A0 A' q v' l (fitP (szO l) (X ++ passP l k l.length) r) → Q .normal { env := env', n := 90, dfs := [], A := A' }) :
    wC T 12 none c12t { env := env, n := 90, dfs := [], A := A1 } Q := by
  dsimp only [c12t]
  simp
  have hp0 : passP l k 0 = [] := rfl
  obtain ⟨a1, c1, rfl⟩ := hl.val
  obtain ⟨z0, z1, z4, z5, z6, z7, z8, z9⟩ := hE
  refine wC_loop_inv (PsI A0 (.slice a1 l.length c1) l q k r X) ?_ l.length _ ⟨0, v, rfl, rfl, rfl, by rw [hp0, List.append_nil]; exact ⟨by simp [z0], by simp [z1], by simp [z4], by simp [z5], by simp [z6], by simp [z7], by simp [z8], by simp [z9]⟩, by simp, by rw [hp0, List.append_nil]; exact hM⟩
  clear z0 z1 z4 z5 z6 z7 z8 z9 hM
  rintro m ⟨env, nn, dfs, A⟩ ⟨i, v, k0, k1, k2, hE, s10, hM⟩
  simp only at k1 k2 s10 hE hM
  subst k1; subst k2
  by_cases hi : i < l.length
  case neg =>
    have hii : ¬ (i : Int) < (l.length : Int) := by omega
    have hil : i = l.length := by omega
    subst hil
    obtain ⟨s0, s1, s4, s5, s6, s7, s8, s9⟩ := hE
    simp [s0, s10]
    exact hq _ A v ⟨by simp [s0], by simp [s1], by simp [s4], by simp [s5], by simp [s6], by simp [s7], by simp [s8], by simp [s9]⟩ hM
  have hii : (i : Int) < (l.length : Int) := by omega
  obtain ⟨s0, s1, s4, s5, s6, s7, s8, s9⟩ := hE
  obtain ⟨d1, p1, cc1, bs1, ro1, opn1, q1, q2, q3, q4⟩ := (hl.ext hM.ex fun _ _ q => q).elem2 hi
  have hd1 := hlv d1 ⟨p1, l.length, cc1, q1⟩
  rw [opsC_at l i hi] at q4
  rw [Nat.add_assoc] at q3
  cases q1
  have hsz := szO_at hi
  have hrk := rkO_at hi
  have hok := hw _ (List.getElem_mem hi)
  have ws := wrap_succ i (by omega)
  have hsn := passP_snoc l k i
  have hps := pickO_snoc l (fitP (szO l) (X ++ passP l k i) r) hi
  have hfs := fitP_snoc (szO l) (X ++ passP l k i) i r
  generalize l[i] = y at q4 hsz hrk hok hps
  simp [s0, s10, hii, hi, q2, q3, q4]
  refine rsize_ok A y hok.1 _ hok.2 fun B eB => ?_
  have q2B := eB.get q2 id
  simp [s0, s10, hii, hi, q2B, q3, q4]
  refine rrank_ok B y _ fun C eC => ?_
  rw [← hsz, ← hrk]
  have e5 := eB.trans eC
  have q2C := eC.get q2B id
  have gqC := e5.get hM.gq id
  have sC := e5.size
  have tC := hM.sv.ext e5 fun _ _ q => q
  obtain ⟨kk, hkk⟩ : ∃ kk, kk = r - sumP (szO l) (fitP (szO l) (X ++ passP l k i) r) := ⟨_, rfl⟩
  rw [← hkk] at s1 hfs
  have hkr : kk ≤ 40 := by have := sumP_pos (szO l) (fitP (szO l) (X ++ passP l k i) r); omega
  have stay : ∀ env' : Env, env'.rd 0 = env.rd 0 → env'.rd 1 = env.rd 1 → env'.rd 4 = env.rd 4 → env'.rd 5 = env.rd 5 → env'.rd 6 = env.rd 6 → env'.rd 7 = env.rd 7 → env'.rd 8 = env.rd 8 → env'.rd 9 = env.rd 9 → env'.rd 10 = .int .i64 ((i + 1 : Nat) : Int) → fitP (szO l) (X ++ passP l k (i + 1)) r = fitP (szO l) (X ++ passP l k i) r → PsI A0 (.slice (some ⟨d1, p1, none⟩) l.length c1) l q k r X (m - 1) ⟨env', 90, [], C⟩ := by
    intro env' g0 g1 g4 g5 g6 g7 g8 g9 g10 gf
    refine ⟨i + 1, v, by omega, rfl, rfl, ?_, g10, ?_⟩
    · rw [gf]
      exact ⟨by rw [g0, s0], by rw [g1, s1, hkk], by rw [g4, s4], by rw [g5, s5], by rw [g6, s6], by rw [g7, s7], by rw [g8, s8], by rw [g9, s9]⟩
    · rw [gf]
      exact ⟨hM.ex.trans e5, hM.q0, gqC, tC, hM.ow⟩
  by_cases hrkk : rkO l i = (k : Nat)
  case neg =>
    rw [if_neg (fun q => hrkk q.2), List.append_nil] at hsn
    simp [s9, hrkk, ws, s10]
    refine ⟨m - 1, by omega, ?_⟩
    refine stay _ ?_ ?_ ?_ ?_ ?_ ?_ ?_ ?_ ?_ (by rw [hsn]) <;> simp
  by_cases h0 : 0 < szO l i
  case neg =>
    rw [if_neg (fun q => h0 q.1), List.append_nil] at hsn
    have h0' : ¬ (0 : Int) < (szO l i : Int) := by omega
    simp [s9, hrkk, h0, h0', ws, s10]
    refine ⟨m - 1, by omega, ?_⟩
    refine stay _ ?_ ?_ ?_ ?_ ?_ ?_ ?_ ?_ ?_ (by rw [hsn]) <;> simp
  have h0' : (0 : Int) < (szO l i : Int) := by omega
  rw [if_pos ⟨h0, hrkk⟩] at hsn
  have hff : X ++ passP l k (i + 1) = (X ++ passP l k i) ++ [i] := by rw [hsn, List.append_assoc]
  by_cases hle : (szO l i : Int) ≤ kk
  case neg =>
    rw [if_neg hle, List.append_nil] at hfs
    simp [s9, hrkk, h0, h0', ws, s10, s1, hle]
    refine ⟨m - 1, by omega, ?_⟩
    refine stay _ ?_ ?_ ?_ ?_ ?_ ?_ ?_ ?_ ?_ (by rw [hff, hfs]) <;> simp
  rw [if_pos hle] at hfs
  have w : IntKind.i64.wrap (kk - (szO l i : Nat)) = kk - (szO l i : Nat) := IntWalk.i64_in _ (by omega)
  have hbl : i < (boolsO l.length (fitP (szO l) (X ++ passP l k i) r)).length := by rw [boolsO_len]; exact hi
  have hbl' : i + 1 ≤ (boolsO l.length (fitP (szO l) (X ++ passP l k i) r)).length := hbl
  have hset := boolsO_set l.length (fitP (szO l) (X ++ passP l k i) r) i
  generalize hD : AHeap.set C q (.cells (boolsO l.length (fitP (szO l) (X ++ passP l k i) r ++ [i])) false 0) = D
  have e6 : Ext (fun j => j = q) C D := by subst hD; exact Ext.set rfl
  have gq6 : D.get q = some (.cells (boolsO l.length (fitP (szO l) (X ++ passP l k i) r ++ [i])) false 0) := by subst hD; rw [get_set', if_pos rfl, if_pos (AHeap.get_lt gqC)]
  have q26 := e6.get q2C (by have := hM.q0; omega)
  obtain ⟨a', c2, A', u1, u2, u3, u4⟩ := appO D (D.alloc (.cells y.cells false 0)) v (.slice (some ⟨D.size, 0, none⟩) 1 1) (pickO l (fitP (szO l) (X ++ passP l k i) r)) y (tC.ext e6 fun j hj q => (hM.ow j hj).2 q) Ext.alloc rfl (by simp [firstA, ENDCAP]) rfl (by
    have g1 := pickO_len l (fitP (szO l) (X ++ passP l k i) r)
    have g2 := (fitP_sub (szO l) (X ++ passP l k i) r).length_le
    have g5 : (passP l k i).length ≤ i := by
      have g3 := List.length_filter_le (fun x => decide (rkO l x = (0 : Int) + (k : Nat))) ((List.range i).filter fun i => decide (0 < szO l i))
      have g4 := List.length_filter_le (fun i => decide (0 < szO l i)) (List.range i)
      rw [List.length_range] at g4
      unfold passP; omega
    rw [List.length_append] at g2
    omega)
  simp [s9, hrkk, h0, h0', ws, s10, s1, hle, w, s6, hii, hi, gqC, hbl, hbl', hset, hD, s7, s0, q26, q3, q4, u1]
  have lD : D.size = C.size := by subst hD; rfl
  have hqC := AHeap.get_lt gqC
  refine ⟨m - 1, by omega, i + 1, .slice a' ((pickO l (fitP (szO l) (X ++ passP l k i) r)).length + 1) c2, by omega, rfl, rfl, ?_, by simp, ?_⟩
  · rw [hff, hfs]
    exact ⟨by simp [s0], by simp [sumP_app, sumP]; omega, by simp [s4], by simp [s5], by simp [s6], by simp, by simp [s8], by simp [s9]⟩
  · rw [hff, hfs]
    have sz0 := hM.ex.size
    refine ⟨?_, hM.q0, u3.get gq6 fun g => (hM.ow _ g).2 rfl, by rw [hps]; simpa using u2, fun j hj => ?_⟩
    · exact ((hM.ex.trans e5).trans2 e6 fun j hj g => by have := hM.q0; omega).trans2 u3 fun j hj g => by have := (hM.ow j g).1; omega
    · rcases u4 j hj with g | g
      · exact hM.ow j g
      · exact ⟨by omega, by omega⟩
end Go.Proofs.YtigknpfjhegkgaaGreat
end

section
/- What the reference packs. -/
namespace Go.Proofs.YtigknpfjhegkgaaGreat
open Go Go.AS
set_option maxRecDepth 100000
set_option linter.unusedSimpArgs false
set_option linter.unusedVariables false
attribute [local irreducible] Trie.set Trie.get Env.rd
attribute [local simp ↓] wV_b2s
attribute [local simp] Nat.add_assoc wD_cons'' wD_nil' wC_seq wC_ops wC_opsD_nil wC_cond wC_skip wC_ret wC_exit wC_block wO_cons' wO_nil wantedA wV_eq lop qop ev wL_some wL_none wPut envOf rd_set rd_leaf eqA thenC blockC wB_true wB_false endF unwindA resultsA resA tupleA rdCell rdCells wrCells cl fillP lay rep bi_eql bi_neq bi_lss bi_leq bi_gtr bi_geq bi_add bi_sub bs_eql bs_neq bi_shr4 unA get_set' AHeap.get_alloc oneCell beqd bned idxA
attribute [local simp] Op.len Op.one Op.take Op.at0 Op.head? Op.getCap Op.getAd Op.layAll Op.zeroC Op.vb

def restP (l : List Op) (K : List Nat) (i : Nat) : List Nat := ((List.range i).filter fun i => decide (0 < szO l i)).filter fun i => !decide (i ∈ K)
theorem restP_snoc (l : List Op) (K : List Nat) (i : Nat) : restP l K (i + 1) = restP l K i ++ if 0 < szO l i ∧ i ∉ K then [i] else [] := by
  unfold restP
  rw [range_snoc, List.filter_append]
  congr 1
  by_cases h : 0 < szO l i
  · by_cases g : i ∈ K
    · simp [h, g]
    · simp [h, g]
  · simp [h]
theorem restP_len (l : List Op) (K : List Nat) (i : Nat) : (restP l K i).length ≤ i := by
  have g3 := List.length_filter_le (fun i => !decide (i ∈ K)) ((List.range i).filter fun i => decide (0 < szO l i))
  have g4 := List.length_filter_le (fun i => decide (0 < szO l i)) (List.range i)
  rw [List.length_range] at g4
  unfold restP; omega
def RlI (A0 : AHeap) (lv tv : Value) (l : List Op) (q : Nat) (K : List Nat) (m : Nat) (st : St) : Prop := ∃ i v, m + i = l.length ∧ st.n = 90 ∧ st.dfs = [] ∧ (st.env.rd 0 = lv ∧ st.env.rd 6 = .slice (some ⟨q, 0, none⟩) l.length l.length ∧ st.env.rd 7 = tv ∧ st.env.rd 8 = v ∧ st.env.rd 12 = .int .i64 (i : Nat)) ∧ Ext NoB A0 st.A ∧ SliceAt st.A 38 v (pickO l (restP l K i)).length (opsC (pickO l (restP l K i))) ∧ ∀ j, Own v j → A0.size ≤ j
theorem rleft_ok (A0 : AHeap) (lv tv : Value) (l : List Op) (q : Nat) (K : List Nat) (hl : ReadAt A0 38 lv l.length (opsC l)) (hn : l.length ≤ 30) (hw : ∀ x ∈ l, OkO x) (hq0 : A0.get q = some (.cells (boolsO l.length K) false 0)) (env : Env) (r0 : env.rd 0 = lv) (r6 : env.rd 6 = .slice (some ⟨q, 0, none⟩) l.length l.length) (r7 : env.rd 7 = tv) (r8 : env.rd 8 = .slice none 0 0) (Q : Value → AHeap → Prop)
    (hq : ∀ A' v, Ext NoB A0 A' → SliceAt A' 38 v (pickO l (restP l K l.length)).length (opsC (pickO l (restP l K l.length))) → (∀ j, Own v j → A0.size ≤ j) → Q (.tuple ⟨[tv, v]⟩) A') :
    wC T 12 none c12u { env := env, n := 90, dfs := [], A := A0 } (endF [.inl 4, .inl 5] Q) := by
  dsimp only [c12u]
  simp
  obtain ⟨a1, c1, rfl⟩ := hl.val
  refine wC_loop_inv (RlI A0 (.slice a1 l.length c1) tv l q K) ?_ l.length _ ⟨0, .slice none 0 0, rfl, rfl, rfl, ⟨by simp [r0], by simp [r6], by simp [r7], by simp [r8], by simp⟩, Ext.refl, .inl ⟨rfl, rfl, rfl⟩, fun j ⟨_, _, _, q⟩ => by cases q⟩
  rintro m ⟨env, nn, dfs, A⟩ ⟨i, v, k0, k1, k2, ⟨s0, s6, s7, s8, s12⟩, e1, t1, o1⟩
  simp only at k1 k2 s0 s6 s7 s8 s12 e1 t1
  subst k1; subst k2
  by_cases hi : i < l.length
  case neg =>
    have hii : ¬ (i : Int) < (l.length : Int) := by omega
    have hil : i = l.length := by omega
    subst hil
    simp [s0, s12, s7, s8]
    exact hq A v e1 t1 o1
  have hii : (i : Int) < (l.length : Int) := by omega
  obtain ⟨d1, p1, cc1, bs1, ro1, opn1, q1, q2, q3, q4⟩ := (hl.ext e1 fun _ _ q => q).elem2 hi
  rw [opsC_at l i hi] at q4
  rw [Nat.add_assoc] at q3
  cases q1
  have hsz := szO_at hi
  have hok := hw _ (List.getElem_mem hi)
  have ws := wrap_succ i (by omega)
  have hsn := restP_snoc l K i
  have hps := pickO_snoc l (restP l K i) hi
  generalize l[i] = y at q4 hsz hok hps
  have gq := e1.get hq0 id
  have hbl : i < (boolsO l.length K).length := by rw [boolsO_len]; exact hi
  have hat := boolsO_at l.length K hi
  have hat' : ∀ hh, (boolsO l.length K)[i]'hh = .bool (decide (i ∈ K)) := fun hh => by rw [List.getElem?_eq_getElem hh] at hat; exact Option.some.inj hat
  have stay : ∀ (env' : Env) C, Ext NoB A C → env'.rd 0 = env.rd 0 → env'.rd 6 = env.rd 6 → env'.rd 7 = env.rd 7 → env'.rd 8 = env.rd 8 → env'.rd 12 = .int .i64 ((i + 1 : Nat) : Int) → restP l K (i + 1) = restP l K i → RlI A0 (.slice (some ⟨d1, p1, none⟩) l.length c1) tv l q K (m - 1) ⟨env', 90, [], C⟩ := by
    intro env' C eC g0 g6 g7 g8 g12 gf
    refine ⟨i + 1, v, by omega, rfl, rfl, ⟨by rw [g0, s0], by rw [g6, s6], by rw [g7, s7], by rw [g8, s8], g12⟩, e1.trans eC, ?_, o1⟩
    rw [gf]; exact t1.ext eC fun _ _ q => q
  by_cases hK : i ∈ K
  · rw [if_neg (fun q => q.2 hK), List.append_nil] at hsn
    simp [s0, s12, hii, hi, s6, gq, hbl, hat, hat', hK, ws]
    refine ⟨m - 1, by omega, ?_⟩
    refine stay _ A Ext.refl ?_ ?_ ?_ ?_ ?_ hsn <;> simp
  simp [s0, s12, hii, hi, s6, gq, hbl, hat, hat', hK, q2, q3, q4]
  refine rsize_ok A y hok.1 _ hok.2 fun B eB => ?_
  rw [← hsz]
  have q2B := eB.get q2 id
  by_cases h0 : 0 < szO l i
  case neg =>
    have h0' : ¬ (0 : Int) < (szO l i : Int) := by omega
    rw [if_neg (fun q => h0 q.1), List.append_nil] at hsn
    simp [h0, h0', ws, s12]
    refine ⟨m - 1, by omega, ?_⟩
    refine stay _ B eB ?_ ?_ ?_ ?_ ?_ hsn <;> simp
  have h0' : (0 : Int) < (szO l i : Int) := by omega
  rw [if_pos ⟨h0, hK⟩] at hsn
  obtain ⟨a', c2, A', u1, u2, u3, u4⟩ := appO B (B.alloc (.cells y.cells false 0)) v (.slice (some ⟨B.size, 0, none⟩) 1 1) (pickO l (restP l K i)) y (t1.ext eB fun _ _ q => q) Ext.alloc rfl (by simp [firstA, ENDCAP]) rfl (by
    have g1 := pickO_len l (restP l K i)
    have g2 := restP_len l K i
    omega)
  simp [h0, h0', ws, s12, s8, s0, hii, hi, q2B, q3, q4, u1]
  refine ⟨m - 1, by omega, i + 1, .slice a' ((pickO l (restP l K i)).length + 1) c2, by omega, rfl, rfl, ⟨by simp [s0], by simp [s6], by simp [s7], by simp, by simp⟩, ?_, ?_, fun j hj => ?_⟩
  · exact (e1.trans eB).trans2 u3 fun j hj g => by have := o1 j g; omega
  · rw [hsn, hps]; simpa using u2
  · have := eB.size; have := e1.size
    rcases u4 j hj with g | g
    · exact o1 j g
    · omega
def upto (l : List Op) (k : Nat) : List Nat := (List.range k).flatMap fun k => passP l k l.length
theorem upto_succ (l : List Op) (k : Nat) : upto l (k + 1) = upto l k ++ passP l k l.length := by
  unfold upto
  rw [List.range_succ, List.flatMap_append]
  congr 1
  simp
theorem upto_ten (l : List Op) : upto l 10 = ordO l := rfl
theorem upto_len (l : List Op) : ∀ k, (upto l k).length ≤ k * l.length
  | 0 => by simp [upto]
  | k + 1 => by
    have := upto_len l k
    have h : (passP l k l.length).length ≤ l.length := by
      have g3 := List.length_filter_le (fun x => decide (rkO l x = (0 : Int) + (k : Nat))) ((List.range l.length).filter fun i => decide (0 < szO l i))
      have g4 := List.length_filter_le (fun i => decide (0 < szO l i)) (List.range l.length)
      rw [List.length_range] at g4
      unfold passP; omega
    rw [upto_succ, List.length_append, Nat.succ_mul]; omega
def RpI (A0 : AHeap) (lv : Value) (l : List Op) (q : Nat) (r : Int) (m : Nat) (st : St) : Prop := ∃ k v, m + k = 10 ∧ st.n = 90 ∧ st.dfs = [] ∧ PsE st.env lv q k v l (r - sumP (szO l) (fitP (szO l) (upto l k) r)) ∧ PsM A0 st.A q v l (fitP (szO l) (upto l k) r)
theorem rpack_ok (A0 : AHeap) (lv : Value) (l : List Op) (room : Int) (hl : ReadAt A0 38 lv l.length (opsC l)) (hlv : ∀ j, Own lv j → j < A0.size) (hn : l.length ≤ 30) (hw : ∀ x ∈ l, OkO x) (Q : Value → AHeap → Prop)
    (hq : ∀ A' tv fv, Ext NoB A0 A' → SliceAt A' 38 tv (takeO l (min room 40)).length (opsC (takeO l (min room 40))) → SliceAt A' 38 fv (leftO l (min room 40)).length (opsC (leftO l (min room 40))) → Q (.tuple ⟨[tv, fv]⟩) A') :
    wF T (.func (.func 12) #[] #[]) [lv, .int .i64 room] A0 Q := by
  obtain ⟨a1, c1, rfl⟩ := hl.val
  refine wF_func (first := []) (captured := []) t12 ⟨rfl, by decide⟩ ?_
  dsimp only [c12]
  have hmin : minV (.int .i64 room) (.int .i64 40) = some (.int .i64 (min room 40)) := by
    simp [minV]
    omega
  have hr40 : min room 40 ≤ 40 := by omega
  generalize min room 40 = r at hmin hr40 hq
  have hc : (l.length : Int) ≤ 4294967296 := by omega
  simp [foldV, hmin, hc]
  generalize hA2 : AHeap.alloc A0 _ = A2
  have e2 : Ext NoB A0 A2 := by subst hA2; exact Ext.alloc
  have z2 : A2.size = A0.size + 1 := by subst hA2; rfl
  have p2 : A2.get A0.size = some (.cells (boolsO l.length []) false 0) := by
    subst hA2
    have : boolsO l.length [] = rep l.length [.bool false] := by rw [rep_one]; simp [boolsO, List.map_const']
    rw [this]
    simp
  refine wC_loop_inv (RpI A0 (.slice a1 l.length c1) l A0.size r) ?_ 10 _ ⟨0, .slice none 0 0, rfl, rfl, rfl, ⟨by simp, by simp [upto, fitP, sumP], by simp, by simp, by simp, by simp, by simp, by simp⟩, ⟨e2, Nat.le_refl _, p2, .inl ⟨rfl, rfl, rfl⟩, fun j ⟨_, _, _, q⟩ => by cases q⟩⟩
  rintro m ⟨env, nn, dfs, A⟩ ⟨k, v, k0, k1, k2, hE, hM⟩
  simp only at k1 k2 hE hM
  subst k1; subst k2
  have hE' := hE
  obtain ⟨s0, s1, s4, s5, s6, s7, s8, s9⟩ := hE
  by_cases hk : k < 10
  case neg =>
    have hkk : k = 10 := by omega
    subst hkk
    simp [s9]
    have hK : fitP (szO l) (upto l 10) r = takenO l r := by rw [upto_ten]; rfl
    rw [hK] at hM
    refine rleft_ok A (.slice a1 l.length c1) v l A0.size (takenO l r) (hl.ext hM.ex fun _ _ q => q) hn hw hM.gq _ (by simp [s0]) (by simp [s6]) (by simp [s7]) (by simp [s8]) _ fun A' fv e4 t4 o4 => hq A' v fv (hM.ex.trans e4) (hM.sv.ext e4 fun _ _ q => q) t4
  have hk9 : (k : Int) ≤ 9 := by omega
  have ws := wrap_succ k (by omega)
  simp [s9, hk9]
  refine rpass_ok A0 A (.slice a1 l.length c1) l A0.size k r (upto l k) v hl hlv hn hw hr40 (by
    have g1 := upto_len l k
    have g2 : k * l.length ≤ 10 * 30 := Nat.mul_le_mul (by omega) hn
    omega) hk _ ?_ hM _ fun env' A' v' hE2 hM2 => ?_
  · exact ⟨by simp [s0], by simp [s1], by simp [s4], by simp [s5], by simp [s6], by simp [s7], by simp [s8], by simp [s9]⟩
  rw [← upto_succ] at hE2 hM2
  obtain ⟨z0, z1, z4, z5, z6, z7, z8, z9⟩ := hE2
  simp [z9, ws]
  refine ⟨m - 1, by omega, k + 1, v', by omega, rfl, rfl, ⟨by simp [z0], by simp [z1], by simp [z4], by simp [z5], by simp [z6], by simp [z7], by simp [z8], by simp⟩, hM2⟩
end Go.Proofs.YtigknpfjhegkgaaGreat
end
