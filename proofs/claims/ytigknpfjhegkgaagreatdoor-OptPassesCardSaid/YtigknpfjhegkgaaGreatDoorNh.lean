/- Texts of this claim, one behind the other. -/
import Derived.Test.YtigknpfjhegkgaaGreatDoorNf
import Derived.Test.YtigknpfjhegkgaaGreatDoorNg
import Derived.Test.YtigknpfjhegkgaaGreatDoorKh
import Derived.KernelRfl
import Derived.Test.YtigknpfjhegkgaaGreatDoorWam
section
/- Rows of options: alike, and laid. -/
namespace Go.Proofs.YtigknpfjhegkgaaGreatDoor
open Go Go.AS
set_option maxRecDepth 100000
set_option linter.unusedSimpArgs false
set_option linter.unusedVariables false
attribute [local irreducible] Trie.set Trie.get Env.rd
attribute [local simp ↓] wV_b2s
attribute [local simp] Nat.add_assoc wD_cons'' wD_nil' wC_seq wC_ops wC_opsD_nil wC_cond wC_skip wC_ret wC_exit wC_block wO_cons' wO_nil wantedA wV_eq lop qop ev wL_some wL_none wPut envOf rd_set rd_leaf eqA thenC blockC wB_true wB_false endF unwindA resultsA resA tupleA rdCell rdCells wrCells cl fillP lay rep bi_eql bi_neq bi_lss bi_leq bi_gtr bi_geq bi_add bi_sub bs_eql bs_neq bi_shr4 unA get_set' AHeap.get_alloc oneCell beqd bned idxA
attribute [local simp] Op.len Op.one Cap.ln Jn.len Ds.ln Ad.len Cap.one Jn.one Ds.one Ad.one Op.take Op.at0 Op.head? Op.getCap Op.tCap Op.getJn Op.getDs Op.getAd Op.getIds Op.getPrio Op.getFail Op.getFast Op.getRst Op.putCap Op.putJn Op.putDs Op.putAd Op.putSub Op.putIds Op.putPrio Op.putFail Op.putFast Op.putRf Op.putRr Op.layAll Op.zeroC Op.vb
def opsC (l : List Op) : List Value := l.flatMap Op.cells
theorem opsC_len : ∀ xs : List Op, (opsC xs).length = xs.length * 38
  | [] => rfl
  | x :: xs => by
    have := opsC_len xs
    simp only [opsC, List.flatMap_cons, List.length_append, List.length_cons, Op.len] at this ⊢
    omega
theorem opsC_at : ∀ (xs : List Op) (k : Nat) (h : k < xs.length), ((opsC xs).drop (k * 38)).take 38 = xs[k].cells
  | [], k, h => by simp at h
  | y :: xs, 0, h => by
    show ((y.cells ++ opsC xs).drop 0).take 38 = y.cells
    rw [List.drop_zero, List.take_left' (Op.len y)]
  | y :: xs, k + 1, h => by
    have := opsC_at xs k (by simpa using h)
    show ((y.cells ++ opsC xs).drop ((k + 1) * 38)).take 38 = (xs[k]'(by simpa using h)).cells
    rw [Nat.succ_mul, Nat.add_comm, ← List.drop_drop, List.drop_left' (Op.len y)]
    exact this
theorem opsC_app (l : List Op) (x : Op) : opsC (l ++ [x]) = opsC l ++ x.cells := by simp [opsC]
theorem wrap_succ (n : Nat) (h : n < 9000000000000000000) : IntKind.i64.wrap ((n : Int) + 1) = ((n + 1 : Nat) : Int) := by
  rw [show ((n : Int) + 1) = ((n + 1 : Nat) : Int) by omega]; exact IntWalk.i64_in _ (by omega)
theorem same_ok (v1 v2 : Value) (l1 l2 : List Op) (A : AHeap) (Q : Value → AHeap → Prop) (h1 : ReadAt A 38 v1 l1.length (opsC l1)) (h2 : ReadAt A 38 v2 l2.length (opsC l2)) (hb : l1.length < 1000000) (hq : Q (.bool (decide (l1 = l2))) A) : wF T (.func (.func 21) #[] #[]) [v1, v2] A Q := by
  obtain ⟨a1, c1, rfl⟩ := h1.val
  obtain ⟨a2, c2, rfl⟩ := h2.val
  refine wF_func (first := []) (captured := []) t21 ⟨rfl, by decide⟩ ?_
  dsimp only [c21]
  by_cases hn : l1.length = l2.length
  · have hn' : ((l1.length : Int) = (l2.length : Int)) := by omega
    simp [hn']
    refine wC_loop_inv (fun m st => ∃ i, m + i = l1.length ∧ l1.take i = l2.take i ∧ st.n = 26 ∧ st.dfs = [] ∧ st.A = A ∧ st.env.rd 0 = .slice a1 l1.length c1 ∧ st.env.rd 1 = .slice a2 l2.length c2 ∧ st.env.rd 5 = .int .i64 (i : Nat)) ?_ l1.length _ ⟨0, rfl, rfl, rfl, rfl, rfl, by simp, by simp, by simp⟩
    rintro m ⟨env, n, dfs, A'⟩ ⟨i, k1, k2, k3, k4, k5, k6, k7, k8⟩
    simp only at k3 k4 k5 k6 k7 k8
    subst k3; subst k4; subst k5
    by_cases hi : i < l1.length
    · have hi2 : i < l2.length := by omega
      obtain ⟨d1, p1, cc1, bs1, ro1, opn1, q1, q2, q3, q4⟩ := h1.elem2 hi
      obtain ⟨d2, p2, cc2, bs2, ro2, opn2, r1, r2, r3, r4⟩ := h2.elem2 hi2
      cases q1; cases r1
      rw [Nat.add_assoc] at q3 r3
      rw [opsC_at l1 i hi] at q4
      rw [opsC_at l2 i hi2] at r4
      have e1 : l1.take (i + 1) = l1.take i ++ [l1[i]] := by rw [List.take_add_one, List.getElem?_eq_getElem hi]; rfl
      have e2 : l2.take (i + 1) = l2.take i ++ [l2[i]] := by rw [List.take_add_one, List.getElem?_eq_getElem hi2]; rfl
      have hne : l1[i] ≠ l2[i] → l1 ≠ l2 := fun q z => q (by subst z; rfl)
      generalize l1[i] = x at q4 e1 hne
      generalize l2[i] = y at r4 e2 hne
      have ws := wrap_succ i (by omega)
      by_cases he : x = y
      · subst he
        simp [k6, k7, k8, hi, hi2, q2, q3, q4, r2, r3, r4, eqOp]
        refine ⟨m - 1, by omega, i + 1, by omega, ?_, by simpa using ws⟩
        rw [e1, e2, k2]
      · have hne := hne he
        have hf : decide (l1 = l2) = false := by simp [hne]
        rw [hf] at hq
        simp [k6, k7, k8, hi, hi2, q2, q3, q4, r2, r3, r4, eqOp, he]
        exact hq
    · have hl : l1 = l2 := by
        have := k2
        rwa [List.take_of_length_le (by omega), List.take_of_length_le (by omega)] at this
      have hf : decide (l1 = l2) = true := by simp [hl]
      rw [hf] at hq
      simp [k6, k7, k8, hi]
      exact hq
  · have hne : l1 ≠ l2 := fun q => hn (by rw [q])
    have hn' : ¬ ((l1.length : Int) = (l2.length : Int)) := by omega
    have hf : decide (l1 = l2) = false := by simp [hne]
    rw [hf] at hq
    simp [hn']
    exact hq
/-- One option at a slice's end. -/
theorem appO (A A1 : AHeap) (v x : Value) (l : List Op) (t : Op) (h : SliceAt A 38 v l.length (opsC l)) (e : Ext NoB A A1) (hx : lenA x = some 1) (hf : firstA A1 38 1 x = some t.cells) (hs : isStr x = false) (hn : l.length < 1000000) :
    ∃ a' c' A', appA A1 38 288 v x = some (.slice a' (l.length + 1) c', A') ∧ SliceAt A' 38 (.slice a' (l.length + 1) c') (l ++ [t]).length (opsC (l ++ [t])) ∧ Ext (Own v) A A' ∧ ∀ j, Own (.slice a' (l.length + 1) c') j → Own v j ∨ A.size ≤ j := by
  obtain ⟨v', A', k1, k2, k3, k4⟩ := (h.ext e fun _ _ q => q).append (x := x) (m := 1) (bytes := 288) (new := t.cells) (by decide) hx hf (Op.one t) (by rw [Op.len]) (by omega) (by decide) (by intro q; rw [hs] at q; cases q)
  obtain ⟨a', c', hv⟩ := k2.read.val
  subst hv
  refine ⟨a', c', A', k1, by rw [opsC_app]; simpa using k2, (e.mono fun _ _ q => q.elim).trans k3, fun j hj => ?_⟩
  rcases k4 j hj with q | q
  · exact .inl q
  · exact .inr (Nat.le_trans e.size q)
/-- What a row of options is laid as. -/
def itO (x : Op) : Ar.It := ⟨30, ⟨⟨x.enc.getD []⟩⟩⟩
def layO (l : List Op) : ByteArray × Int := if l.all (fun x => x.enc.isSome) then Ar.layR (l.map itO) else (⟨⟨[]⟩⟩, 2)
def LayI (A0 : AHeap) (lv : Value) (l : List Op) (m : Nat) (st : St) : Prop := ∃ i v, m + i = l.length ∧ st.n = 32 ∧ st.dfs = [] ∧ st.env.rd 9 = lv ∧ st.env.rd 10 = .int .i64 (l.length : Nat) ∧ st.env.rd 11 = .int .i64 (i : Nat) ∧ st.env.rd 4 = v ∧
  Ext NoB A0 st.A ∧ SliceAt st.A 2 v ((l.take i).map itO).length (Ar.icells ((l.take i).map itO)) ∧ (∀ j, Own v j → A0.size ≤ j) ∧ (l.take i).all (fun x => x.enc.isSome) = true
theorem laying_ok (l : List Op) (lv : Value) (A0 : AHeap) (Q : Value → AHeap → Prop) (h : ReadAt A0 38 lv l.length (opsC l)) (hw : ∀ x ∈ l, x.W) (hn : l.length ≤ 1000)
    (hq : ∀ A', Ext NoB A0 A' → Q (.tuple ⟨[.string (layO l).1, .int .i64 (layO l).2]⟩) A') : wF T (.func (.func 16) #[] #[]) [lv] A0 Q := by
  obtain ⟨a1, c1, rfl⟩ := h.val
  refine wF_func (first := []) (captured := []) t16 ⟨rfl, by decide⟩ ?_
  dsimp only [c16]; simp
  refine wC_loop_inv (LayI A0 (.slice a1 l.length c1) l) ?_ l.length _ ⟨0, .slice none 0 0, by omega, rfl, rfl, by simp, by simp, by simp, by simp, Ext.refl, .nil, (fun j ⟨_, _, _, q⟩ => by cases q), by simp⟩
  rintro m ⟨env, nn, dfs, A⟩ ⟨i, v, k0, k1, k2, k9, k10, k11, k4, e1, s1, o1, hok⟩
  simp only at k1 k2 k9 k10 k11 k4 e1 s1
  subst k1; subst k2
  by_cases hi : i < l.length
  · obtain ⟨d1, p1, cc1, bs1, ro1, opn1, q1, q2, q3, q4⟩ := (h.ext e1 fun _ _ q => q).elem2 hi
    rw [opsC_at l i hi] at q4
    cases q1
    rw [Nat.add_assoc] at q3
    have ht : l.take (i + 1) = l.take i ++ [l[i]] := by rw [List.take_add_one, List.getElem?_eq_getElem hi]; rfl
    have hxw := hw l[i] (List.getElem_mem hi)
    have hmem := List.getElem_mem hi
    generalize l[i] = x at q4 ht hxw hmem
    have hii : (i : Int) < (l.length : Int) := by omega
    simp [k9, k10, k11, hi, hii, q2, q3, q4]
    generalize hB : AHeap.set _ _ _ = B
    have b6 : B.get A.size = some (.cells x.cells false 0) := by subst hB; simp
    have eB : Ext NoB A B := by subst hB; (repeat first | exact Ext.refl | assumption | refine Ext.allocN ?_ | refine Ext.setN ?_ (by first | omega | (simp; done) | (simp; omega)))
    refine encode_ok B x hxw _ fun C eC => ?_
    have eC' := eB.trans eC
    cases hv : x.enc with
    | none =>
      simp [resI, itemV]
      have hbad : l.all (fun x => x.enc.isSome) = false := by
        rw [List.all_eq_false]
        exact ⟨x, hmem, by rw [hv]; simp⟩
      have hR : layO l = (⟨⟨[]⟩⟩, 2) := by unfold layO; rw [hbad]; rfl
      rw [hR] at hq
      refine hq _ ?_
      have := (e1.trans eC'); have := this.size; (repeat first | exact Ext.refl | assumption | refine Ext.allocN ?_ | refine Ext.setN ?_ (by first | omega | (simp; done) | (simp; omega)))
    | some t =>
      simp [resI, itemV, k4]
      generalize hD : AHeap.set _ _ _ = D
      have eD : Ext NoB A D := by subst hD; have := eC'.size; (repeat first | exact Ext.refl | assumption | refine Ext.allocN ?_ | refine Ext.setN ?_ (by first | omega | (simp; done) | (simp; omega)))
      have zD : D.size = C.size + 1 := by subst hD; rfl
      have ti : itO x = ⟨30, ⟨⟨t⟩⟩⟩ := by unfold itO; rw [hv]; rfl
      have hlen : ((l.take i).map itO).length < 1000000 := by rw [List.length_map, List.length_take]; omega
      obtain ⟨its, hits⟩ : ∃ its, its = (l.take i).map itO := ⟨_, rfl⟩
      rw [← hits] at s1 hlen
      obtain ⟨a2, c2, A2, s2, t2, u2, v2⟩ := Ar.appI D (D.alloc (.cells [.int .i64 30, .string ⟨⟨t⟩⟩] false 0)) v (.slice (some ⟨D.size, 0, none⟩) 1 1) _ (itO x) (s1.ext eD fun _ _ q => q) Ext.alloc rfl (by rw [ti]; simp [firstA, rdCells, ENDCAP]) hlen
      rw [zD] at s2
      simp [s2]
      have ws := wrap_succ i (by omega)
      simp [k11, ws]
      refine ⟨m - 1, by omega, i + 1, _, by omega, rfl, rfl, by simp [k9], by simp [k10], by simp, by simp; rfl, ?_, ?_, ?_, ?_⟩
      · exact (e1.trans eD).trans2 u2 fun j hj q => by have := o1 j q; omega
      · have em : (l.take (i + 1)).map itO = (l.take i).map itO ++ [itO x] := by rw [ht]; simp
        rw [em, ← hits]; exact t2
      · intro j hj
        have := e1.size
        have := eD.size
        rcases v2 j hj with q | q
        · exact o1 j q
        · omega
      · rw [ht, List.all_append, hok]; simp [hv]
  · have hm : l.take i = l := List.take_of_length_le (by omega)
    rw [hm] at s1 hok
    have hii : ¬ (i : Int) < (l.length : Int) := by omega
    simp [k9, k10, k11, hi, hii, k4]
    refine Ar.lay_ok _ v A _ s1.read (by rw [List.length_map]; exact hn) fun A' e' => ?_
    have hR : layO l = Ar.layR (l.map itO) := by unfold layO; rw [hok]; rfl
    rw [hR] at hq
    simp
    exact hq _ (e1.trans e')
end Go.Proofs.YtigknpfjhegkgaaGreatDoor
end

section
/- The options of an area. -/
namespace Go.Proofs.YtigknpfjhegkgaaGreatDoor
open Go Go.AS
set_option maxRecDepth 100000
set_option linter.unusedSimpArgs false
set_option linter.unusedVariables false
attribute [local irreducible] Trie.set Trie.get Env.rd
attribute [local simp ↓] wV_b2s
attribute [local simp] Nat.add_assoc wD_cons'' wD_nil' wC_seq wC_ops wC_opsD_nil wC_cond wC_skip wC_ret wC_exit wC_block wO_cons' wO_nil wantedA wV_eq lop qop ev wL_some wL_none wPut envOf rd_set rd_leaf eqA thenC blockC wB_true wB_false endF unwindA resultsA resA tupleA rdCell rdCells wrCells cl fillP lay rep bi_eql bi_neq bi_lss bi_leq bi_gtr bi_geq bi_add bi_sub bs_eql bs_neq bi_shr4 unA get_set' AHeap.get_alloc oneCell beqd bned idxA
attribute [local simp] Op.len Op.one Cap.ln Jn.len Ds.ln Ad.len Cap.one Jn.one Ds.one Ad.one Op.take Op.at0 Op.head? Op.getCap Op.tCap Op.getJn Op.getDs Op.getAd Op.getIds Op.getPrio Op.getFail Op.getFast Op.getRst Op.putCap Op.putJn Op.putDs Op.putAd Op.putSub Op.putIds Op.putPrio Op.putFail Op.putFast Op.putRf Op.putRr Op.layAll Op.zeroC Op.vb
/-- What items are read as: options, and what is wrong. -/
def dAll : List Ar.It → List Op × Int
  | [] => ([], 0)
  | x :: r => match Op.dec x.kind x.body.data.toList with
    | .ok o => (o :: (dAll r).1, (dAll r).2)
    | .error e => if e = 7 then dAll r else ([], e)
def allO (s : List UInt8) : List Op × Int := if (Ar.walkR s).2 ≠ 0 then ([], (Ar.walkR s).2) else if (dAll (Ar.walkR s).1).2 = 0 then ((dAll (Ar.walkR s).1).1, 0) else ([], (dAll (Ar.walkR s).1).2)
def AllI (A0 : AHeap) (sv : Value) (its : List Ar.It) (q5 : Nat) (m : Nat) (st : St) : Prop := ∃ i v l, m + i = its.length ∧ st.n = 49 ∧ st.dfs = [] ∧ st.env.rd 18 = sv ∧ st.env.rd 19 = .int .i64 (its.length : Nat) ∧ st.env.rd 20 = .int .i64 (i : Nat) ∧ st.env.rd 2 = v ∧ st.env.rd 5 = .pointer (some ⟨q5, 0, none⟩) ∧
  Ext NoB A0 st.A ∧ SliceAt st.A 38 v l.length (opsC l) ∧ (∀ j, Own v j → A0.size + 1 ≤ j) ∧ st.A.get q5 = some (.cells [.int .i64 0] false 0) ∧ q5 = A0.size ∧ dAll its = (l ++ (dAll (its.drop i)).1, (dAll (its.drop i)).2) ∧ l.length ≤ i
theorem all_read (A : AHeap) (s : List UInt8) (hs : s.length < 1000000) (hE : EH A) (Q : Value → AHeap → Prop)
    (hq : ∀ A' v, Ext NoB A A' → SliceAt A' 38 v (allO s).1.length (opsC (allO s).1) → (∀ j, Own v j → A.size ≤ j) → Q (.tuple ⟨[v, .int .i64 (allO s).2]⟩) A') : wF T (.func (.func 19) #[] #[]) [.string ⟨⟨s⟩⟩] A Q := by
  refine wF_func (first := []) (captured := []) t19 ⟨rfl, by decide⟩ ?_
  dsimp only [c19]
  simp
  have no : ∀ k j, Own (.slice none 0 0) j → k ≤ j := fun k j ⟨_, _, _, q⟩ => by cases q
  refine Ar.walk_ok ⟨⟨s⟩⟩ A _ hs fun B sv y1 y2 y3 => ?_
  have wl := Ar.walkR_len s
  have hkeep : ∀ x ∈ (Ar.walkR s).1, x.body.data.toList.length < 1000000 := by
    intro x hx
    have := Ar.walkR_body s x hx
    omega
  unfold allO at hq
  change SliceAt B 2 sv (Ar.walkR s).1.length (Ar.icells (Ar.walkR s).1) at y1
  generalize hW : Ar.walkR s = W at y1 hq wl hkeep ⊢
  obtain ⟨its, e⟩ := W
  simp only at y1 hq wl hkeep
  obtain ⟨a1, c1, hsv⟩ := y1.read.val
  subst hsv
  by_cases he : e = 0
  case neg =>
    rw [if_pos he] at hq
    simp [he]
    exact hq _ _ y2 .nil (no _)
  subst he
  rw [if_neg (by decide)] at hq
  simp
  generalize hC : AHeap.alloc _ _ = C
  have eC : Ext NoB B C := by subst hC; (repeat first | exact Ext.refl | assumption | refine Ext.allocN ?_ | refine Ext.setN ?_ (by first | omega | (simp; done) | (simp; omega)))
  have c5 : C.get B.size = some (.cells [.int .i64 0] false 0) := by subst hC; simp
  refine wC_loop_inv (AllI B (.slice a1 its.length c1) its B.size) ?_ its.length _ ⟨0, .slice none 0 0, [], by omega, rfl, rfl, by simp, by simp, by simp, by simp, by simp, eC, .nil, no _, c5, rfl, by simp, by simp⟩
  rintro m ⟨env, nn, dfs, D⟩ ⟨i, v, l, k0, k1, k2, k18, k19, k20, k2', k5, e1, s1, o1, g5, _, hd, hll⟩
  simp only at k1 k2 k18 k19 k20 k2' k5 e1 s1 g5
  subst k1; subst k2
  have zD := AHeap.get_lt g5
  have eAD : Ext NoB A D := y2.trans e1
  by_cases hi : i < its.length
  · obtain ⟨d1, p1, cc1, bs1, ro1, opn1, q1, q2, q3, q4⟩ := (y1.read.ext e1 fun _ _ q => q).elem2 hi
    rw [Ar.icells_at its i hi] at q4
    cases q1
    rw [Nat.add_assoc] at q3
    have hdr : its.drop i = its[i] :: its.drop (i + 1) := List.drop_eq_getElem_cons hi
    have hxl := hkeep its[i] (List.getElem_mem hi)
    rw [hdr] at hd
    generalize its[i] = x at q4 hd hxl
    obtain ⟨k, ⟨⟨b⟩⟩⟩ := x
    simp only at q4 hxl
    have hii : (i : Int) < (its.length : Int) := by omega
    simp [k18, k19, k20, hi, hii, q2, q3, q4]
    generalize hF : AHeap.set _ _ _ = F
    have f5 : F.get B.size = some (.cells [.int .i64 0] false 0) := by subst hF; simp [g5, show B.size ≠ D.size by omega]
    have f7 : F.get D.size = some (.cells [.int .i64 k, .string ⟨⟨b⟩⟩] false 0) := by subst hF; simp
    have eF : Ext NoB D F := by subst hF; (repeat first | exact Ext.refl | assumption | refine Ext.allocN ?_ | refine Ext.setN ?_ (by first | omega | (simp; done) | (simp; omega)))
    refine read_ok F k b hxl _ fun G eG => ?_
    have g5' := eG.get f5 id
    have eDG := eF.trans eG
    have ws := wrap_succ i (by omega)
    cases hx : Op.dec k b with
    | ok y =>
      have hd2 : dAll its = ((l ++ [y]) ++ (dAll (its.drop (i + 1))).1, (dAll (its.drop (i + 1))).2) := by
        rw [hd]; simp [dAll, hx]
      simp [resR, k2']
      generalize hH : AHeap.set _ _ _ = H
      have zH : H.size = G.size + 1 := by subst hH; rfl
      have h5 : H.get B.size = some (.cells [.int .i64 0] false 0) := by subst hH; simp [g5', show B.size ≠ G.size by have := eDG.size; omega]
      have eH : Ext NoB D H := by subst hH; have := eDG.size; (repeat first | exact Ext.refl | assumption | refine Ext.allocN ?_ | refine Ext.setN ?_ (by first | omega | (simp; done) | (simp; omega)))
      have hlen : l.length < 1000000 := by omega
      obtain ⟨a2, c2, A2, s2, t2, u2, v2⟩ := appO H (H.alloc (.cells y.cells false 0)) v (.slice (some ⟨H.size, 0, none⟩) 1 1) l y (s1.ext eH fun _ _ q => q) Ext.alloc rfl (by simp [firstA, rdCells, ENDCAP]) rfl hlen
      rw [zH] at s2
      simp [s2]
      simp [k20, ws]
      refine ⟨m - 1, by omega, i + 1, _, l ++ [y], by omega, rfl, rfl, by simp [k18], by simp [k19], by simp, by simp; rfl, by simp [k5], ?_, ?_, ?_, ?_, rfl, hd2, by simp; omega⟩
      · exact (e1.trans eH).trans2 u2 fun j hj q => by have := o1 j q; omega
      · simpa using t2
      · intro j hj
        have := e1.size
        have := eH.size
        rcases v2 j hj with q | q
        · exact o1 j q
        · omega
      · exact u2.get h5 fun q => by have := o1 _ q; omega
    | error er =>
      have her := op_err hx
      simp [resR]
      generalize hH : AHeap.set _ _ _ = H
      have h5 : H.get B.size = some (.cells [.int .i64 0] false 0) := by subst hH; simp [g5', show B.size ≠ G.size by have := eDG.size; omega]
      have eH : Ext NoB D H := by subst hH; have := eDG.size; (repeat first | exact Ext.refl | assumption | refine Ext.allocN ?_ | refine Ext.setN ?_ (by first | omega | (simp; done) | (simp; omega)))
      have z5 := AHeap.get_lt h5
      have eAH := eAD.trans eH
      simp [k5]
      refine as_ok H er _ h5 (hE.extN eAH) _ ?_
      by_cases h7 : er = 7
      · have hd2 : dAll its = (l ++ (dAll (its.drop (i + 1))).1, (dAll (its.drop (i + 1))).2) := by
          rw [hd]; simp [dAll, hx, h7]
        simp [h7, z5, k5, k20, ws]
        refine ⟨m - 1, by omega, i + 1, _, l, by omega, rfl, rfl, by simp [k18], by simp [k19], by simp, by simp [k2'], by simp [k5], ?_, ?_, o1, ?_, rfl, hd2, by omega⟩
        · have := e1.trans eH
          have := e1.size
          (repeat first | exact Ext.refl | assumption | refine Ext.allocN ?_ | refine Ext.setN ?_ (by first | omega | (simp; done) | (simp; omega)))
        · refine (s1.ext eH fun _ _ q => q).ext (S := fun j => j = B.size) ((Ext.set (S := fun j => j = B.size) rfl).trans (Ext.set rfl)) fun j hj q => ?_
          have := o1 j hj
          omega
        · simp [z5]
      · have hd2 : dAll its = (l, er) := by rw [hd]; simp [dAll, hx, h7]
        rw [hd2] at hq
        simp only at hq
        rw [if_neg her] at hq
        simp [h7, z5, k5, her]
        refine hq _ _ ?_ .nil (no _)
        have := y2.size
        (repeat first | exact Ext.refl | assumption | refine Ext.allocN ?_ | refine Ext.setN ?_ (by first | omega | (simp; done) | (simp; omega)))
  · have hm : its.drop i = [] := List.drop_eq_nil_of_le (by omega)
    rw [hm] at hd
    simp only [dAll, List.append_nil] at hd
    rw [hd] at hq
    simp only [if_true] at hq
    have hii : ¬ (i : Int) < (its.length : Int) := by omega
    simp [k18, k19, k20, hi, hii, k5, g5, k2']
    refine hq D v eAD s1 fun j hj => ?_
    have := o1 j hj
    have := y2.size
    omega
end Go.Proofs.YtigknpfjhegkgaaGreatDoor
end

section
/- Items that are passed over; plain laws. -/
namespace Go.Proofs.YtigknpfjhegkgaaGreatDoor
open Go Go.AS
set_option maxRecDepth 100000
set_option linter.unusedSimpArgs false
set_option linter.unusedVariables false

open Ar (It raw pad layR walkR)
def oddL (kind : Nat) (f : List UInt8) : List It := [⟨if 2 + kind % 254 = 30 then 31 else ((2 + kind % 254 : Nat) : Int), ⟨⟨f⟩⟩⟩, ⟨30, ⟨⟨UInt8.ofNat (144 + kind % 7 * 16) :: f⟩⟩⟩]
theorem odd_ok (kind : Nat) (f : List UInt8) (hf : f.length ≤ 4) : ∀ x ∈ oddL kind f, x.ok := by
  intro x hx
  simp only [oddL, List.mem_cons, List.not_mem_nil, or_false] at hx
  rcases hx with rfl | rfl
  · refine ⟨?_, ?_, ?_⟩
    · show (2 : Int) ≤ (if 2 + kind % 254 = 30 then 31 else ((2 + kind % 254 : Nat) : Int))
      split <;> omega
    · show (if 2 + kind % 254 = 30 then 31 else ((2 + kind % 254 : Nat) : Int)) ≤ 255
      split <;> omega
    · show f.length ≤ 253
      omega
  · refine ⟨by show (2 : Int) ≤ 30; decide, by show (30 : Int) ≤ 255; decide, ?_⟩
    show (UInt8.ofNat (144 + kind % 7 * 16) :: f).length ≤ 253
    simp; omega
theorem raw_len_app (a b : List It) : (raw (a ++ b)).length = (raw a).length + (raw b).length := by simp [raw]
theorem odd_len (kind : Nat) (f : List UInt8) : (raw (oddL kind f)).length = 5 + 2 * f.length := by
  simp [raw, oddL, It.raw]; omega
theorem pad_le (l : List UInt8) : l.length ≤ (pad l).length := by rw [Ar.pad_len]; omega
theorem pad_mono (a b : List UInt8) (h : a.length ≤ b.length) : (pad a).length ≤ (pad b).length := by rw [Ar.pad_len, Ar.pad_len]; omega
theorem layR_all (its : List It) (h : ∀ x ∈ its, x.ok) (hn : (raw its).length ≤ 40) : layR its = (⟨⟨pad (raw its)⟩⟩, 0) := by
  unfold layR
  rw [if_pos, if_pos hn]
  rw [List.all_eq_true]
  intro x hx
  exact decide_eq_true (h x hx)
def May (x : Op) : Prop := x.W ∧ ∃ l, x.enc = some l ∧ 1 ≤ l.length ∧ l.length ≤ 38
theorem May.ok {x : Op} (h : May x) : (itO x).ok := by
  obtain ⟨_, l, h1, h2, h3⟩ := h
  refine ⟨by show (2 : Int) ≤ 30; decide, by show (30 : Int) ≤ 255; decide, ?_⟩
  show (x.enc.getD []).length ≤ 253
  rw [h1]; show l.length ≤ 253; omega
theorem dAll_row : ∀ (row : List Op) (r : List It), (∀ x ∈ row, May x) → dAll (row.map itO ++ r) = (row ++ (dAll r).1, (dAll r).2)
  | [], r, _ => rfl
  | x :: row, r, h => by
    obtain ⟨hw, l, h1, h2, h3⟩ := h x (List.mem_cons_self ..)
    have hr := dAll_row row r fun y hy => h y (List.mem_cons_of_mem _ hy)
    have he : Op.dec (itO x).kind (itO x).body.data.toList = .ok x := by
      show Op.dec 30 (x.enc.getD []) = _
      rw [h1]; exact Op.rt hw h1
    show dAll (itO x :: (row.map itO ++ r)) = _
    simp only [dAll, he, hr]
    rfl
theorem dAll_odd (kind : Nat) (f : List UInt8) (r : List It) : dAll (oddL kind f ++ r) = dAll r := by
  have h1 : Op.dec (if 2 + kind % 254 = 30 then 31 else ((2 + kind % 254 : Nat) : Int)) f = .error 7 := by
    unfold Op.dec
    rw [if_pos]
    split <;> omega
  have hb : (UInt8.ofNat (144 + kind % 7 * 16)).toNat = 144 + kind % 7 * 16 := ofNat_toNat (by omega)
  have h2 : Op.dec 30 (UInt8.ofNat (144 + kind % 7 * 16) :: f) = .error 7 := by
    rw [Op.dec_at, hb]
    rw [if_neg (by omega), if_neg (by omega), if_neg (by omega), if_neg (by omega), if_neg (by omega), if_neg (by omega), if_neg (by omega), if_neg (by omega), if_neg (by omega)]
  show dAll (_ :: _ :: r) = _
  simp only [dAll, h1, h2, if_true]
def mixL (kind : Nat) (f : List UInt8) (row : List Op) (k : Nat) : List It := ((row.map itO).take k ++ oddL kind f) ++ (row.map itO).drop k
theorem mix_raw (kind : Nat) (f : List UInt8) (row : List Op) (k : Nat) : (raw (mixL kind f row k)).length = (raw (oddL kind f)).length + (raw (row.map itO)).length := by
  unfold mixL
  have : (raw (row.map itO)).length = (raw ((row.map itO).take k)).length + (raw ((row.map itO).drop k)).length := by
    rw [← raw_len_app, List.take_append_drop]
  rw [raw_len_app, raw_len_app, this]; omega
theorem mix_ok (kind : Nat) (f : List UInt8) (hf : f.length ≤ 4) (row : List Op) (h : ∀ x ∈ row, May x) (k : Nat) : ∀ x ∈ mixL kind f row k, x.ok := by
  have hi : ∀ x ∈ row.map itO, x.ok := by
    intro x hx
    obtain ⟨y, hy, rfl⟩ := List.mem_map.1 hx
    exact (h y hy).ok
  intro x hx
  unfold mixL at hx
  rcases List.mem_append.1 hx with hx | hx
  · rcases List.mem_append.1 hx with hx | hx
    · exact hi x (List.mem_of_mem_take hx)
    · exact odd_ok kind f hf x hx
  · exact hi x (List.mem_of_mem_drop hx)
theorem mix_all (kind : Nat) (f : List UInt8) (row : List Op) (h : ∀ x ∈ row, May x) (k : Nat) : dAll (mixL kind f row k) = (row, 0) := by
  unfold mixL
  rw [← List.map_take, ← List.map_drop, List.append_assoc, dAll_row _ _ (fun x hx => h x (List.mem_of_mem_take hx)), dAll_odd]
  have := dAll_row (row.drop k) [] (fun x hx => h x (List.mem_of_mem_drop hx))
  rw [List.append_nil] at this
  rw [this]
  simp [dAll]
/-- The law, of numbers and lists alone. -/
theorem passes (kind : Nat) (f : List UInt8) (hf : f.length ≤ 4) (row : List Op) (h : ∀ x ∈ row, May x) (k : Nat) (hn : (raw (oddL kind f)).length + (raw (row.map itO)).length ≤ 40) :
    layR (mixL kind f row k) = (⟨⟨pad (raw (mixL kind f row k))⟩⟩, 0) ∧ allO (pad (raw (mixL kind f row k))) = (row, 0) ∧ layO row = (⟨⟨pad (raw (row.map itO))⟩⟩, 0) ∧ allO (pad (raw (row.map itO))) = (row, 0) ∧ (pad (raw (row.map itO))).length ≤ (pad (raw (mixL kind f row k))).length ∧ (pad (raw (mixL kind f row k))).length ≤ 40 := by
  have hm := mix_raw kind f row k
  have ho := mix_ok kind f hf row h k
  have hi : ∀ x ∈ row.map itO, x.ok := by
    intro x hx
    obtain ⟨y, hy, rfl⟩ := List.mem_map.1 hx
    exact (h y hy).ok
  have hall : row.all (fun x => x.enc.isSome) = true := by
    rw [List.all_eq_true]
    intro x hx
    obtain ⟨_, l, h1, _⟩ := h x hx
    rw [h1]; rfl
  refine ⟨layR_all _ ho (by omega), ?_, ?_, ?_, pad_mono _ _ (by omega), ?_⟩
  · unfold allO
    rw [Ar.walkR_pad _ ho (by omega)]
    simp only
    rw [if_neg (by decide), mix_all kind f row h k, if_pos rfl]
  · unfold layO
    rw [hall, if_pos rfl]
    exact layR_all _ hi (by omega)
  · unfold allO
    rw [Ar.walkR_pad _ hi (by omega)]
    have := dAll_row row [] h
    rw [List.append_nil] at this
    simp only
    rw [if_neg (by decide), this]
    simp [dAll]
  · rw [Ar.pad_len]; omega
end Go.Proofs.YtigknpfjhegkgaaGreatDoor
end

section
/- Items that are passed over: the walk's end. -/
namespace Go.Proofs.YtigknpfjhegkgaaGreatDoor
open Go Go.AS
set_option maxRecDepth 100000
set_option linter.unusedSimpArgs false
set_option linter.unusedVariables false
attribute [local irreducible] Trie.set Trie.get Env.rd
attribute [local simp ↓] wV_b2s
attribute [local simp] Nat.add_assoc wD_cons'' wD_nil' wC_seq wC_ops wC_opsD_nil wC_cond wC_skip wC_ret wC_exit wC_block wO_cons' wO_nil wantedA wV_eq lop qop ev wL_some wL_none wPut envOf rd_set rd_leaf eqA thenC blockC wB_true wB_false endF unwindA resultsA resA tupleA rdCell rdCells wrCells cl fillP lay rep bi_eql bi_neq bi_lss bi_leq bi_gtr bi_geq bi_add bi_sub bs_eql bs_neq bi_shr4 unA get_set' AHeap.get_alloc oneCell beqd bned idxA
open Ar (It raw pad layR walkR icells)
theorem sliceVA_same {A A' : AHeap} {sz : Nat} {v : Value} {lo hi mx : Option Value} (h : ∀ j, Own v j → A'.get j = A.get j) : sliceVA A' sz v lo hi mx = sliceVA A sz v lo hi mx := by
  unfold sliceVA
  split
  · rfl
  · rename_i b o len cap
    rw [h b ⟨_, _, _, rfl⟩]
  · rfl
theorem slice_to {A : AHeap} {sz n l : Nat} {v : Value} {cs : List Value} {k1 : IntKind} (h : SliceAt A sz v n cs) (hsz : sz ≠ 0) (hl : l ≤ n) :
    ∃ v', sliceVA A sz v none (some (.int k1 (l : Int))) none = some v' ∧ ReadAt A sz v' l (cs.take (l * sz)) ∧ ∀ j, Own v' j → Own v j := by
  have hb : ∀ cap, n ≤ cap → bndsA n cap none (some (.int k1 (l : Int))) none = some (0, l, cap) := fun cap hc => by
    delta bndsA; simp [bnd_nat k1 l cap (by omega)]
  have hm : l * sz ≤ n * sz := Nat.mul_le_mul_right _ hl
  rcases h with ⟨h1, h2, h3⟩ | ⟨d, o, c, bs, opn, h1, h2, h3, h4, h5⟩
  · subst h1; subst h2; subst h3
    have : l = 0 := by omega
    subst this
    exact ⟨_, by simp only [sliceVA, hb 0 (Nat.le_refl _)], .inl ⟨rfl, rfl, by simp⟩, fun j hj => hj⟩
  · subst h1
    rcases h5 with ⟨q1, q2, q3⟩ | ⟨q1, q2⟩ | ⟨q1, q2, q3, q4⟩
    · subst q1; subst q2
      refine ⟨.slice (some ⟨d, o, none⟩) l OPEN, ?_, .inr (.inl ⟨d, o, OPEN, bs, false, opn, rfl, h2, by omega, ?_, fun q => absurd q (by decide)⟩), ?_⟩
      · simp only [sliceVA, if_true, h2, hb n (Nat.le_refl _)]
        rw [if_neg (by simp [hsz])]; simp
      · rw [h4, List.take_take, Nat.min_eq_left hm]
      · rintro j ⟨o', n', c', q⟩; cases q; exact ⟨_, _, _, rfl⟩
    · subst q1
      have c1 : c ≠ OPEN := by omega
      have c2 : c ≠ ENDCAP := fun q => by rw [q] at q2; exact absurd q2 (by decide)
      refine ⟨.slice (some ⟨d, o, none⟩) l c, ?_, .inr (.inl ⟨d, o, c, bs, false, opn, rfl, h2, by omega, ?_, fun q => absurd q c2⟩), ?_⟩
      · simp only [sliceVA, if_neg c1, if_neg c2, if_neg (show ¬ OPEN ≤ c by omega), hb c (Nat.le_refl _), Nat.sub_zero]; simp
      · rw [h4, List.take_take, Nat.min_eq_left hm]
      · rintro j ⟨o', n', c', q⟩; cases q; exact ⟨_, _, _, rfl⟩
    · subst q1; subst q2
      have : l = 0 := by omega
      subst this
      refine ⟨.slice (some ⟨d, o, none⟩) 0 ENDCAP, ?_, .inr (.inr ⟨d, o, ENDCAP, rfl, rfl, by simp⟩), ?_⟩
      · have e1 : ENDCAP ≠ OPEN := by decide
        have hb0 := hb 0 (Nat.le_refl _)
        simp only [sliceVA, if_neg e1, if_true, hb0]
      · rintro j ⟨o', n', c', q⟩; cases q; exact ⟨_, _, _, rfl⟩
theorem icells_cat (a b : List It) : icells (a ++ b) = icells a ++ icells b := by simp [icells]
theorem icells_drop (l : List It) (k : Nat) (hk : k ≤ l.length) : (icells l).drop (k * 2) = icells (l.drop k) := by
  have h : icells l = icells (l.take k) ++ icells (l.drop k) := by
    rw [← icells_cat, List.take_append_drop]
  rw [h, List.drop_left']
  rw [Ar.icells_len, List.length_take, Nat.min_eq_left hk]
/-- Items at a slice's end. -/
theorem appIs (A A1 : AHeap) (v x : Value) (l t : List It) (h : SliceAt A 2 v l.length (icells l)) (e : Ext NoB A A1) (hx : ReadAt A1 2 x t.length (icells t)) (hn : l.length + t.length < 1000000) :
    ∃ a' c' A', appA A1 2 24 v x = some (.slice a' (l ++ t).length c', A') ∧ SliceAt A' 2 (.slice a' (l ++ t).length c') (l ++ t).length (icells (l ++ t)) ∧ Ext (Own v) A A' ∧ ∀ j, Own (.slice a' (l ++ t).length c') j → Own v j ∨ A.size ≤ j := by
  have hf := hx.firstA (Nat.le_refl _)
  rw [List.take_of_length_le (by rw [Ar.icells_len]; omega)] at hf
  obtain ⟨ax, cx, hxv⟩ := hx.val
  obtain ⟨v', A', k1, k2, k3, k4⟩ := (h.ext e fun _ _ q => q).append (x := x) (m := t.length) (bytes := 24) (new := icells t) (by decide) hx.lenA hf (Ar.icells_one t) (Ar.icells_len t) (by omega) (by decide) (by
    intro hs; rw [hxv] at hs; cases hs)
  rw [← List.length_append] at k2
  obtain ⟨a', c', hv⟩ := k2.read.val
  subst hv
  refine ⟨a', c', A', k1, by rw [icells_cat]; exact k2, (e.mono fun _ _ q => q.elim).trans k3, fun j hj => ?_⟩
  rcases k4 j hj with q | q
  · exact .inl q
  · exact .inr (Nat.le_trans e.size q)
/-- The very end: the texts laid, and read. -/
theorem pass_end (A0 A : AHeap) (s : List UInt8) (row : List Op) (v : Value) (hE : EH A0) (hrow : ∀ x ∈ row, May x) (hl : row.length ≤ 8) (ex : Ext NoB A0 A) (h : SliceAt A 38 v row.length (opsC row)) (t : List UInt8)
    (hs : allO s = (row, 0)) (hlay : layO row = (⟨⟨t⟩⟩, 0)) (ht : allO t = (row, 0)) (hle : t.length ≤ s.length) (hs40 : s.length ≤ 40) (env : Env) (r10 : env.rd 10 = v) (r18 : env.rd 18 = .string ⟨⟨s⟩⟩) (r19 : env.rd 19 = .int .i64 0) :
    wC T 8 none c8e { env := env, n := 168, dfs := [], A := A } (endF [.inl 8] (fun v _ => v = .bool true)) := by
  dsimp only [c8e]
  simp [r18]
  refine all_read A s (by omega) (hE.extN ex) _ fun B v1 e1 s1 o1 => ?_
  rw [hs] at s1
  rw [hs]
  have hB := h.ext e1 fun _ _ q => q
  simp [r10]
  refine laying_ok row v B _ hB.read (fun x hx => (hrow x hx).1) (by omega) fun C e2 => ?_
  rw [hlay]
  simp
  refine all_read C t (by omega) (hE.extN ((ex.trans e1).trans e2)) _ fun D v2 e3 s2 o2 => ?_
  rw [ht] at s2
  rw [ht]
  have e23 := e2.trans e3
  have s1' := (s1.ext e23 fun _ _ q => q).read
  have hD := (hB.ext e23 fun _ _ q => q).read
  simp [r19, r10]
  refine same_ok _ _ row row D _ s1' hD (by omega) ?_
  simp [r10]
  refine same_ok _ _ row row D _ s2.read hD (by omega) ?_
  have hle' : (t.length : Int) ≤ (s.length : Int) := by omega
  simp [r18, hle']
theorem pass_mix (A0 A : AHeap) (kind at_ : Nat) (f : List UInt8) (hf : f.length ≤ 4) (hat : at_ < 256) (row : List Op) (v10 v11 : Value) (q9 : Nat) (hE : EH A0) (hrow : ∀ x ∈ row, May x) (hl : row.length ≤ 8) (ex : Ext NoB A0 A) (hsum : (raw (oddL kind f)).length + (raw (row.map itO)).length ≤ 40)
    (h10 : SliceAt A 38 v10 row.length (opsC row)) (h11 : SliceAt A 2 v11 (row.map itO).length (icells (row.map itO))) (g9 : A.get q9 = some (.cells (icells (oddL kind f)) false 0))
    (env : Env) (r3 : env.rd 3 = .int .u8 (at_ : Nat)) (r9 : env.rd 9 = .slice (some ⟨q9, 0, none⟩) 2 2) (r10 : env.rd 10 = v10) (r11 : env.rd 11 = v11) :
    wC T 8 none c8p { env := env, n := 168, dfs := [], A := A } (endF [.inl 8] (fun v _ => v = .bool true)) := by
  dsimp only [c8p]
  obtain ⟨a11, c11, hv11⟩ := h11.read.val
  subst hv11
  obtain ⟨its, hits⟩ : ∃ its, its = row.map itO := ⟨_, rfl⟩
  have hil : its.length = row.length := by rw [hits]; simp
  rw [← hits] at h11 r11
  have wa : IntKind.i64.wrap (at_ : Int) = at_ := IntWalk.i64_in _ (by omega)
  have wl : IntKind.i64.wrap ((its.length : Int) + 1) = ((its.length + 1 : Nat) : Int) := wrap_succ _ (by omega)
  have hrem : binA .rem (.int .i64 (at_ : Nat)) (.int .i64 ((its.length + 1 : Nat) : Int)) = some (.int .i64 ((at_ % (its.length + 1) : Nat) : Int)) := by
    simp only [binA, ne_eq, not_true_eq_false, if_false]
    rw [if_neg (by omega), tmodN]
  have hk : at_ % (its.length + 1) ≤ its.length := Nat.le_of_lt_succ (Nat.mod_lt _ (by omega))
  generalize at_ % (its.length + 1) = k at hrem hk
  simp only [Int.natCast_add, Int.cast_ofNat_Int] at hrem wl
  simp [r3, r11, wa, wl, hrem]
  obtain ⟨v1, a1, a2, a3⟩ := slice_to (k1 := .i64) h11 (by decide) hk
  obtain ⟨v3, b1, b2, b3⟩ := h11.from (k1 := .i64) (l := k) (by decide) hk
  have n0 : ¬ Own (.slice a11 its.length c11) A.size := fun q => by have := h11.own_lt q; omega
  have hfresh : Ext NoB A (A.alloc (.cells [] false 0)) := Ext.alloc
  have f1 : SliceAt (A.alloc (.cells [] false 0)) 2 (.slice (some ⟨A.size, 0, none⟩) 0 0) ([] : List It).length (icells []) := .inr ⟨A.size, 0, 0, [], 0, rfl, by simp, by simp, by simp [icells], .inr (.inl ⟨rfl, by decide⟩)⟩
  have a1' : sliceVA (A.alloc (.cells [] false 0)) 2 (.slice a11 its.length c11) none (some (.int .i64 (k : Int))) none = some v1 := by
    rw [sliceVA_same (A := A)]
    · exact a1
    · intro j hj; exact hfresh.keep j (h11.own_lt hj) id
  rw [Ar.icells_take] at a2
  rw [icells_drop _ _ hk] at b2
  have tl : (its.take k).length = k := by rw [List.length_take]; omega
  have dl : (its.drop k).length = its.length - k := by rw [List.length_drop]
  rw [← dl] at b2
  obtain ⟨x1, y1, B, p1, p2, p3, p4⟩ := appIs (A.alloc (.cells [] false 0)) _ _ v1 [] (its.take k) f1 Ext.refl (by rw [tl]; exact a2.ext hfresh fun _ _ q => q) (by simp; omega)
  have oB : ∀ j, Own (.slice x1 ([] ++ its.take k).length y1) j → A.size ≤ j := by
    intro j hj
    rcases p4 j hj with ⟨_, _, _, q⟩ | q
    · cases q; exact Nat.le_refl _
    · simp at q; omega
  have eB : Ext NoB A B := hfresh.trans2 p3 fun j hj ⟨_, _, _, q⟩ => by cases q; omega
  have g9B := eB.get g9 id
  have lq9 := AHeap.get_lt g9
  have r9' : ReadAt B 2 (.slice (some ⟨q9, 0, none⟩) 2 2) (oddL kind f).length (icells (oddL kind f)) := .inr (.inl ⟨q9, 0, 2, _, false, 0, rfl, g9B, by rw [Ar.icells_len]; simp [oddL], by rw [List.drop_zero, List.take_of_length_le (by rw [Ar.icells_len]; simp [oddL])], fun q => absurd q (by decide)⟩)
  have lod : (oddL kind f).length = 2 := rfl
  obtain ⟨x2, y2, C, u1, u2, u3, u4⟩ := appIs B B _ _ ([] ++ its.take k) (oddL kind f) p2 Ext.refl r9' (by simp [lod]; omega)
  have oC : ∀ j, Own (.slice x2 (([] ++ its.take k) ++ oddL kind f).length y2) j → A.size ≤ j := by
    intro j hj
    have := eB.size
    rcases u4 j hj with q | q
    · exact oB j q
    · omega
  have eC : Ext NoB A C := eB.trans2 u3 fun j hj q => by have := oB j q; omega
  have b1' : ∀ H, Ext NoB A H → sliceVA H 2 (.slice a11 its.length c11) (some (.int .i64 (k : Int))) none none = some v3 := by
    intro H eH
    rw [sliceVA_same (A := A)]
    · exact b1
    · intro j hj; exact eH.keep j (h11.own_lt hj) id
  obtain ⟨x3, y3, D, w1, w2, w3, w4⟩ := appIs C C _ v3 (([] ++ its.take k) ++ oddL kind f) (its.drop k) u2 Ext.refl (b2.read.ext eC fun _ _ q => q) (by simp [lod]; omega)
  have eD : Ext NoB A D := eC.trans2 w3 fun j hj q => by have := oC j q; omega
  have hmix : ([] ++ its.take k) ++ oddL kind f ++ its.drop k = mixL kind f row k := by rw [hits]; rfl
  rw [hmix] at w1 w2
  obtain ⟨hp1, hp2, hp3, hp4, hp5, hp6⟩ := passes kind f hf row hrow k hsum
  have hml : (mixL kind f row k).length ≤ 1000 := by
    unfold mixL
    simp [lod]; omega
  generalize mixL kind f row k = mx at w1 w2 hp1 hp2 hp5 hp6 hml
  generalize ([] ++ its.take k) ++ oddL kind f = m2 at u1 u2 oC w1
  generalize [] ++ its.take k = m1 at p1 p2 oB u1
  refine wC_opsD_chk ?_
  simp [r11, a1', p1, r9, u1, b1' C eC, w1]
  refine wE_intro ?_ ?_
  · simp only [List.all_cons, List.all_nil, chkOk, List.nil_append, List.cons_append, List.getElem?_cons_succ, List.getElem?_cons_zero]
    have s3 := b1' C eC
    have s1 := b1' B eB
    have s0 := b1' (A.alloc (.cells [] false 0)) hfresh
    have s4 := b1' A Ext.refl
    have vb : ∀ v : Value, (∃ a c, v = .slice a (its.drop k).length c) → vbeq 4 v v = true := by
      rintro v ⟨a, c, rfl⟩; simp [vbeq]
    have hv3 := vb v3 b2.read.val
    simp [Bx, r11, s0, s1, s3, s4, hv3]
  simp
  refine Ar.lay_ok mx _ D _ w2.read hml fun F eF => ?_
  rw [hp1]
  simp
  have eAF := eD.trans eF
  refine pass_end A0 F _ row v10 hE hrow hl (ex.trans eAF) (h10.ext eAF fun _ _ q => q) _ hp2 hp3 hp4 hp5 hp6 _ (by simp [r10]) (by simp) (by simp)
end Go.Proofs.YtigknpfjhegkgaaGreatDoor
end

section
/- Items that are passed over: the walk. -/
namespace Go.Proofs.YtigknpfjhegkgaaGreatDoor
open Go Go.AS
set_option maxRecDepth 100000
set_option linter.unusedSimpArgs false
set_option linter.unusedVariables false
attribute [local irreducible] Trie.set Trie.get Env.rd
attribute [local simp ↓] wV_b2s
attribute [local simp] Nat.add_assoc wD_cons'' wD_nil' wC_seq wC_ops wC_opsD_nil wC_cond wC_skip wC_ret wC_exit wC_block wO_cons' wO_nil wantedA wV_eq lop qop ev wL_some wL_none wPut envOf rd_set rd_leaf eqA thenC blockC wB_true wB_false endF unwindA resultsA resA tupleA rdCell rdCells wrCells cl fillP lay rep bi_eql bi_neq bi_lss bi_leq bi_gtr bi_geq bi_add bi_sub bs_eql bs_neq bi_shr4 unA get_set' AHeap.get_alloc oneCell beqd bned idxA
attribute [local simp] Op.len Op.one Op.take Op.layAll Op.zeroC Op.vb
open Ar (It raw pad layR walkR icells)
def drC (l : List Dr) : List Value := l.flatMap Dr.cells
theorem drC_at : ∀ (xs : List Dr) (hx : ∀ d ∈ xs, d.bytes.length = 24) (k : Nat) (h : k < xs.length), ((drC xs).drop (k * 34)).take 34 = xs[k].cells
  | [], _, k, h => by simp at h
  | y :: xs, hx, 0, h => by
    show ((y.cells ++ drC xs).drop 0).take 34 = y.cells
    rw [List.drop_zero, List.take_left' (y.len (hx y (List.mem_cons_self ..)))]
  | y :: xs, hx, k + 1, h => by
    have := drC_at xs (fun d hd => hx d (List.mem_cons_of_mem _ hd)) k (by simpa using h)
    show ((y.cells ++ drC xs).drop ((k + 1) * 34)).take 34 = (xs[k]'(by simpa using h)).cells
    rw [Nat.succ_mul, Nat.add_comm, ← List.drop_drop, List.drop_left' (y.len (hx y (List.mem_cons_self ..)))]
    exact this
theorem drC_len : ∀ (xs : List Dr) (hx : ∀ d ∈ xs, d.bytes.length = 24), (drC xs).length = xs.length * 34
  | [], _ => rfl
  | y :: xs, hx => by
    have := drC_len xs (fun d hd => hx d (List.mem_cons_of_mem _ hd))
    have hy := y.len (hx y (List.mem_cons_self ..))
    simp only [drC, List.flatMap_cons, List.length_append, List.length_cons] at this ⊢
    rw [hy, this]; omega
def optsOf (ds : List Dr) (i : Nat) : List Op := (ds.take i).map Dr.opt
theorem optsOf_succ (ds : List Dr) (i : Nat) (h : i < ds.length) : optsOf ds (i + 1) = optsOf ds i ++ [ds[i].opt] := by
  unfold optsOf
  rw [List.take_add_one, List.getElem?_eq_getElem h, List.map_append]
  rfl
def PasI (B : AHeap) (lv : Value) (ds : List Dr) (w3 w9 : Value) (n0 : Nat) (m : Nat) (st : St) : Prop := ∃ i v10 v11, m + i = ds.length ∧ i ≤ 8 ∧ st.n = 168 ∧ st.dfs = [] ∧ st.env.rd 0 = lv ∧ st.env.rd 3 = w3 ∧ st.env.rd 9 = w9 ∧ st.env.rd 10 = v10 ∧ st.env.rd 11 = v11 ∧ st.env.rd 13 = .int .i64 (i : Nat) ∧ st.env.rd 12 = .int .i64 ((n0 + (raw ((optsOf ds i).map itO)).length : Nat) : Int) ∧
  Ext NoB B st.A ∧ SliceAt st.A 38 v10 (optsOf ds i).length (opsC (optsOf ds i)) ∧ SliceAt st.A 2 v11 ((optsOf ds i).map itO).length (icells ((optsOf ds i).map itO)) ∧ (∀ j, Own v10 j → B.size ≤ j) ∧ (∀ j, Own v11 j → B.size ≤ j) ∧ (∀ j, Own v10 j → ¬ Own v11 j) ∧ n0 + (raw ((optsOf ds i).map itO)).length ≤ 40
theorem rawOne (x : Op) (l : List UInt8) (h : x.enc = some l) : (raw [itO x]).length = 2 + l.length := by
  have : (raw [itO x]) = (itO x).raw := by simp [raw]
  rw [this, Ar.It.raw_len]
  show 2 + (x.enc.getD []).length = _
  rw [h]; rfl
theorem Ext.setO {S : Nat → Prop} {A A1 : AHeap} {b : Nat} {x : ABlk} (h : Ext S A A1) (hb : A.size ≤ b) : Ext S A (A1.set b x) :=
  ⟨h.size, fun j hj hn => by rw [get_set', if_neg (by omega)]; exact h.keep j hj hn⟩
set_option maxHeartbeats 2000000 in
theorem loop_ok (B : AHeap) (lv : Value) (ds : List Dr) (kind at_ : Nat) (f : List UInt8) (hf : f.length ≤ 4) (hat : at_ < 256) (q9 : Nat) (hE : EH B) (hd : ∀ d ∈ ds, d.W ∧ d.opt.W) (h : ReadAt B 34 lv ds.length (drC ds)) (g9 : B.get q9 = some (.cells (icells (oddL kind f)) false 0))
    (env : Env) (r0 : env.rd 0 = lv) (r3 : env.rd 3 = .int .u8 (at_ : Nat)) (r9 : env.rd 9 = .slice (some ⟨q9, 0, none⟩) 2 2) (r10 : env.rd 10 = .slice none 0 0) (r11 : env.rd 11 = .slice none 0 0) (r12 : env.rd 12 = .int .i64 ((pad (raw (oddL kind f))).length : Nat)) :
    wC T 8 none c8l { env := env, n := 168, dfs := [], A := B } (thenC (fun st => wC T 8 none c8p st (endF [.inl 8] (fun v _ => v = .bool true))) (endF [.inl 8] (fun v _ => v = .bool true))) := by
  dsimp only [c8l]
  have hpl : (pad (raw (oddL kind f))).length ≤ 16 := by rw [Ar.pad_len, odd_len]; omega
  have hpg := pad_le (raw (oddL kind f))
  obtain ⟨n0, hn0⟩ : ∃ n0, n0 = (pad (raw (oddL kind f))).length := ⟨_, rfl⟩
  rw [← hn0] at hpl hpg r12
  obtain ⟨a1, c1, rfl⟩ := h.val
  have hby : ∀ d ∈ ds, d.bytes.length = 24 := fun d hd' => (hd d hd').1.bytes
  simp
  have no : ∀ k j, Own (.slice none 0 0) j → k ≤ j := fun k j ⟨_, _, _, q⟩ => by cases q
  have hmay : ∀ i, ∀ x ∈ optsOf ds i, May x := by
    intro i x hx
    obtain ⟨d, hd1, rfl⟩ := List.mem_map.1 hx
    have hd2 := hd d (List.mem_of_mem_take hd1)
    exact ⟨hd2.2, Dr.enc hd2.1⟩
  refine wC_loop_inv (PasI B (.slice a1 ds.length c1) ds (.int .u8 (at_ : Nat)) (.slice (some ⟨q9, 0, none⟩) 2 2) n0) ?_ ds.length _ ⟨0, .slice none 0 0, .slice none 0 0, by omega, by omega, rfl, rfl, by simp [r0], by simp [r3], by simp [r9], by simp [r10], by simp [r11], by simp, by simp [r12, optsOf, raw], Ext.refl, .nil, .nil, no _, no _, (fun j ⟨_, _, _, q⟩ => by cases q), by simp [optsOf, raw]; omega⟩
  rintro m ⟨env, nn, dfs, A⟩ ⟨i, v10, v11, k0, ki8, k1, k2, r0, r3, r9, r10, r11, r13, r12, ex, s10, s11, o10, o11, odj, hsum⟩
  simp only at k1 k2 r0 r3 r9 r10 r11 r13 r12 ex s10 s11
  subst k1; subst k2
  have fin : ∀ (A' : AHeap) (env' : Env), Ext NoB A A' → env'.rd 3 = .int .u8 (at_ : Nat) → env'.rd 9 = .slice (some ⟨q9, 0, none⟩) 2 2 → env'.rd 10 = v10 → env'.rd 11 = v11 → wC T 8 none c8p { env := env', n := 168, dfs := [], A := A' } (endF [.inl 8] (fun v _ => v = .bool true)) := by
    intro A' env' eA q3 q9' q10 q11
    refine pass_mix B A' kind at_ f hf hat (optsOf ds i) v10 v11 q9 hE (hmay i) (by unfold optsOf; simp; omega) (ex.trans eA) (by omega) (s10.ext eA fun _ _ q => q) (s11.ext eA fun _ _ q => q) ((ex.trans eA).get g9 id) env' q3 q9' q10 q11
  by_cases hi : i < ds.length ∧ i < 8
  case neg =>
    by_cases h1 : i < ds.length
    · have h8 : ¬ i < 8 := fun q => hi ⟨h1, q⟩
      have h1i : (i : Int) < (ds.length : Int) := by omega
      have h8i : ¬ (i : Int) < 8 := by omega
      simp [r0, r13, h1, h1i, h8, h8i]
      exact fin A _ Ext.refl (by simp [r3]) (by simp [r9]) (by simp [r10]) (by simp [r11])
    · have h1i : ¬ (i : Int) < (ds.length : Int) := by omega
      simp [r0, r13, h1, h1i]
      exact fin A _ Ext.refl (by simp [r3]) (by simp [r9]) (by simp [r10]) (by simp [r11])
  obtain ⟨h1, h8⟩ := hi
  have h1i : (i : Int) < (ds.length : Int) := by omega
  have h8i : (i : Int) < 8 := by omega
  have hA := h.ext ex fun _ _ q => q
  obtain ⟨d1, p1, cc1, bs1, ro1, opn1, q1, q2, q3, q4⟩ := hA.elem2 h1
  rw [drC_at ds hby i h1] at q4
  cases q1
  rw [Nat.add_assoc] at q3
  have hdi := hd ds[i] (List.getElem_mem h1)
  have hsucc := optsOf_succ ds i h1
  generalize ds[i] = d at q4 hdi hsucc
  obtain ⟨hdw, how⟩ := hdi
  obtain ⟨l, hl, hl1, hl2⟩ := Dr.enc hdw
  simp [r0, r13, h1, h1i, h8, h8i, q2, q3, q4]
  refine dopt_ok A d hdw _ fun C e1 => ?_
  simp
  refine encode_ok C d.opt how _ fun D e2 => ?_
  have eD := e1.trans e2
  rw [hl]
  have wn : IntKind.i64.wrap (((n0 : Int) + ((raw ((optsOf ds i).map itO)).length : Int)) + 2) = ((n0 : Int) + ((raw ((optsOf ds i).map itO)).length : Int)) + 2 := IntWalk.i64_in _ (by omega)
  have wn2 : IntKind.i64.wrap (((n0 : Int) + ((raw ((optsOf ds i).map itO)).length : Int)) + 2 + (l.length : Int)) = (n0 : Int) + ((raw ((optsOf ds i).map itO)).length : Int) + 2 + (l.length : Int) := IntWalk.i64_in _ (by omega)
  obtain ⟨R, hR⟩ : ∃ R, R = (raw ((optsOf ds i).map itO)).length := ⟨_, rfl⟩
  rw [← hR] at wn wn2 r12 hsum
  simp only [Int.natCast_add] at r12
  by_cases h40 : 40 < n0 + R + 2 + l.length
  · have h40i : (40 : Int) < (n0 : Int) + (R : Int) + 2 + (l.length : Int) := by omega
    simp [resI, itemV, r12, wn, wn2, h40i]
    refine fin _ _ ?_ (by simp [r3]) (by simp [r9]) (by simp [r10]) (by simp [r11])
    have := eD.size
    (repeat first | exact Ext.refl | assumption | refine Ext.allocN ?_ | refine Ext.setN ?_ (by first | omega | (simp; done) | (simp; omega)))
  have h40i : ¬ (40 : Int) < (n0 : Int) + (R : Int) + 2 + (l.length : Int) := by omega
  have zD := eD.size
  have ld1 := AHeap.get_lt q2
  have q2D := eD.get q2 id
  simp [resI, itemV, r0, r12, r13, wn, wn2, h40i, h1, q2D, q3, q4, show ¬ d1 = D.size by omega]
  generalize hG : AHeap.set _ _ _ = G
  have eG : Ext NoB A G := by subst hG; (repeat first | exact Ext.refl | assumption | refine Ext.allocN ?_ | refine Ext.setN ?_ (by first | omega | (simp; done) | (simp; omega)))
  have g14 : G.get D.size = some (.cells [.int .i64 30, .string ⟨⟨l⟩⟩] false 0) := by subst hG; simp
  have zG : G.size = D.size + 1 := by subst hG; rfl
  refine dopt_ok G d hdw _ fun H e3 => ?_
  have eH := eG.trans e3
  have h14 := e3.get g14 id
  have zH := e3.size
  have ho10 : ∀ j, Own v10 j → j < A.size := fun j q => s10.own_lt q
  have ho11 : ∀ j, Own v11 j → j < A.size := fun j q => s11.own_lt q
  obtain ⟨row, hrow⟩ : ∃ row, row = optsOf ds i := ⟨_, rfl⟩
  have hrl : row.length ≤ 8 := by rw [hrow]; unfold optsOf; simp; omega
  rw [← hrow] at s10 s11 hR hsucc
  obtain ⟨x1, y1, J, u1, u2, u3, u4⟩ := appO H (H.alloc (.cells d.opt.cells false 0)) v10 (.slice (some ⟨H.size, 0, none⟩) 1 1) row d.opt (s10.ext eH fun _ _ q => q) Ext.alloc rfl (by simp [firstA, rdCells, ENDCAP]) rfl (by omega)
  have nJ : ¬ Own v10 D.size := fun q => by have := ho10 _ q; omega
  have j14 := u3.get h14 nJ
  have zJ := u3.size
  have ti : itO d.opt = ⟨30, ⟨⟨l⟩⟩⟩ := by unfold itO; rw [hl]; rfl
  have s11J : SliceAt J 2 v11 (row.map itO).length (icells (row.map itO)) := (s11.ext eH fun _ _ q => q).ext u3 fun j q q' => odj j q' q
  have hil : (row.map itO).length < 1000000 := by simp; omega
  obtain ⟨its, hits⟩ : ∃ its, its = row.map itO := ⟨_, rfl⟩
  rw [← hits] at s11J hil
  obtain ⟨x2, y2, K, t1, t2, t3, t4⟩ := Ar.appI J (J.alloc (.cells [.int .i64 30, .string ⟨⟨l⟩⟩] false 0)) v11 (.slice (some ⟨J.size, 0, none⟩) 1 1) its (itO d.opt) s11J Ext.alloc rfl (by rw [ti]; simp [firstA, rdCells, ENDCAP]) hil
  have ws := wrap_succ i (by omega)
  simp [r10, r11, u1, j14, t1, r13, ws]
  have hR2 : (raw ((optsOf ds (i + 1)).map itO)).length = R + (2 + l.length) := by
    rw [hsucc, List.map_append, raw_len_app, hR]
    exact congrArg _ (rawOne d.opt l hl)
  have exK : Ext NoB B K := by
    have h1 : Ext NoB B J := (ex.trans eH).trans2 u3 fun j hj q => by have := o10 j q; omega
    exact h1.trans2 t3 fun j hj q => by have := o11 j q; omega
  have zB := ex.size
  have n10 : ∀ j, Own (.slice x1 (row.length + 1) y1) j → B.size ≤ j := fun j q => by
    rcases u4 j q with q | q
    · exact o10 j q
    · omega
  have dj : ∀ j, Own (.slice x1 (row.length + 1) y1) j → ¬ Own v11 j := fun j q q' => by
    rcases u4 j q with q | q
    · exact odj j q q'
    · have := ho11 j q'; omega
  refine ⟨m - 1, by omega, i + 1, _, _, by omega, by omega, rfl, rfl, by simp [r0], by simp [r3], by simp [r9], by simp <;> rfl, by simp <;> rfl, by simp, ?_, exK, ?_, ?_, n10, ?_, ?_, by omega⟩
  · rw [hR2]; simp; omega
  · rw [hsucc]
    refine u2.ext t3 fun j q q' => dj j q q'
  · rw [hsucc, List.map_append, ← hits]; exact t2
  · intro j q
    rcases t4 j q with q | q
    · exact o11 j q
    · omega
  · intro j q q'
    rcases t4 j q' with q' | q'
    · exact dj j q q'
    · have := u2.own_lt q; omega
theorem passes_ok (A : AHeap) (lv : Value) (ds : List Dr) (f0 : List UInt8) (kind at_ : Nat) (hk : kind < 256) (hat : at_ < 256) (hE : EH A) (hd : ∀ d ∈ ds, d.W ∧ d.opt.W) (h : ReadAt A 34 lv ds.length (drC ds)) : wF T (.func (.func 8) #[] #[]) [lv, .string ⟨⟨f0⟩⟩, .int .u8 (kind : Nat), .int .u8 (at_ : Nat)] A (fun v _ => v = .bool true) := by
  refine wF_func (first := []) (captured := []) t8 ⟨rfl, by decide⟩ ?_
  dsimp only [c8]
  have hmin : foldV minV (.int .i64 ((f0.length : Nat) : Int)) [.int .i64 4] = some (.int .i64 ((min f0.length 4 : Nat) : Int)) := by
    simp only [foldV, minV]
    by_cases h : (4 : Int) < (f0.length : Int)
    · rw [if_pos h, Nat.min_eq_right (by omega)]; rfl
    · rw [if_neg h, Nat.min_eq_left (by omega)]
  have hsl : sliceSA (.string ⟨⟨f0⟩⟩) none (some (.int .i64 ((min f0.length 4 : Nat) : Int))) = some (.string ⟨⟨f0.take (min f0.length 4)⟩⟩) := sl_to f0 .i64 _ (Nat.min_le_left _ _)
  have hf : (f0.take (min f0.length 4)).length ≤ 4 := by rw [List.length_take]; omega
  generalize f0.take (min f0.length 4) = f at hsl hf
  generalize min f0.length 4 = mm at hmin hsl
  have w1 : IntKind.i64.wrap (kind : Int) = kind := IntWalk.i64_in _ (by omega)
  have hr1 : binA .rem (.int .i64 (kind : Nat)) (.int .i64 254) = some (.int .i64 ((kind % 254 : Nat) : Int)) := by
    simp only [binA, ne_eq, not_true_eq_false, if_false]
    rw [if_neg (by decide), show (254 : Int) = ((254 : Nat) : Int) from rfl, tmodN]
  have hr2 : binA .rem (.int .u8 (kind : Nat)) (.int .u8 7) = some (.int .u8 ((kind % 7 : Nat) : Int)) := by
    simp only [binA, ne_eq, not_true_eq_false, if_false]
    rw [if_neg (by decide), show (7 : Int) = ((7 : Nat) : Int) from rfl, tmodN]
  obtain ⟨k1, hk1⟩ : ∃ k1, k1 = kind % 254 := ⟨_, rfl⟩
  obtain ⟨k2, hk2⟩ : ∃ k2, k2 = kind % 7 := ⟨_, rfl⟩
  rw [← hk1] at hr1
  rw [← hk2] at hr2
  have hm1 : binA .mul (.int .u8 (k2 : Nat)) (.int .u8 16) = some (.int .u8 ((k2 * 16 : Nat) : Int)) := by
    simp only [binA, ne_eq, not_true_eq_false, if_false]
    rw [IntWalk.u8_in _ (by omega)]; simp
  have w2 : IntKind.i64.wrap (2 + (k1 : Int)) = 2 + (k1 : Int) := IntWalk.i64_in _ (by omega)
  have w3 : IntKind.u8.wrap (144 + ((k2 * 16 : Nat) : Int)) = 144 + ((k2 * 16 : Nat) : Int) := IntWalk.u8_in _ (by omega)
  have hb : (144 + ((k2 * 16 : Nat) : Int)) = (((UInt8.ofNat (144 + kind % 7 * 16)).toNat : Nat) : Int) := by
    rw [ofNat_toNat (by omega), ← hk2]; omega
  simp
  refine works_ok A _ hE ?_
  obtain ⟨ub, hub⟩ : ∃ ub, ub = UInt8.ofNat (144 + kind % 7 * 16) := ⟨_, rfl⟩
  rw [← hub] at hb
  have w3' : IntKind.u8.wrap (144 + (k2 : Int) * 16) = ((ub.toNat : Nat) : Int) := by
    rw [← hb, ← w3]; simp
  have hb2 : b2s (A.alloc (.cells [.int .u8 ((ub.toNat : Nat) : Int)] false 0)) (.slice (some ⟨A.size, 0, none⟩) 1 1) = some (.string ⟨⟨[ub]⟩⟩) :=
    b2s_ok (A := A.alloc (.cells [.int .u8 ((ub.toNat : Nat) : Int)] false 0)) (v := .slice (some ⟨A.size, 0, none⟩) 1 1) (l := [ub]) (.inr (.inl ⟨A.size, 0, 1, [.int .u8 ((ub.toNat : Nat) : Int)], false, 0, rfl, by simp, by simp, rfl, fun z => absurd z (by decide)⟩))
  have hadd : binA .add (.string ⟨⟨[ub]⟩⟩) (.string ⟨⟨f⟩⟩) = some (.string ⟨⟨ub :: f⟩⟩) := by
    simp only [binA]
    rw [if_neg]
    · rfl
    · show ¬ (((1 + f.length : Nat) : Int) > 9223372036854775807)
      omega
  have hod : icells (oddL kind f) = [.int .i64 (if 2 + kind % 254 = 30 then 31 else ((2 + kind % 254 : Nat) : Int)), .string ⟨⟨f⟩⟩, .int .i64 30, .string ⟨⟨ub :: f⟩⟩] := by
    rw [hub]; rfl
  have main : ∀ (B : AHeap) (env : Env), Ext NoB A B → B.get (A.size + 1) = some (.cells (icells (oddL kind f)) false 0) → env.rd 0 = lv → env.rd 3 = .int .u8 (at_ : Nat) → env.rd 9 = .slice (some ⟨A.size + 1, 0, none⟩) 2 2 → wC T 8 none c8m { env := env, n := 168, dfs := [], A := B } (endF [.inl 8] (fun v _ => v = .bool true)) := by
    intro B env eB g9 r0 r3 r9
    dsimp only [c8m]
    simp [r9]
    have hrd : ReadAt B 2 (.slice (some ⟨A.size + 1, 0, none⟩) 2 2) (oddL kind f).length (icells (oddL kind f)) := .inr (.inl ⟨A.size + 1, 0, 2, _, false, 0, rfl, g9, by rw [Ar.icells_len]; simp [oddL], by rw [List.drop_zero, List.take_of_length_le (by rw [Ar.icells_len]; simp [oddL])], fun q => absurd q (by decide)⟩)
    refine Ar.size_ok (oddL kind f) _ B _ hrd (by simp [oddL]) fun C e => ?_
    have hlr := layR_all (oddL kind f) (odd_ok kind f hf) (by rw [odd_len]; omega)
    rw [hlr]
    simp
    refine loop_ok C lv ds kind at_ f hf hat (A.size + 1) (hE.extN (eB.trans e)) hd (h.ext (eB.trans e) fun _ _ q => q) (e.get g9 id) _ (by simp [r0]) (by simp [r3]) (by simp [r9]) (by simp) (by simp) (by simp; rfl)
  simp [hmin, hsl, w1, hr1, hr2, hm1, w2, w3', hb2, hadd]
  by_cases h30 : 2 + kind % 254 = 30
  · have h30i : (2 : Int) + (k1 : Int) = 30 := by omega
    rw [if_pos h30] at hod
    simp [h30i]
    refine main _ _ ?_ ?_ ?_ ?_ ?_
    · (repeat first | exact Ext.refl | assumption | refine Ext.allocN ?_ | refine Ext.setN ?_ (by first | omega | (simp; done) | (simp; omega)))
    · rw [hod]; simp
    · simp
    · simp
    · simp
  · have h30i : ¬ (2 : Int) + (k1 : Int) = 30 := by omega
    have h30k : (2 : Int) + (k1 : Int) = ((2 + kind % 254 : Nat) : Int) := by omega
    rw [if_neg h30, ← h30k] at hod
    simp [h30i]
    refine main _ _ ?_ ?_ ?_ ?_ ?_
    · (repeat first | exact Ext.refl | assumption | refine Ext.allocN ?_ | refine Ext.setN ?_ (by first | omega | (simp; done) | (simp; omega)))
    · rw [hod]; simp
    · simp
    · simp
    · simp
end Go.Proofs.YtigknpfjhegkgaaGreatDoor
end
