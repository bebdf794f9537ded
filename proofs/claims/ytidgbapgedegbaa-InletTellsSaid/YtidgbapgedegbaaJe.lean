/- The reference's table: contracts. -/
import Derived.Test.YtidgbapgedegbaaIc
import Derived.Test.YtidgbapgedegbaaKt
import Derived.KernelRfl
namespace Go.Proofs.Ytidgbapgedegbaa
open Go Go.AS
set_option maxRecDepth 100000
set_option linter.unusedSimpArgs false
set_option linter.unusedVariables false
attribute [local irreducible] Trie.set Trie.get Env.rd
attribute [local simp ↓] wV_b2s
attribute [local simp] Nat.add_assoc wD_cons'' wD_nil' wC_seq wC_ops wC_opsD_nil wC_cond wC_skip wC_ret wC_exit wC_block wO_cons' wO_nil wantedA wV_eq lop qop ev wL_some wL_none wPut envOf rd_set rd_leaf eqA thenC blockC wB_true wB_false endF unwindA resultsA resA tupleA rdCell rdCells wrCells cl fillP lay rep binA unA get_set' AHeap.get_alloc oneCell beqd bned idxA

theorem mpl' (m : Mp) : (mpc m).length = 4 := rfl
def RTAt (A : AHeap) (t room base : Nat) (lm : List Mp) (R : Nat → Prop) : Prop := ∃ lv, A.get t = some (.cells [.int .i64 (room : Nat), .int .i64 (base : Nat), lv] false 0) ∧ SliceAt A 4 lv lm.length (encs mpc lm) ∧ R t ∧ ∀ j, Own lv j → R j ∧ j ≠ t
theorem RTAt.ext {A A' : AHeap} {t room base : Nat} {lm : List Mp} {R U : Nat → Prop} (H : RTAt A t room base lm R) (e : Ext U A A') (hs : ∀ j, R j → ¬ U j) : RTAt A' t room base lm R := by
  obtain ⟨lv, h1, h2, h3, h4⟩ := H
  exact ⟨lv, e.get h1 (hs _ h3), h2.ext e fun j hj => hs _ (h4 j hj).1, h3, h4⟩
theorem RTAt.grow {A : AHeap} {t room base : Nat} {lm : List Mp} {R R' : Nat → Prop} (H : RTAt A t room base lm R) (hs : ∀ j, R j → R' j) : RTAt A t room base lm R' := by
  obtain ⟨lv, h1, h2, h3, h4⟩ := H
  exact ⟨lv, h1, h2, hs _ h3, fun j hj => ⟨hs _ (h4 j hj).1, (h4 j hj).2⟩⟩
theorem rtnew_ok (A : AHeap) (room : Nat) (h1 : 1 ≤ room) (h2 : room ≤ 2048) (Q : Value → AHeap → Prop) (hq : ∀ A' t, Ext NoB A A' → RTAt A' t room 0 [] (fun j => A.size ≤ j ∧ j < A'.size) → Q (.tuple ⟨[.pointer (some ⟨t, 0, none⟩), .int .i64 0]⟩) A') : wF T (.func (.func 74) #[] #[]) [.int .i64 (room : Nat)] A Q := by
  refine wF_func (first := []) (captured := []) t74 ⟨rfl, by decide⟩ ?_
  dsimp only [c74]
  simp [show ¬ (room : Int) < 1 by omega, show ¬ (2048 : Int) < (room : Int) by omega]
  generalize hA1 : A.alloc _ = A1
  obtain ⟨g1, e1, z1⟩ := alloc_facts hA1
  exact hq A1 A.size e1 ⟨_, g1, SliceAt.nil, ⟨Nat.le_refl _, by omega⟩, fun j ⟨_, _, _, q⟩ => by cases q⟩
theorem rtnew_bad (A : AHeap) (room : Int) (h : room < 1 ∨ 2048 < room) (Q : Value → AHeap → Prop) (hq : Q (.tuple ⟨[.pointer none, .int .i64 2]⟩) A) : wF T (.func (.func 74) #[] #[]) [.int .i64 room] A Q := by
  refine wF_func (first := []) (captured := []) t74 ⟨rfl, by decide⟩ ?_
  dsimp only [c74]
  by_cases c : room < 1
  · simp [c]; exact hq
  · have : (2048 : Int) < room := by omega
    simp [c, this]; exact hq
def TaI (A A1 : AHeap) (t : Nat) (lm : List Mp) (a : Int) (m : Nat) (st : St) : Prop := ∃ i, i ≤ lm.length ∧ m = lm.length - i ∧ st.n = 34 ∧ st.dfs = [] ∧ st.A = A1 ∧ (∀ k (h : k < lm.length), k < i → lm[k].at_ ≠ a) ∧ (st.env.rd 0 = .pointer (some ⟨t, 0, none⟩) ∧ st.env.rd 1 = .int .i64 a ∧ st.env.rd 4 = .pointer (some ⟨A.size, 0, none⟩) ∧ st.env.rd 6 = .int .i64 (i : Nat))
theorem mps_at' (lm : List Mp) {k : Nat} (hk : k < lm.length) : ((encs mpc lm).drop (k * 4)).take 4 = mpc lm[k] := by
  have := encs_at (enc := mpc) (sz := 4) (fun _ => rfl) lm k hk
  rw [this]
theorem findM_at {lm : List Mp} {a : Int} {i : Nat} (hi : i < lm.length) (h1 : lm[i].at_ = a) (h2 : ∀ k (h : k < lm.length), k < i → lm[k].at_ ≠ a) : findM lm a = some lm[i] := by
  unfold findM
  rw [List.find?_eq_some_iff_getElem]
  exact ⟨by simpa using h1, i, hi, rfl, fun j hj => by simpa using h2 j (by omega) hj⟩
theorem findM_no {lm : List Mp} {a : Int} (h : ∀ k (h : k < lm.length), lm[k].at_ ≠ a) : findM lm a = none := by
  unfold findM
  rw [List.find?_eq_none]
  intro m hm
  obtain ⟨k, hk, rfl⟩ := List.getElem_of_mem hm
  simpa using h k hk
set_option maxHeartbeats 1600000 in
theorem rtat_ok (A : AHeap) (t room base : Nat) (lm : List Mp) (R : Nat → Prop) (a : Int) (H : RTAt A t room base lm R) (hl : lm.length < 1000000) (Q : Value → AHeap → Prop) (hq : ∀ A', Ext NoB A A' → Q (.tuple ⟨[.agg ⟨mpc ((findM lm a).getD mp0)⟩, .bool (findM lm a).isSome]⟩) A') : wF T (.func (.func 114) #[] #[]) [.pointer (some ⟨t, 0, none⟩), .int .i64 a] A Q := by
  obtain ⟨lv, h1, h2, h3, h4⟩ := H
  obtain ⟨la, lc, rfl⟩ := h2.read.val
  refine wF_func (first := []) (captured := []) t114 ⟨rfl, by decide⟩ ?_
  dsimp only [c114]
  simp
  generalize hA1 : A.alloc _ = A1
  obtain ⟨g1, e1, z1⟩ := alloc_facts hA1
  have lg := AHeap.get_lt g1
  have h1' := e1.get h1 id
  refine wC_loop_inv (TaI A A1 t lm a) ?_ lm.length _ ⟨0, by omega, rfl, rfl, rfl, rfl, fun k _ h => by omega, by simp, by simp, by simp, by simp⟩
  rintro m ⟨env, nn, dfs, B⟩ ⟨i, hi, rfl, s1, s2, s3, hno, r0, r1, r4, r6⟩
  simp only at s1 s2 s3 r0 r1 r4 r6
  subst s1; subst s2; subst s3
  have w1 : IntKind.i64.wrap ((i : Int) + 1) = (i : Int) + 1 := IntWalk.i64_in _ (by omega)
  by_cases c : i < lm.length
  · obtain ⟨d1, o1, c1, bs1, ro1, op1, y1, y2, y3, y4⟩ := (h2.read.ext e1 fun _ _ => id).elem2 c
    rw [mps_at' lm c] at y4
    have y3' : o1 + (i * 4 + 4) ≤ bs1.length := by omega
    have g0 : bs1[o1 + i * 4]? = some (.int .i64 lm[i].at_) := by
      have h := congrArg (fun z => z[0]?) y4
      simpa [mpc] using h
    cases y1
    by_cases ha : lm[i].at_ = a
    · have hf := findM_at c ha hno
      rw [hf] at hq
      simp [r0, r1, r4, r6, c, h1', y2, g0, ha, y3', y4, g1, lg]
      generalize hA2 : AHeap.set _ A.size _ = A2
      have e2 : Ext NoB A A2 := ⟨by rw [← hA2]; simp; omega, fun j hj _ => by rw [← hA2]; simp [show j ≠ A.size by omega]; exact e1.keep j hj id⟩
      have g2 : A2.get A.size = some (.cells (mpc lm[i]) false 0) := by rw [← hA2]; simp [lg]; rfl
      simp [r4, g2, mpc]
      simpa [mpc] using hq A2 e2
    · simp [r0, r1, r4, r6, c, h1', y2, g0, ha, w1]
      exact ⟨lm.length - (i + 1), by omega, i + 1, by omega, rfl, rfl, rfl, rfl, fun k hk hki => if e : k = i then by subst e; exact ha else hno k hk (by omega), by simp [r0], by simp [r1], by simp [r4], by simp⟩
  · have hf := findM_no (lm := lm) (a := a) fun k hk => hno k hk (by omega)
    rw [hf] at hq
    simp [r0, r1, r4, r6, c, h1', g1, lg]
    generalize hA2 : AHeap.set _ A.size _ = A2
    have e2 : Ext NoB A A2 := ⟨by rw [← hA2]; simp; omega, fun j hj _ => by rw [← hA2]; simp [show j ≠ A.size by omega]; exact e1.keep j hj id⟩
    have g2 : A2.get A.size = some (.cells (mpc mp0) false 0) := by rw [← hA2]; simp [lg, mpc, mp0]
    simpa [mpc, mp0] using hq A2 e2
set_option maxHeartbeats 1600000 in
theorem rtput_ok (A : AHeap) (t room base : Nat) (lm : List Mp) (R : Nat → Prop) (m : Mp) (H : RTAt A t room base lm R) (hl : lm.length < 100000) (hr : room ≤ 2048) (hb : base ≤ 2305843009213693952) (Q : Value → AHeap → Prop)
    (hq0 : ∀ A', ¬ (MayPut room base m ∧ findM lm m.at_ = none) → Ext NoB A A' → Q (.bool false) A')
    (hq1 : ∀ A' R', MayPut room base m → findM lm m.at_ = none → RTAt A' t room base (lm ++ [m]) R' → Ext R A A' → (∀ j, R' j → R j ∨ (A.size ≤ j ∧ j < A'.size)) → Q (.bool true) A') :
    wF T (.func (.func 77) #[] #[]) [.pointer (some ⟨t, 0, none⟩), .agg ⟨mpc m⟩] A Q := by
  have H0 := H
  obtain ⟨lv, h1, h2, h3, h4⟩ := H
  have lt := AHeap.get_lt h1
  refine wF_func (first := []) (captured := []) t77 ⟨rfl, by decide⟩ ?_
  dsimp only [c77]
  have w1 : IntKind.i64.wrap ((base : Int) + (room : Int)) = (base : Int) + (room : Int) := IntWalk.i64_in _ (by omega)
  simp [mpc]
  generalize hA1 : A.alloc _ = A1
  obtain ⟨g1, e1, z1⟩ := alloc_facts hA1
  refine rtat_ok A1 t room base lm R m.at_ (H0.ext e1 fun _ _ q => q) (by omega) _ fun A2 e2 => ?_
  obtain ⟨fm, hfm⟩ : ∃ fm, fm = findM lm m.at_ := ⟨_, rfl⟩
  rw [← hfm] at hq0 hq1 ⊢
  have g2 := e2.get g1 id
  have h2' := e2.get (e1.get h1 id) id
  simp [mpc]
  generalize hA3 : AHeap.set (A2.alloc _) A2.size _ = A3
  have e3 : Ext NoB A2 A3 := ⟨by rw [← hA3]; simp, fun j hj _ => by rw [← hA3]; simp [show j ≠ A2.size by omega]⟩
  have g3 := e3.get g2 id
  have h3' := e3.get h2' id
  have e13 := (e1.trans e2).trans e3
  have z13 := e13.size
  have l3 := AHeap.get_lt g3
  cases fm with
  | some m' =>
    simp
    exact hq0 A3 (fun q => by cases q.2) e13
  | none =>
    by_cases c1 : m.len < 1
    · simp [g3, c1]; exact hq0 A3 (fun q => by have := q.1.1; omega) e13
    by_cases c2 : (room : Int) < m.len
    · simp [g3, h3', c1, c2]; exact hq0 A3 (fun q => by have := q.1.2.1; omega) e13
    by_cases c3 : m.off < 0
    · simp [g3, h3', c1, c2, c3]; exact hq0 A3 (fun q => by have := q.1.2.2.1; omega) e13
    by_cases c4 : m.at_ < base
    · simp [g3, h3', c1, c2, c3, c4]; exact hq0 A3 (fun q => by have := q.1.2.2.2.1; omega) e13
    by_cases c5 : (base : Int) + (room : Int) ≤ m.at_
    · simp [g3, h3', c1, c2, c3, c4, c5, w1]; exact hq0 A3 (fun q => by have := q.1.2.2.2.2; omega) e13
    have may : MayPut room base m := ⟨by omega, by omega, by omega, by omega, by omega⟩
    have e4 : Ext NoB A3 (A3.alloc (.cells (mpc m) false 0)) := Ext.alloc
    have sa := h2.ext (e13.trans e4) fun _ _ => id
    obtain ⟨v', A5, a1, a2, a3, a4⟩ := sa.append (x := .slice (some ⟨A3.size, 0, none⟩) 1 1) (m := 1) (new := mpc m) (bytes := 32) (by decide) rfl (by simp [firstA, ENDCAP]; exact ⟨Nat.le_refl 4, rfl⟩) rfl rfl (by omega) (by decide) (fun q => by cases q)
    have h5' := a3.get (e4.get h3' id) fun q => (h4 t q).2 rfl
    have l5 := AHeap.get_lt h5'
    have z5 := a3.size
    have hmc : mpc m = [.int .i64 m.at_, .int .i64 m.off, .int .i64 m.len, .int .u16 m.sum] := rfl
    rw [hmc] at a1
    obtain ⟨va, vc, hv'⟩ := a2.read.val
    subst hv'
    simp [g3, h3', c1, c2, c3, c4, c5, w1, a1, h5', l5]
    generalize hA6 : AHeap.set A5 t _ = A6
    have g6 : A6.get t = some (.cells [.int .i64 (room : Int), .int .i64 (base : Int), .slice va (lm.length + 1) vc] false 0) := by rw [← hA6]; simp [l5]
    have e6 : Ext (fun j => j = t) A5 A6 := ⟨by rw [← hA6]; simp, fun j hj q => by rw [← hA6]; simp [show j ≠ t from q]⟩
    have z6 := e6.size
    have z4 : (A3.alloc (.cells (mpc m) false 0)).size = A3.size + 1 := by simp
    have ov : ∀ j, Own (.slice va (lm.length + 1) vc) j → Own lv j ∨ A.size ≤ j := fun j hj => (a4 j hj).imp id fun q => by omega
    have nt : ∀ j, Own (.slice va (lm.length + 1) vc) j → j ≠ t := fun j hj q => (ov j hj).elim (fun z => (h4 j z).2 q) fun z => by omega
    refine hq1 A6 (fun j => R j ∨ (A.size ≤ j ∧ j < A6.size)) may rfl ⟨_, g6, ?_, .inl h3, fun j hj => ⟨(ov j hj).imp (fun z => (h4 j z).1) fun z => ⟨z, ?_⟩, nt j hj⟩⟩ ?_ fun j hj => hj
    · rw [List.length_append, encs_append]
      have := a2.ext e6 fun j hj => nt j hj
      simpa [encs] using this
    · have := a2.own_lt hj; omega
    · refine (((e13.trans e4).mono fun _ _ q => q.elim).trans2 a3 fun j hj q => (h4 j q).1).trans (e6.mono fun j _ q => q ▸ h3)
def TcI (A1 : AHeap) (t : Nat) (lm : List Mp) (begin_ : Nat) (m : Nat) (st : St) : Prop := ∃ i v, i ≤ lm.length ∧ m = lm.length - i ∧ st.n = 52 ∧ st.dfs = [] ∧ SliceAt st.A 4 v ((lm.take i).filter fun m => decide ((begin_ : Int) ≤ m.at_)).length (encs mpc ((lm.take i).filter fun m => decide ((begin_ : Int) ≤ m.at_))) ∧ (∀ j, Own v j → A1.size ≤ j) ∧ Ext NoB A1 st.A ∧ (st.env.rd 0 = .pointer (some ⟨t, 0, none⟩) ∧ st.env.rd 4 = v ∧ st.env.rd 5 = .int .i64 (i : Nat))
set_option maxHeartbeats 1600000 in
theorem rtcut_ok (A : AHeap) (t room base n : Nat) (lm : List Mp) (R : Nat → Prop) (H : RTAt A t room base lm R) (hl : lm.length < 100000) (hn : base ≤ n) (hb : n ≤ 2305843009213693952) (Q : Value → AHeap → Prop)
    (hq : ∀ A' w R', RTAt A' t room n (lm.filter fun m => decide ((n : Int) ≤ m.at_)) R' → Ext R A A' → (∀ j, R' j → R j ∨ (A.size ≤ j ∧ j < A'.size)) → Q w A') :
    wF T (.func (.func 118) #[] #[]) [.pointer (some ⟨t, 0, none⟩), .int .i64 (n : Nat)] A Q := by
  obtain ⟨lv, h1, h2, h3, h4⟩ := H
  have lt := AHeap.get_lt h1
  refine wF_func (first := []) (captured := []) t118 ⟨rfl, by decide⟩ ?_
  dsimp only [c118]
  have m1 : foldV minV (.int .i64 (n : Int)) [.int .i64 2305843009213693952] = some (.int .i64 (n : Int)) := by
    simp only [foldV, minV]; congr 2; omega
  have m2 : foldV maxV (.int .i64 (base : Int)) [.int .i64 (n : Int)] = some (.int .i64 (n : Int)) := by
    simp only [foldV, maxV]; congr 2; omega
  simp [h1, m1, m2, lt]
  generalize hA1 : AHeap.set A t _ = A1
  have g1 : A1.get t = some (.cells [.int .i64 (room : Int), .int .i64 (n : Int), lv] false 0) := by rw [← hA1]; simp [lt]
  have e1 : Ext (fun j => j = t) A A1 := ⟨by rw [← hA1]; simp, fun j hj q => by rw [← hA1]; simp [show j ≠ t from q]⟩
  have z1 : A1.size = A.size := by rw [← hA1]; simp
  have h2' := h2.ext e1 fun j hj => (h4 j hj).2
  obtain ⟨la, lc, rfl⟩ := h2'.read.val
  refine wC_loop_inv (TcI A1 t lm n) ?_ lm.length _ ⟨0, .slice none 0 0, by omega, rfl, rfl, rfl, SliceAt.nil, (fun j ⟨_, _, _, q⟩ => by cases q), Ext.refl, by simp, by simp, by simp⟩
  rintro m ⟨env, nn, dfs, B⟩ ⟨i, v, hi, rfl, s1, s2, sa, hov, ex, r0, r4, r5⟩
  simp only at s1 s2 sa ex r0 r4 r5
  subst s1; subst s2
  have w1 : IntKind.i64.wrap ((i : Int) + 1) = (i : Int) + 1 := IntWalk.i64_in _ (by omega)
  have gB := ex.get g1 id
  by_cases c : i < lm.length
  · obtain ⟨d1, o1, c1, bs1, ro1, op1, y1, y2, y3, y4⟩ := (h2'.read.ext ex fun _ _ => id).elem2 c
    rw [mps_at' lm c] at y4
    have y3' : o1 + (i * 4 + 4) ≤ bs1.length := by omega
    have g0 : bs1[o1 + i * 4]? = some (.int .i64 lm[i].at_) := by
      have h := congrArg (fun z => z[0]?) y4
      simpa [mpc] using h
    cases y1
    have ht : lm.take (i + 1) = lm.take i ++ [lm[i]] := by rw [List.take_add_one, List.getElem?_eq_getElem c]; rfl
    by_cases ha : (n : Int) ≤ lm[i].at_
    · have hfl : ((lm.take i).filter fun m => decide ((n : Int) ≤ m.at_)).length ≤ i := Nat.le_trans (List.length_filter_le _ _) (by rw [List.length_take]; omega)
      have hff : (lm.take (i + 1)).filter (fun m => decide ((n : Int) ≤ m.at_)) = (lm.take i).filter (fun m => decide ((n : Int) ≤ m.at_)) ++ [lm[i]] := by
        rw [ht, List.filter_append]; simp [ha]
      have e4 : Ext NoB B (B.alloc (.cells (mpc lm[i]) false 0)) := Ext.alloc
      obtain ⟨v', A5, a1, a2, a3, a4⟩ := (sa.ext e4 fun _ _ => id).append (x := .slice (some ⟨B.size, 0, none⟩) 1 1) (m := 1) (new := mpc lm[i]) (bytes := 32) (by decide) rfl (by simp [firstA, ENDCAP]; exact ⟨Nat.le_refl 4, rfl⟩) rfl rfl (by omega) (by decide) (fun q => by cases q)
      have hm4 : lay [.int .i64 0, .int .i64 0, .int .i64 0, .int .u16 0] 0 (mpc lm[i]) = mpc lm[i] := rfl
      simp [r0, r4, r5, c, gB, y2, g0, ha, y3', y4, mpl', hm4, a1, w1]
      refine ⟨lm.length - (i + 1), by omega, i + 1, v', by omega, rfl, rfl, rfl, ?_, fun j hj => ?_, ?_, by simp [r0], by simp, by simp⟩
      · rw [hff, List.length_append, encs_append]
        simpa [encs] using a2
      · rcases a4 j hj with q | q
        · exact hov j q
        · have := ex.size; simp at q; omega
      · exact (ex.trans e4).trans2 a3 fun j hj q => by have := hov j q; omega
    · have hff : (lm.take (i + 1)).filter (fun m => decide ((n : Int) ≤ m.at_)) = (lm.take i).filter (fun m => decide ((n : Int) ≤ m.at_)) := by
        rw [ht, List.filter_append]; simp [ha]
      simp [r0, r4, r5, c, gB, y2, g0, ha, w1]
      exact ⟨lm.length - (i + 1), by omega, i + 1, v, by omega, rfl, rfl, rfl, by rw [hff]; exact sa, hov, ex, by simp [r0], by simp [r4], by simp⟩
  · rw [List.take_of_length_le (by omega)] at sa
    have lB := AHeap.get_lt gB
    obtain ⟨va, vc, hv⟩ := sa.read.val
    simp [r0, r4, r5, c, gB, lB]
    rw [hv]
    simp [lB]
    generalize hA6 : AHeap.set B t _ = A6
    have g6 : A6.get t = some (.cells [.int .i64 (room : Int), .int .i64 (n : Int), v] false 0) := by rw [← hA6]; simp [lB, hv]
    have e6 : Ext (fun j => j = t) B A6 := ⟨by rw [← hA6]; simp, fun j hj q => by rw [← hA6]; simp [show j ≠ t from q]⟩
    have z6 := e6.size
    have zx := ex.size
    refine hq A6 _ (fun j => R j ∨ (A.size ≤ j ∧ j < A6.size)) ⟨v, g6, sa.ext e6 fun j hj q => by have := hov j hj; omega, .inl h3, fun j hj => ⟨.inr ⟨by have := hov j hj; omega, by have := sa.own_lt hj; omega⟩, fun q => by have := hov j hj; omega⟩⟩ ?_ fun j hj => hj
    exact ((e1.trans (ex.mono fun _ _ q => q.elim)).trans e6).mono fun j _ q => q ▸ h3
end Go.Proofs.Ytidgbapgedegbaa
