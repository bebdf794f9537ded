/- ModeTells: what it answers. -/
import Derived.Test.YtcfahggmejpdbaaDoorLe
import Derived.KernelRfl
namespace Go.Proofs.YtcfahggmejpdbaaDoor
open Go Go.AS
set_option maxRecDepth 100000
set_option linter.unusedSimpArgs false
set_option linter.unusedVariables false
attribute [local irreducible] Trie.set Trie.get Env.rd
attribute [local simp] Nat.add_assoc wD_cons'' wD_nil' wC_seq wC_ops wC_opsD_nil wC_cond wC_skip wC_ret wC_exit wC_block wO_cons' wO_nil wantedA wV_eq lop qop ev wL_some wL_none wPut envOf rd_set rd_leaf eqA thenC blockC wB_true wB_false endF unwindA resultsA resA tupleA rdCell rdCells wrCells cl fillP lay rep binA unA get_set' AHeap.get_alloc oneCell beqd bned idxA

attribute [local simp] MS.len MS.one MS.take MS.at0 MS.at1 MS.at2 MS.at7 MS.putEn MS.putMd MS.putSo MS.putU0 Tn.len Tn.one Tn.take Tn.at0 Tn.at1 Tn.at2 wr1 wr2 wr3 wr4
def ToI (C : AHeap) (e e1 en : Int) (vs : List Value) (m : Nat) (st : St) : Prop := ∃ j : Nat, j ≤ 4 ∧ m = 4 - j ∧ st.n = 121 ∧ st.dfs = [] ∧
  (st.env.rd 4 = .int .i64 en ∧ st.env.rd 11 = .int .i64 e ∧ st.env.rd 59 = .agg ⟨vs⟩ ∧ st.env.rd 60 = .int .i64 j) ∧ Ext NoB C st.A
def TiI (C : AHeap) (e e1 en : Int) (vs : List Value) (j : Nat) (vj : Value) (m : Nat) (st : St) : Prop := ∃ k : Nat, k ≤ 3 ∧ m = 3 - k ∧ st.n = 121 ∧ st.dfs = [] ∧
  (st.env.rd 4 = .int .i64 en ∧ st.env.rd 11 = .int .i64 e ∧ st.env.rd 16 = vj ∧ st.env.rd 59 = .agg ⟨vs⟩ ∧ st.env.rd 60 = .int .i64 j ∧ st.env.rd 67 = .agg ⟨[.int .i64 e, .int .i64 e1, .int .i64 en]⟩ ∧ st.env.rd 68 = .int .i64 k) ∧ Ext NoB C st.A
theorem min40 (n : Nat) : (if (40 : Int) < (n : Int) then (40 : Int) else (n : Int)) = ((min n 40 : Nat) : Int) := by
  split <;> omega
theorem int_ne (a : Int) : (a != a) = false := by simp

set_option maxHeartbeats 3200000 in
theorem tells_tail (B : AHeap) (q8 : Nat) (e en : Int) (v w1 u : Value) (l lb l1 : List Tn) (t : Tn) (env : Env) (hE : EH B) (hl : l.length ≤ 40) (hlb : lb.length ≤ 40) (hs : SliceAt B 3 v l.length (tcells l)) (hw : ReadAt B 3 w1 lb.length (tcells lb)) (hu : ReadAt B 3 u l1.length (tcells l1)) (hua : ArgV u l1.length)
    (g8 : B.get q8 = some (.cells t.cells false 0)) (r1 : env.rd 1 = u) (r4 : env.rd 4 = .int .i64 en) (r8 : env.rd 8 = .pointer (some ⟨q8, 0, none⟩)) (r11 : env.rd 11 = .int .i64 e) (r12 : env.rd 12 = v) (r13 : env.rd 13 = w1) :
    wC T 6 none d6u { env := env, n := 121, dfs := [], A := B } (endF [.inl 10] fun v _ => v = .bool true) := by
  obtain ⟨va, vc, rfl⟩ := hs.read.val
  obtain ⟨ua, uc, rfl⟩ := hu.val
  unfold d6u
  have x1 : Ext NoB B (B.alloc (.cells [] false 0)) := Ext.alloc
  have sl0 : SliceAt (B.alloc (.cells [] false 0)) 3 (.slice (some ⟨B.size, 0, none⟩) 0 0) 0 [] := .inr ⟨B.size, 0, 0, [], 0, rfl, by simp, by simp, by simp, .inr (.inl ⟨rfl, by decide⟩)⟩
  generalize hB1 : B.alloc (.cells [] false 0) = B1 at x1 sl0
  have zB1 : B1.size = B.size + 1 := by rw [← hB1]; rfl
  have rv1 := hs.read.ext x1 fun _ _ => id
  have f1 := rv1.firstA (Nat.le_refl _)
  rw [List.take_of_length_le (by rw [tcells_len]; exact Nat.le_refl _)] at f1
  obtain ⟨w2, B2, p1, p2, p3, p4⟩ := sl0.append (x := .slice va l.length vc) (m := l.length) (new := tcells l) (bytes := 24) (by decide) rv1.lenA f1 (tcells_one _) (tcells_len _) (by omega) (by decide) (fun q => by cases q)
  rw [Nat.zero_add, List.nil_append] at p2
  have own1 : ∀ j, Own w2 j → B.size ≤ j := fun j hj => by
    rcases p4 j hj with ⟨o', n', c', q⟩ | q
    · cases q; exact Nat.le_refl _
    · omega
  have x2 : Ext NoB B B2 := x1.trans2 p3 fun b hb ⟨o', n', c', q⟩ => by cases q; omega
  have zB2 := x2.size
  have x23 : Ext NoB B2 (B2.alloc (.cells t.cells false 0)) := Ext.alloc
  obtain ⟨w3, B4, q1, q2, q3, q4⟩ := (p2.ext x23 fun _ _ => id).append (x := .slice (some ⟨B2.size, 0, none⟩) 1 1) (m := 1) (new := t.cells) (bytes := 24) (by decide) rfl (by simp [firstA, ENDCAP]) rfl rfl (by omega) (by decide) (fun q => by cases q)
  have x4 : Ext NoB B B4 := (x2.trans x23).trans2 q3 fun b hb q => by have := own1 b q; omega
  have k8a := x1.get g8 id
  have k8b := x2.get g8 id
  have hmin : min l1.length 40 ≤ l1.length := Nat.min_le_left _ _
  obtain ⟨v4, a1, a2, a3⟩ := hua.front (A := B4) (sz := 3) (k2 := .i64) (hu.ext x4 fun _ _ => id) hmin
  rw [tcells_take l1 _ hmin] at a2
  have hx : (l1.take (min l1.length 40)).length = min l1.length 40 := by rw [List.length_take]; omega
  have a2' : ReadAt B4 3 v4 (l1.take (min l1.length 40)).length (tcells (l1.take (min l1.length 40))) := by rw [hx]; exact a2
  have q2' : ReadAt B4 3 w3 (l ++ [t]).length (tcells (l ++ [t])) := by
    rw [tcells_snoc, List.length_append]; exact q2.read
  have vt : vbeq.vbeqs 3 t.cells t.cells = true := by simp [Tn.cells, vbeq, vbeq.vbeqs]
  obtain ⟨v4a, v4c, rfl⟩ := a2.val
  obtain ⟨w3a, w3c, rfl⟩ := q2.read.val
  obtain ⟨w1a, w1c, rfl⟩ := hw.val
  generalize he1 : IntKind.i64.wrap (1 - e) = e1
  simp
  refine wC_opsD_chk ?_
  simp [r8, r12, hB1, p1, k8b, lay_turn, q1]
  refine wE_intro ?_ ?_
  · simp only [List.all_cons, List.all_nil, chkOk, List.nil_append, List.cons_append, List.getElem?_cons_succ, List.getElem?_cons_zero]
    simp [Bx, r8, k8a, k8b, vbeq, vt]
  simp [r1, r12, r13, foldV, minV, min40, a1]
  have rs : ∀ j : Nat, j < 4 → ∃ vj lj, ([.slice va l.length vc, .slice w1a lb.length w1c, .slice w3a (l.length + 1) w3c, .slice v4a (min l1.length 40) v4c] : List Value)[j]? = some vj ∧ lj.length < 100000 ∧ ReadAt B4 3 vj lj.length (tcells lj) := by
    intro j hj
    have : j = 0 ∨ j = 1 ∨ j = 2 ∨ j = 3 := by omega
    rcases this with rfl | rfl | rfl | rfl
    · exact ⟨_, l, rfl, by omega, hs.read.ext x4 fun _ _ => id⟩
    · exact ⟨_, lb, rfl, by omega, hw.ext x4 fun _ _ => id⟩
    · exact ⟨_, l ++ [t], rfl, by simp; omega, q2'⟩
    · exact ⟨_, l1.take (min l1.length 40), rfl, by omega, a2'⟩
  generalize hvs : ([.slice va l.length vc, .slice w1a lb.length w1c, .slice w3a (l.length + 1) w3c, .slice v4a (min l1.length 40) v4c] : List Value) = vs at rs
  have hE4 := hE.extN x4
  refine wC_loop_inv (ToI B4 e e1 en vs) ?_ 4 _ ⟨0, by omega, rfl, rfl, rfl, ⟨by simp [r4], by simp [r11], by simp, by simp⟩, Ext.refl⟩
  clear r1 r4 r8 r11 r12 r13
  rintro m ⟨env, n, dfs, C1⟩ ⟨j, hj, rfl, s1, s2, ⟨r4, r11, r59, r60⟩, ex⟩
  simp only at s1 s2 r4 r11 r59 r60 ex
  subst s1; subst s2
  by_cases c : j < 4
  · obtain ⟨vj, lj, y1, y2, y3⟩ := rs j c
    have w2j := len40 (show j < 100000 by omega)
    simp [r4, r11, r59, r60, show (j : Int) < 4 by omega, y1, he1]
    refine wC_loop_inv (TiI B4 e e1 en vs j vj) ?_ 3 _ ⟨0, by omega, rfl, rfl, rfl, ⟨by simp [r4], by simp [r11], by simp, by simp [r59], by simp [r60], by simp, by simp⟩, ex⟩
    clear r4 r11 r59 r60 ex
    rintro m ⟨env, n, dfs, C2⟩ ⟨k, hk, rfl, s1, s2, ⟨r4, r11, r16, r59, r60, r67, r68⟩, ex⟩
    simp only at s1 s2 r4 r11 r16 r59 r60 r67 r68 ex
    subst s1; subst s2
    have rj := y3.ext ex fun _ _ => id
    by_cases ck : k < 3
    · have hk3 : ∃ x : Int, ([.int .i64 e, .int .i64 e1, .int .i64 en] : List Value)[k]? = some (.int .i64 x) := by
        have : k = 0 ∨ k = 1 ∨ k = 2 := by omega
        rcases this with rfl | rfl | rfl
        · exact ⟨_, rfl⟩
        · exact ⟨_, rfl⟩
        · exact ⟨_, rfl⟩
      obtain ⟨x, hx3⟩ := hk3
      have w2k := len40 (show k < 100000 by omega)
      simp [r67, r68, show (k : Int) < 3 by omega, hx3]
      refine tells_in C2 x vj lj _ _ (hE4.extN ex) y2 rj (by simp [r16]) (by simp) fun env' C3 e3 t4 t10 t11 t16 t59 t60 t67 t68 => ?_
      simp [r4, r11, r16, r59, r60, r67, r68] at t4 t10 t11 t16 t59 t60 t67 t68
      simp [t68]
      exact ⟨3 - (k + 1), by omega, k + 1, by omega, rfl, rfl, rfl, ⟨by simp [t4], by simp [t11], by simp [t16], by simp [t59], by simp [t60], by simp [t67], by simpa using w2k⟩, ex.trans e3⟩
    · have : k = 3 := by omega
      subst this
      simp [r16, r68]
      refine falls_ok C2 vj lj _ (by omega) rj fun C3 e3 => ?_
      simp [r16]
      refine rfalls_ok C3 vj lj _ y2 (rj.ext e3 fun _ _ => id) ?_
      simp [r60]
      exact ⟨4 - (j + 1), by omega, j + 1, by omega, rfl, rfl, rfl, ⟨by simp [r4], by simp [r11], by simp [r59], by simpa using w2j⟩, ex.trans e3⟩
  · have : j = 4 := by omega
    subst this
    simp [r60]
    refine works_ok _ _ (hE4.extN ex) ?_
    simp

set_option maxHeartbeats 1600000 in
theorem tells_ok (A : AHeap) (d : Int) (bv : Value) (bl : List Int) (u : Value) (l1 : List Tn) (a : Int) (t : Tn) (en : Int) (hE : EH A) (hd : 0 ≤ d ∧ d < 256) (ha : 0 ≤ a ∧ a < 256) (hen : -9223372036854775808 ≤ en ∧ en < 9223372036854775808) (hb : ∀ x ∈ bl, 0 ≤ x ∧ x < 256) (hbv : ReadAt A 1 bv bl.length (ucells bl))
    (hu : ReadAt A 3 u l1.length (tcells l1)) (hul : ∀ j, Own u j → j < A.size) (hua : ArgV u l1.length) : wF T (.func (.func 6) #[] #[]) [.agg ⟨[.int .u8 d, bv]⟩, u, .int .u8 a, .agg ⟨t.cells⟩, .int .i64 en] A (fun v _ => v = .bool true) := by
  obtain ⟨ba, bc, rfl⟩ := hbv.val
  refine wF_func (first := []) (captured := []) u6 ⟨rfl, by decide⟩ ?_
  dsimp only [d6]
  simp
  have e1 : Ext NoB A ((A.alloc (.cells [.int .u8 d, .slice ba bl.length bc] false 0)).alloc (.cells t.cells false 0)) := Ext.alloc.trans Ext.alloc
  generalize hA1 : (A.alloc _).alloc _ = A1 at e1
  have g8 : A1.get (A.size + 1) = some (.cells t.cells false 0) := by rw [← hA1]; simp
  clear hA1
  generalize A.size + 1 = q8 at g8
  refine turns_ok A1 d _ bl _ hd hb (hbv.ext e1 fun _ _ => id) rfl fun A2 v l e2 hl hok hs ho => ?_
  have hE2 := (hE.extN e1).extN e2
  have hu2 := (hu.ext e1 fun _ _ => id).ext e2 fun _ _ => id
  have k8 := e2.get g8 id
  have l8 := AHeap.get_lt k8
  generalize d.tmod 2 = e at hok
  clear hok
  obtain ⟨va, vc, rfl⟩ := hs.read.val
  have x1 : Ext NoB A2 (A2.alloc (.cells [] false 0)) := Ext.alloc
  have sl0 : SliceAt (A2.alloc (.cells [] false 0)) 3 (.slice (some ⟨A2.size, 0, none⟩) 0 0) 0 [] := .inr ⟨A2.size, 0, 0, [], 0, rfl, by simp, by simp, by simp, .inr (.inl ⟨rfl, by decide⟩)⟩
  generalize hB1 : A2.alloc (.cells [] false 0) = B1 at x1 sl0
  have zB1 : B1.size = A2.size + 1 := by rw [← hB1]; rfl
  have rv1 := hs.read.ext x1 fun _ _ => id
  have f1 := rv1.firstA (Nat.le_refl _)
  rw [List.take_of_length_le (by rw [tcells_len]; exact Nat.le_refl _)] at f1
  obtain ⟨w1, B2, p1, p2, p3, p4⟩ := sl0.append (x := .slice va l.length vc) (m := l.length) (new := tcells l) (bytes := 24) (by decide) rv1.lenA f1 (tcells_one _) (tcells_len _) (by omega) (by decide) (fun q => by cases q)
  rw [Nat.zero_add, List.nil_append] at p2
  have own1 : ∀ j, Own w1 j → A2.size ≤ j := fun j hj => by
    rcases p4 j hj with ⟨o', n', c', q⟩ | q
    · cases q; exact Nat.le_refl _
    · omega
  have x2 : Ext NoB A2 B2 := x1.trans2 p3 fun b hb ⟨o', n', c', q⟩ => by cases q; omega
  have zB2 := x2.size
  obtain ⟨w1a, w1c, rfl⟩ := p2.read.val
  have m8 := x2.get k8 id
  by_cases c0 : 0 < l.length
  · have wa : IntKind.i64.wrap a = a := IntWalk.i64_in _ (by omega)
    have j1 := Int.tmod_nonneg (b := (l.length : Int)) ha.1
    have j2 := Int.tmod_lt_of_pos a (show (0 : Int) < (l.length : Int) by omega)
    obtain ⟨j, hj⟩ : ∃ j : Nat, a.tmod (l.length : Int) = j := ⟨_, (Int.toNat_of_nonneg j1).symm⟩
    rw [hj] at j2
    have hjl : j < l.length := by omega
    obtain ⟨d', o, c', bs, opn, y1, y2, y3, y4⟩ := write (new := t.cells) p2 hjl rfl
    have hd' : A2.size ≤ d' := own1 d' ⟨o, _, _, y1⟩
    cases y1
    rw [tcells_set l j t hjl] at y4
    have y3' : o + (j * 3 + 3) ≤ bs.length := by omega
    have x3 : Ext NoB A2 (B2.set d' (.cells (lay bs (o + j * 3) t.cells) false opn)) := x2.trans2 (S' := fun b => b = d') (Ext.set rfl) fun b hb q => by omega
    have y4' : SliceAt (B2.set d' (.cells (lay bs (o + j * 3) t.cells) false opn)) 3 (.slice (some ⟨d', o, none⟩) (l.set j t).length w1c) (l.set j t).length (tcells (l.set j t)) := by rw [List.length_set]; exact y4
    simp [hB1, p1, c0, wa, hj, hjl, m8, y2, y3', show ¬ l.length = 0 by omega]
    refine tells_tail _ q8 e en _ _ _ l (l.set j t) l1 t _ (hE2.extN x3) hl (by rw [List.length_set]; exact hl) (hs.ext x3 fun _ _ => id) y4'.read (hu2.ext x3 fun _ _ => id) hua (x3.get k8 id) ?_ ?_ ?_ ?_ ?_ ?_
    all_goals simp
  · simp [hB1, p1, c0]
    refine tells_tail B2 q8 e en _ _ _ l l l1 t _ (hE2.extN x2) hl hl (hs.ext x2 fun _ _ => id) p2.read (hu2.ext x2 fun _ _ => id) hua m8 ?_ ?_ ?_ ?_ ?_ ?_
    all_goals simp
end Go.Proofs.YtcfahggmejpdbaaDoor
