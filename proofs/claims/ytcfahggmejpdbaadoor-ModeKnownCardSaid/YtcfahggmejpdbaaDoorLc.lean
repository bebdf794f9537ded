/- ModeFronts: what it answers. -/
import Derived.Test.YtcfahggmejpdbaaDoorLd
import Derived.KernelRfl
namespace Go.Proofs.YtcfahggmejpdbaaDoor
open Go Go.AS
set_option maxRecDepth 100000
set_option linter.unusedSimpArgs false
set_option linter.unusedVariables false
attribute [local irreducible] Trie.set Trie.get Env.rd
attribute [local simp] Nat.add_assoc wD_cons'' wD_nil' wC_seq wC_ops wC_opsD_nil wC_cond wC_skip wC_ret wC_exit wC_block wO_cons' wO_nil wantedA wV_eq lop qop ev wL_some wL_none wPut envOf rd_set rd_leaf eqA thenC blockC wB_true wB_false endF unwindA resultsA resA tupleA rdCell rdCells wrCells cl fillP lay rep binA unA get_set' AHeap.get_alloc oneCell beqd bned idxA

attribute [local simp] MS.len MS.one MS.take MS.at0 MS.at1 MS.at2 MS.at7 MS.putEn MS.putMd MS.putSo MS.putU0 Tn.len Tn.one Tn.take Tn.at0 Tn.at1 Tn.at2 wr1 wr2 wr3 wr4
theorem sliceVA_same {A A' : AHeap} {sz : Nat} {v : Value} {lo hi mx : Option Value} (h : ∀ j, Own v j → A'.get j = A.get j) : sliceVA A' sz v lo hi mx = sliceVA A sz v lo hi mx := by
  unfold sliceVA
  split
  · rfl
  · rename_i b o len cap
    rw [h b ⟨_, _, _, rfl⟩]
  · rfl
theorem slice_to {A : AHeap} {sz n l : Nat} {v : Value} {cs : List Value} {k1 : IntKind} (h : SliceAt A sz v n cs) (hsz : sz ≠ 0) (hl : l ≤ n) :
    ∃ v', sliceVA A sz v none (some (.int k1 (l : Int))) none = some v' ∧ ReadAt A sz v' l (cs.take (l * sz)) ∧ ∀ j, Own v' j → Own v j := by
  have hb : ∀ cap, n ≤ cap → bndsA n cap none (some (.int k1 (l : Int))) none = some (0, l, cap) := fun cap hc => by
    delta bndsA; simp [bnd_nat k1 l cap (by omega)]
  have hm : l * sz ≤ n * sz := Nat.mul_le_mul_right _ hl
  rcases h with ⟨h1, h2, h3⟩ | ⟨d, o, c, bs, opn, h1, h2, h3, h4, h5⟩
  · subst h1; subst h2; subst h3
    have : l = 0 := by omega
    subst this
    exact ⟨_, by simp only [sliceVA, hb 0 (Nat.le_refl _)], .inl ⟨rfl, rfl, by simp⟩, fun j hj => hj⟩
  · subst h1
    rcases h5 with ⟨q1, q2, q3⟩ | ⟨q1, q2⟩ | ⟨q1, q2, q3, q4⟩
    · subst q1; subst q2
      refine ⟨.slice (some ⟨d, o, none⟩) l OPEN, ?_, .inr (.inl ⟨d, o, OPEN, bs, false, opn, rfl, h2, by omega, ?_, fun q => absurd q (by decide)⟩), ?_⟩
      · simp only [sliceVA, if_true, h2, hb n (Nat.le_refl _)]
        rw [if_neg (by simp [hsz])]; simp
      · rw [h4, List.take_take, Nat.min_eq_left hm]
      · rintro j ⟨o', n', c', q⟩; cases q; exact ⟨_, _, _, rfl⟩
    · subst q1
      have c1 : c ≠ OPEN := by omega
      have c2 : c ≠ ENDCAP := fun q => by rw [q] at q2; exact absurd q2 (by decide)
      refine ⟨.slice (some ⟨d, o, none⟩) l c, ?_, .inr (.inl ⟨d, o, c, bs, false, opn, rfl, h2, by omega, ?_, fun q => absurd q c2⟩), ?_⟩
      · simp only [sliceVA, if_neg c1, if_neg c2, if_neg (show ¬ OPEN ≤ c by omega), hb c (Nat.le_refl _), Nat.sub_zero]; simp
      · rw [h4, List.take_take, Nat.min_eq_left hm]
      · rintro j ⟨o', n', c', q⟩; cases q; exact ⟨_, _, _, rfl⟩
    · subst q1; subst q2
      have : l = 0 := by omega
      subst this
      refine ⟨.slice (some ⟨d, o, none⟩) 0 ENDCAP, ?_, .inr (.inr ⟨d, o, ENDCAP, rfl, rfl, by simp⟩), ?_⟩
      · have e1 : ENDCAP ≠ OPEN := by decide
        have hb0 := hb 0 (Nat.le_refl _)
        simp only [sliceVA, if_neg e1, if_true, hb0]
      · rintro j ⟨o', n', c', q⟩; cases q; exact ⟨_, _, _, rfl⟩
theorem tcells_one (l : List Tn) : (tcells l).all oneCell = true := by
  induction l with
  | nil => rfl
  | cons t l ih =>
    have : tcells (t :: l) = t.cells ++ tcells l := rfl
    rw [this, List.all_append, ih]; rfl
/-- The mode behind a turn, and the end. -/
theorem nx_md {s : MS} {t : Tn} (h : okT s t = true) : (nx s t).md = t.m ∧ (nx s t).en = s.en := by
  have tm := ((okT_in s t).1 h).2.1
  by_cases h5 : t.c = 5
  · rw [nx_5 h h5]
    have hf := (set_flat ({ s with md := 3 } : MS) t.p true).2.1
    rw [hf.1, hf.2.1, tm, h5]; exact ⟨rfl, rfl⟩
  · by_cases h7 : t.c = 7
    · rw [nx_7 h h7]
      have hf := (set_flat ({ s with md := 3 } : MS) t.p true).1
      show (MS.setPre _ _ _).md = _ ∧ (MS.setPre _ _ _).en = _
      rw [hf.1, hf.2.1, tm, h7]; exact ⟨rfl, rfl⟩
    · by_cases h8 : t.c = 8
      · rw [nx_8 h h8]
        have hf := (set_flat ({ s with md := 3 } : MS) t.p true).2.1
        show (MS.setUp _ _ _).md = _ ∧ (MS.setUp _ _ _).en = _
        rw [hf.1, hf.2.1, tm, h8]; exact ⟨rfl, rfl⟩
      · by_cases h9 : t.c = 9
        · rw [nx_9 h h9]
          have hf1 := (set_flat ({ s with md := 3 } : MS) t.p false).2.1
          have hf := (set_flat (({ s with md := 3 } : MS).setUp t.p false) t.p true).2.2
          rw [hf.1, hf.2.1, hf1.1, hf1.2.1, tm, h9]; exact ⟨rfl, rfl⟩
        · rw [nx_other h h5 h7 h8 h9]; exact ⟨tm.symm, rfl⟩
theorem good_take {s : MS} {l : List Tn} (h : firstBad s l = none) (k : Nat) : firstBad s (l.take k) = none := by
  cases hb : firstBad s (l.take k) with
  | none => rfl
  | some j =>
    have : l = l.take k ++ l.drop k := (List.take_append_drop k l).symm
    rw [this, firstBad_app_some _ _ _ hb] at h; cases h
theorem end_en {e : Int} {l : List Tn} (h : firstBad (ms0 e) l = none) : ∀ i, i ≤ l.length → (endS (ms0 e) (l.take i)).en = e := by
  intro i
  induction i with
  | zero => intro _; rfl
  | succ i ih =>
    intro hi
    rw [endS_take (by omega), (nx_md (good_at h (by omega))).2, ih (by omega)]

/-- The loop of ModeFronts. -/
def FrI (A0 : AHeap) (e : Int) (v : Value) (l : List Tn) (k q5 q10 : Nat) (m : Nat) (st : St) : Prop := ∃ (i : Nat), i ≤ k ∧ m = k - i ∧ st.n = 130 ∧ st.dfs = [] ∧
  (st.env.rd 5 = .pointer (some ⟨q5, 0, none⟩) ∧ st.env.rd 7 = .int .i64 e ∧ st.env.rd 8 = v ∧ st.env.rd 9 = .int .i64 k ∧ st.env.rd 10 = .pointer (some ⟨q10, 0, none⟩) ∧ st.env.rd 11 = .int .i64 i) ∧
  st.A.get q10 = some (.cells (endS (ms0 e) (l.take i)).cells false 0) ∧ Ext NoB A0 st.A

set_option maxHeartbeats 1600000 in
theorem fronts_ok (A : AHeap) (d : Int) (bv : Value) (bl : List Int) (a : Int) (t : Tn) (hE : EH A) (hd : 0 ≤ d ∧ d < 256) (ha : 0 ≤ a ∧ a < 256) (hb : ∀ x ∈ bl, 0 ≤ x ∧ x < 256) (hbv : ReadAt A 1 bv bl.length (ucells bl)) :
    wF T (.func (.func 4) #[] #[]) [.agg ⟨[.int .u8 d, bv]⟩, .int .u8 a, .agg ⟨t.cells⟩] A (fun v _ => v = .bool true) := by
  have he := (tmod2 d hd.1).2
  obtain ⟨ba, bc, rfl⟩ := hbv.val
  refine wF_func (first := []) (captured := []) t4 ⟨rfl, by decide⟩ ?_
  dsimp only [c4]
  simp
  have e1 : Ext NoB A ((A.alloc (.cells [.int .u8 d, .slice ba bl.length bc] false 0)).alloc (.cells t.cells false 0)) := Ext.alloc.trans Ext.alloc
  refine works_ok _ _ (hE.extN e1) ?_
  simp
  generalize hA1 : (A.alloc _).alloc _ = A1 at e1
  have g5 : A1.get (A.size + 1) = some (.cells t.cells false 0) := by rw [← hA1]; simp
  clear hA1
  generalize A.size + 1 = q5 at g5
  refine turns_ok A1 d _ bl _ hd hb (hbv.ext e1 fun _ _ => id) rfl fun A2 v l e2 hl hok hs ho => ?_
  have hE2 := (hE.extN e1).extN e2
  have g5 := e2.get g5 id
  have l5 := AHeap.get_lt g5
  generalize d.tmod 2 = e at he hok
  clear e1 e2 hbv ho
  obtain ⟨va, vc, rfl⟩ := hs.read.val
  have wa : IntKind.i64.wrap a = a := IntWalk.i64_in _ (by omega)
  have wl : IntKind.i64.wrap ((l.length : Int) + 1) = (l.length : Int) + 1 := IntWalk.i64_in _ (by omega)
  have j1 := Int.tmod_nonneg (b := (l.length : Int) + 1) ha.1
  have j2 := Int.tmod_lt_of_pos a (show (0 : Int) < (l.length : Int) + 1 by omega)
  obtain ⟨k, hk⟩ : ∃ k : Nat, a.tmod ((l.length : Int) + 1) = k := ⟨_, (Int.toNat_of_nonneg j1).symm⟩
  rw [hk] at j2
  have hkl : k ≤ l.length := by omega
  simp [wa, wl, hk, show ¬ ((l.length : Int) + 1 = 0) by omega]
  refine begin_ok A2 e _ fun A3 e3 => ?_
  simp [lay_whole]
  generalize hA4 : AHeap.set (AHeap.alloc A3 _) A3.size _ = A4
  have e4 : Ext NoB A3 A4 := by rw [← hA4]; exact ⟨by simp, fun b hb _ => by simp [show b ≠ A3.size by omega]⟩
  have g10 : A4.get A3.size = some (.cells (ms0 e).cells false 0) := by rw [← hA4]; simp
  clear hA4
  have hq10 : A2.size ≤ A3.size := e3.size
  refine wC_loop_inv (FrI A2 e (.slice va l.length vc) l k q5 A3.size) ?_ k _ ⟨0, by omega, rfl, rfl, rfl, ⟨by simp, by simp, by simp, by simp, by simp, by simp⟩, by simpa [endS] using g10, e3.trans e4⟩
  generalize A3.size = q10 at hq10
  clear g10 e3 e4
  rintro m ⟨env, n, dfs, A5⟩ ⟨i, hi, rfl, s1, s2, ⟨r5, r7, r8, r9, r10, r11⟩, g10, ex⟩
  simp only at s1 s2 r5 r7 r8 r9 r10 r11 g10 ex
  subst s1; subst s2
  have l10 := AHeap.get_lt g10
  have k5 := ex.get g5 id
  have m5 := AHeap.get_lt k5
  have hs5 := hs.ext ex fun _ _ => id
  by_cases c : i < k
  · have c' : i < l.length := by omega
    obtain ⟨d', o, cc, bs, ro, opn, y1, y2, y3, y4⟩ := hs5.read.elem2 c'
    cases y1
    rw [tcells_at l i c'] at y4
    have y3' : o + (i * 3 + 3) ≤ bs.length := by omega
    have d2 : bs[o + (i * 3 + 2)]? = some (.int .i64 (l[i]).m) := by
      have h := congrArg (fun z => z[2]?) y4
      simpa [Tn.cells, Nat.add_assoc] using h
    have ok := good_at hok c'
    have hnx := endS_take (s := ms0 e) c'
    have hmd := nx_md ok
    have hen := end_en hok i (by omega)
    rw [hen] at hmd
    have w2 := len40 (show i < 100000 by omega)
    simp [r5, r7, r8, r9, r10, r11, c, c', g10, y2, y3', y4]
    refine next_ok A5 _ l[i] _ fun A6 e6 => ?_
    have h10 := e6.get g10 id
    have z10 := AHeap.get_lt h10
    have zd := AHeap.get_lt (e6.get y2 id)
    simp [lay_whole]
    generalize hA7 : AHeap.set (AHeap.alloc A6 _) A6.size _ = A7
    have e7 : Ext NoB A6 A7 := by rw [← hA7]; exact ⟨by simp, fun b hb _ => by simp [show b ≠ A6.size by omega]⟩
    have g12 : A7.get A6.size = some (.cells (nx (endS (ms0 e) (l.take i)) l[i]).cells false 0) := by rw [← hA7]; simp
    clear hA7
    have n10 := e7.get h10 id
    have nl10 := AHeap.get_lt n10
    have nd := e7.get (e6.get y2 id) id
    simp [ok, r7, r8, r10, r11, c', g12, n10, nd, d2, hmd, lay_ms, nl10]
    refine ⟨k - (i + 1), by omega, i + 1, by omega, rfl, rfl, rfl, ⟨by simp [r5], by simp [r7], by simp [r8], by simp [r9], by simp [r10], by simpa using w2⟩, by simp [nl10, hnx], ((ex.trans e6).trans e7).trans2 (S' := fun b => b = q10) (Ext.set rfl) (fun b hb q => by omega)⟩
  · have hik : i = k := by omega
    subst hik
    obtain ⟨v1, a1, a2, a3⟩ := slice_to (k1 := .i64) hs5 (by decide) hkl
    rw [tcells_take l i hkl] at a2
    have lti : (l.take i).length = i := by rw [List.length_take]; omega
    have a2' : ReadAt A5 3 v1 (l.take i).length (tcells (l.take i)) := by rw [lti]; exact a2
    have good := good_take hok i
    simp [r7, r8, r9, r11, a1]
    refine last_ok A5 e v1 (l.take i) _ (hE2.extN ex) (by omega) a2' fun A6 e6 => ?_
    rw [walk_good he good]
    generalize hS : endS (ms0 e) (l.take i) = s at g10
    have f10 := e6.get g10 id
    have f5 := e6.get k5 id
    have lf10 := AHeap.get_lt f10
    have lf5 := AHeap.get_lt f5
    simp [lay_whole, r5, r10, f10, f5, show q10 ≠ A6.size by omega, show q5 ≠ A6.size by omega]
    generalize hA7 : AHeap.set (AHeap.alloc A6 _) A6.size _ = A7
    have e7 : Ext NoB A6 A7 := by rw [← hA7]; exact ⟨by simp, fun b hb _ => by simp [show b ≠ A6.size by omega]⟩
    have g14 : A7.get A6.size = some (.cells s.cells false 0) := by rw [← hA7]; simp
    clear hA7
    have e57 := e6.trans e7
    have h10 := e57.get g10 id
    have h5 := e57.get k5 id
    refine next_ok A7 s t _ fun A8 e8 => ?_
    have z14 := AHeap.get_lt (e8.get g14 id)
    simp [lay_whole]
    generalize hA9 : AHeap.set (AHeap.alloc A8 _) A8.size _ = A9
    have e9 : Ext NoB A8 A9 := by rw [← hA9]; exact ⟨by simp, fun b hb _ => by simp [show b ≠ A8.size by omega]⟩
    clear hA9
    have e59 := (e57.trans e8).trans e9
    have m14 := e9.get (e8.get g14 id) id
    have m10 := e59.get g10 id
    have m5' := e59.get k5 id
    have ms := hs5.ext e59 fun _ _ => id
    have z10 := AHeap.get_lt m10
    have z5 := AHeap.get_lt m5'
    have y14 := AHeap.get_lt m14
    have ownv : ∀ j, Own (.slice va l.length vc) j → j < A2.size := fun j hj => hs.own_lt hj
    have z25 := ex.size
    have z59 := e59.size
    -- the empty row
    have x1 : Ext NoB A9 (A9.alloc (.cells [] false 0)) := Ext.alloc
    have sl0 : SliceAt (A9.alloc (.cells [] false 0)) 3 (.slice (some ⟨A9.size, 0, none⟩) 0 0) 0 [] := .inr ⟨A9.size, 0, 0, [], 0, rfl, by simp, by simp, by simp, .inr (.inl ⟨rfl, by decide⟩)⟩
    generalize hB1 : A9.alloc (.cells [] false 0) = B1 at x1 sl0
    have zB1 : B1.size = A9.size + 1 := by rw [← hB1]; rfl
    have x51 := e59.trans x1
    have same : ∀ {B : AHeap} {lo hi mx : Option Value}, Ext NoB A5 B → sliceVA B 3 (.slice va l.length vc) lo hi mx = sliceVA A5 3 (.slice va l.length vc) lo hi mx := fun x => sliceVA_same fun j hj => x.keep j (by have := ownv j hj; omega) id
    have a1B := (same (lo := none) (hi := some (.int .i64 (i : Int))) (mx := none) x51).trans a1
    have rv1 := a2.ext x51 fun _ _ => id
    have f1 := rv1.firstA (Nat.le_refl i)
    rw [List.take_of_length_le (by rw [tcells_len, lti]; exact Nat.le_refl _)] at f1
    obtain ⟨c1a, c1c, hv1⟩ := rv1.val
    obtain ⟨w1, B2, p1, p2, p3, p4⟩ := sl0.append (x := v1) (m := i) (new := tcells (l.take i)) (bytes := 24) (by decide) rv1.lenA f1 (tcells_one _) (by rw [tcells_len, lti]) (by omega) (by decide) (fun q => by rw [hv1] at q; cases q)
    rw [Nat.zero_add, List.nil_append] at p2
    have own1 : ∀ j, Own w1 j → A9.size ≤ j := fun j hj => by
      rcases p4 j hj with ⟨o', n', c', q⟩ | q
      · cases q; exact Nat.le_refl _
      · omega
    have x92 : Ext NoB A9 B2 := x1.trans2 p3 fun b hb ⟨o', n', c', q⟩ => by cases q; omega
    have zB2 := x92.size
    have x23 : Ext NoB B2 (B2.alloc (.cells t.cells false 0)) := Ext.alloc
    obtain ⟨w2, B4, q1, q2, q3, q4⟩ := (p2.ext x23 fun _ _ => id).append (x := .slice (some ⟨B2.size, 0, none⟩) 1 1) (m := 1) (new := t.cells) (bytes := 24) (by decide) rfl (by simp [firstA, ENDCAP]) rfl rfl (by omega) (by decide) (fun q => by cases q)
    have x94 : Ext NoB A9 B4 := (x92.trans x23).trans2 q3 fun b hb q => by have := own1 b q; omega
    have own2 : ∀ j, Own w2 j → A9.size ≤ j := fun j hj => by
      rcases q4 j hj with q | q
      · exact own1 j q
      · have := x23.size; omega
    have zB4 := x94.size
    obtain ⟨v3, b1, b2, b3⟩ := hs5.from (k1 := .i64) (by decide) hkl
    have x54 := e59.trans x94
    have x52 := e59.trans x92
    have b1' : ∀ {B : AHeap}, Ext NoB A5 B → sliceVA B 3 (.slice va l.length vc) (some (.int .i64 (i : Int))) none none = some v3 := fun x => (same x).trans b1
    have rv3 := b2.read.ext x54 fun _ _ => id
    have f3 := rv3.firstA (Nat.le_refl _)
    rw [tcells_drop l i hkl] at f3
    have ldr : (l.drop i).length = l.length - i := List.length_drop
    rw [List.take_of_length_le (by rw [tcells_len, ldr]; exact Nat.le_refl _)] at f3
    obtain ⟨c3a, c3c, hv3⟩ := rv3.val
    obtain ⟨w3, B5, s1, s2, s3, s4⟩ := q2.append (x := v3) (m := l.length - i) (new := tcells (l.drop i)) (bytes := 24) (by decide) rv3.lenA f3 (tcells_one _) (by rw [tcells_len, ldr]) (by omega) (by decide) (fun q => by rw [hv3] at q; cases q)
    have x95 : Ext NoB A9 B5 := x94.trans2 s3 fun b hb q => by have := own2 b q; omega
    have x55 := e59.trans x95
    have mB1 := x1.get m5' id
    have mB2 := x92.get m5' id
    have allL : (l.take i ++ [t] ++ l.drop i).length = i + 1 + (l.length - i) := by simp; omega
    have s2' : SliceAt B5 3 w3 (l.take i ++ [t] ++ l.drop i).length (tcells (l.take i ++ [t] ++ l.drop i)) := by
      rw [allL]
      have : tcells (l.take i ++ [t] ++ l.drop i) = tcells (l.take i) ++ t.cells ++ tcells (l.drop i) := by simp [tcells]
      rw [this]; exact s2
    refine wC_opsD_chk ?_
    simp [r5, r8, r9, hB1, a1B, p1, mB2, lay_turn, q1, b1' x54, s1]
    refine wE_intro ?_ ?_
    · simp only [List.all_cons, List.all_nil, chkOk, List.nil_append, List.cons_append, List.getElem?_cons_succ, List.getElem?_cons_zero]
      have bx1 := b1' x51
      have bx2 := b1' x52
      have bx3 := b1' (x52.trans x23)
      have bx4 := b1' x54
      simp [Bx, r5, r8, r9, mB1, mB2, bx1, bx2, bx3, bx4]
      have vt : vbeq.vbeqs 3 t.cells t.cells = true := by simp [Tn.cells, vbeq, vbeq.vbeqs]
      exact ⟨by simp [vbeq, vt], by rw [hv3]; simp [vbeq]⟩
    have t10 := x95.get m10 id
    have t14 := x95.get m14 id
    have a1E := (same (lo := none) (hi := some (.int .i64 (i : Int))) (mx := none) x55).trans a1
    have a2E : ReadAt B5 3 v1 (l.take i).length (tcells (l.take i)) := a2'.ext x55 fun _ _ => id
    have hE5 := hE2.extN (ex.trans x55)
    simp [r7, r8, r9, r10, t10, t14, eq_cells, a1E]
    refine check_ok B5 e v1 (l.take i) _ (by omega) a2E fun C1 ev y1 h1 => ?_
    rw [walk_good he good] at h1
    have h1' : ev = .nilIface := h1
    subst h1'
    have cut : l.take i ++ [t] ++ l.drop i = l.take i ++ (t :: l.drop i) := by simp
    have sC : SliceAt C1 3 w3 (l.take i ++ [t] ++ l.drop i).length (tcells (l.take i ++ [t] ++ l.drop i)) := s2'.ext y1 fun _ _ => id
    have hle : i + 1 ≤ (l.take i ++ [t] ++ l.drop i).length := by rw [allL]; omega
    obtain ⟨v5, u1, u2, u3⟩ := slice_to (k1 := .i64) sC (by decide) hle
    rw [tcells_take _ _ hle] at u2
    have tk : (l.take i ++ [t] ++ l.drop i).take (i + 1) = l.take i ++ [t] := by
      rw [List.take_append_of_le_length (by simp; omega), List.take_of_length_le (by simp; omega)]
    rw [tk] at u2
    have tkl : (l.take i ++ [t]).length = i + 1 := by simp; omega
    have u2' : ReadAt C1 3 v5 (l.take i ++ [t]).length (tcells (l.take i ++ [t])) := by rw [tkl]; exact u2
    have w2 := len40 (show i < 100000 by omega)
    have w2' : IntKind.i64.wrap ((i : Int) + 1) = (i : Int) + 1 := by rw [w2]; omega
    have u1' : sliceVA C1 3 w3 none (some (.int .i64 ((i : Int) + 1))) none = some v5 := by
      have := u1
      rwa [show ((i + 1 : Nat) : Int) = (i : Int) + 1 by omega] at this
    have fb1 : firstBad (ms0 e) (l.take i ++ (t :: l.drop i)) = if okT s t = true then (firstBad (nx s t) (l.drop i)).map (fun x => x + 1 + i) else some i := by
      rw [firstBad_append _ _ _ good, hS, lti]
      simp only [firstBad]
      split
      · simp [Option.map_map, Function.comp_def]
      · simp
    have fb2 : firstBad (ms0 e) (l.take i ++ [t]) = if okT s t = true then none else some i := by
      rw [firstBad_append _ _ _ good, hS, lti]
      simp only [firstBad]
      split <;> simp
    have wR : ∀ x : List Tn, walkR e x = match firstBad (ms0 e) x with | none => (endS (ms0 e) x, none) | some j => (ms0 e, some (15, (j : Int))) := fun x => by
      unfold walkR
      rw [if_neg (by omega)]
      cases firstBad (ms0 e) x <;> rfl
    have hEC := hE5.extN y1
    cases hok2 : okT s t with
    | false =>
      rw [hok2] at fb1 fb2
      simp [hok2, r7, r9]
      refine wrong_ok C1 e w3 (l.take i ++ [t] ++ l.drop i) i _ hEC (by omega) sC.read fun C2 y2 => ?_
      rw [cut, wR, fb1]
      have u1'' := (sliceVA_same (A' := C2) (lo := none) (hi := some (.int .i64 ((i : Int) + 1))) (mx := none) fun j hj => y2.keep j (sC.own_lt hj) id).trans u1'
      simp [r7, r9, w2', u1'']
      refine wrong_ok C2 e v5 (l.take i ++ [t]) i _ (hEC.extN y2) (by omega) (u2'.ext y2 fun _ _ => id) fun C3 y3 => ?_
      rw [wR, fb2]
      simp
    | true =>
      rw [hok2] at fb2
      simp [hok2, r7, r9, w2', u1']
      refine check_ok C1 e v5 (l.take i ++ [t]) _ (by omega) u2' fun C2 ev2 y2 h2 => ?_
      rw [wR, fb2] at h2
      have h2' : ev2 = .nilIface := h2
      subst h2'
      simp
end Go.Proofs.YtcfahggmejpdbaaDoor
