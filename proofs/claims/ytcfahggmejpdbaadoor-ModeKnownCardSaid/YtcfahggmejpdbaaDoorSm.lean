/- Draft.Turns. -/
import Derived.Test.YtcfahggmejpdbaaDoorSl
import Derived.Test.YtcfahggmejpdbaaDoorKc
import Derived.KernelRfl
namespace Go.Proofs.YtcfahggmejpdbaaDoor
open Go Go.AS
set_option maxRecDepth 100000
set_option linter.unusedSimpArgs false
set_option linter.unusedVariables false
attribute [local irreducible] Trie.set Trie.get Env.rd
attribute [local simp] Nat.add_assoc wD_cons'' wD_nil' wC_seq wC_ops wC_opsD_nil wC_cond wC_skip wC_ret wC_exit wC_block wO_cons' wO_nil wantedA wV_eq lop qop ev wL_some wL_none wPut envOf rd_set rd_leaf eqA thenC blockC wB_true wB_false endF unwindA resultsA resA tupleA rdCell rdCells wrCells cl fillP lay rep binA unA get_set' AHeap.get_alloc oneCell beqd bned idxA

attribute [local simp] MS.len MS.one MS.take MS.at0 MS.at1 MS.at2 MS.at7 MS.putEn MS.putMd MS.putSo MS.putU0 Tn.len Tn.one Tn.take Tn.at0 Tn.at1 Tn.at2
def ucells (l : List Int) : List Value := l.map fun x => .int .u8 x
/-- What the loop of Turns keeps. -/
structure TuF (A0 : AHeap) (q q5 : Nat) (d e : Int) (bv : Value) (l : List Tn) (v : Value) (A : AHeap) : Prop where
  gq : A.get q = some (.cells [.int .u8 d, bv] false 0)
  g5 : A.get q5 = some (.cells (endS (ms0 e) l).cells false 0)
  ok : firstBad (ms0 e) l = none
  sl : SliceAt A 3 v l.length (tcells l)
  own : ∀ j, Own v j → A0.size ≤ j ∧ j ≠ q ∧ j ≠ q5
  ex : Ext NoB A0 A
  ne : q ≠ q5
  lq : A0.size ≤ q
  l5 : A0.size ≤ q5
theorem TuF.extN {A0 : AHeap} {q q5 : Nat} {d e : Int} {bv : Value} {l : List Tn} {v : Value} {A A' : AHeap} (h : TuF A0 q q5 d e bv l v A) (x : Ext NoB A A') : TuF A0 q q5 d e bv l v A' :=
  ⟨x.get h.gq id, x.get h.g5 id, h.ok, h.sl.ext x fun _ _ => id, h.own, h.ex.trans x, h.ne, h.lq, h.l5⟩

theorem turns_tail (A0 A : AHeap) (q q5 q9 : Nat) (d e : Int) (bv : Value) (l : List Tn) (v : Value) (u : Tn) (i : Nat) (env : Env) (Q : AExit → St → Prop) (h : TuF A0 q q5 d e bv l v A) (hu : okT (endS (ms0 e) l) u = true) (hll : l.length ≤ 40)
    (r1 : env.rd 1 = .pointer (some ⟨q, 0, none⟩)) (r4 : env.rd 4 = .int .i64 e) (r5 : env.rd 5 = .pointer (some ⟨q5, 0, none⟩)) (r6 : env.rd 6 = v) (r7 : env.rd 7 = .int .i64 i) (r9 : env.rd 9 = .pointer (some ⟨q9, 0, none⟩)) (g9 : A.get q9 = some (.cells u.cells false 0)) (h9 : q9 ≠ q5)
    (hq : ∀ env' A' v', TuF A0 q q5 d e bv (l ++ [u]) v' A' → env'.rd 1 = .pointer (some ⟨q, 0, none⟩) → env'.rd 4 = .int .i64 e → env'.rd 5 = .pointer (some ⟨q5, 0, none⟩) → env'.rd 6 = v' → env'.rd 7 = .int .i64 i → Q .normal { env := env', n := 73, dfs := [], A := A' }) :
    wC T 10 none d10t { env := env, n := 73, dfs := [], A := A } Q := by
  unfold d10t
  have g5 := h.g5
  simp [r5, r9, g5, g9]
  refine rnext_ok A _ u _ fun A1 e1 => ?_
  have h1 := h.extN e1
  have k5 := h1.g5
  have l5 := AHeap.get_lt k5
  have k9 := e1.get g9 id
  have l9 := AHeap.get_lt k9
  have nb : firstBad (ms0 e) (l ++ [u]) = none := by
    rw [firstBad_append _ _ _ h.ok]
    simp [firstBad, hu]
  simp [r5, k5, l5, r6, r9, k9, lay_ms, h9]
  generalize hA2 : AHeap.set A1 q5 _ = A2
  have e2 : Ext (fun b => b = q5) A1 A2 := by rw [← hA2]; exact Ext.set rfl
  have m5 : A2.get q5 = some (.cells (endS (ms0 e) (l ++ [u])).cells false 0) := by rw [← hA2, endS_append]; simp [l5, endS]
  have z21 : A2.size = A1.size := by rw [← hA2]; rfl
  clear hA2
  have mq := e2.get h1.gq h.ne
  have m9 := e2.get k9 h9
  have ms := h1.sl.ext e2 fun j hj q => (h.own j hj).2.2 q
  have e3 : Ext NoB A2 (A2.alloc (.cells u.cells false 0)) := Ext.alloc
  obtain ⟨v', A4, a1, a2, a3, a4⟩ := (ms.ext e3 fun _ _ => id).append (x := .slice (some ⟨A2.size, 0, none⟩) 1 1) (m := 1) (new := u.cells) (bytes := 24) (by decide) rfl (by simp [firstA, ENDCAP]) rfl rfl (by omega) (by decide) (fun q => by cases q)
  rw [z21] at a1
  simp [lay_turn, a1]
  have z2 := e2.size
  have z3 := e3.size
  have z1 := e1.size
  have z0 := h.ex.size
  have e24 : Ext (Own v) A2 A4 := (e3.mono fun _ _ q => q.elim).trans a3
  refine hq _ A4 v' ⟨e24.get mq fun q => (h.own _ q).2.1 rfl, e24.get m5 fun q => (h.own _ q).2.2 rfl, nb, ?_, fun j hj => ?_, ?_, h.ne, h.lq, h.l5⟩ ?_ ?_ ?_ ?_ ?_
  · rw [tcells_snoc, List.length_append]; exact a2
  · rcases a4 j hj with q | q
    · exact h.own j q
    · have := AHeap.get_lt mq; have := AHeap.get_lt m5; omega
  · exact ((h.ex.trans e1).trans2 e2 fun b hb q => by have := h.l5; omega).trans2 e24 fun b hb q => by have := (h.own b q).1; omega
  · simp [r1]
  · simp [r4]
  · simp [r5]
  · simp
  · simp [r7]

theorem len40 {x : Nat} (h : x < 100000) : IntKind.i64.wrap ((x : Int) + 1) = ((x + 1 : Nat) : Int) := IntWalk.i64_in _ (by omega)
theorem tmod2 (d : Int) (h : 0 ≤ d) : IntKind.i64.wrap (d.tmod 2) = d.tmod 2 ∧ (d.tmod 2 = 0 ∨ d.tmod 2 = 1) := by
  have h1 := Int.tmod_nonneg (b := 2) h
  have h2 := Int.tmod_lt_of_pos d (show (0 : Int) < 2 by decide)
  exact ⟨IntWalk.i64_in _ (by omega), by omega⟩
/-- The loop of Turns. -/
def TuI (A0 : AHeap) (q q5 : Nat) (d e : Int) (bv : Value) (m : Nat) (st : St) : Prop := ∃ (i : Nat) (l : List Tn) (v : Value), i ≤ 40 ∧ m = 40 - i ∧ l.length = i ∧ st.n = 73 ∧ st.dfs = [] ∧
  st.env.rd 1 = .pointer (some ⟨q, 0, none⟩) ∧ st.env.rd 4 = .int .i64 e ∧ st.env.rd 5 = .pointer (some ⟨q5, 0, none⟩) ∧ st.env.rd 6 = v ∧ st.env.rd 7 = .int .i64 i ∧ TuF A0 q q5 d e bv l v st.A
theorem turns_ok (A : AHeap) (d : Int) (bv : Value) (bl : List Int) (Q : Value → AHeap → Prop) (hd : 0 ≤ d ∧ d < 256) (hb : ∀ x ∈ bl, 0 ≤ x ∧ x < 256) (hbv : ReadAt A 1 bv bl.length (ucells bl)) (h1v : (AS.cl bv) = [bv])
    (hq : ∀ A' v l, Ext NoB A A' → l.length ≤ 40 → firstBad (ms0 (d.tmod 2)) l = none → SliceAt A' 3 v l.length (tcells l) → (∀ j, Own v j → A.size ≤ j) → Q (.tuple ⟨[.int .i64 (d.tmod 2), v]⟩) A') : wF T (.func (.func 10) #[] #[]) [.agg ⟨[.int .u8 d, bv]⟩] A Q := by
  obtain ⟨he, hee⟩ := tmod2 d hd.1
  generalize hE : d.tmod 2 = e at he hee hq
  obtain ⟨ba, bc, rfl⟩ := hbv.val
  refine wF_func (first := []) (captured := []) u10 ⟨rfl, by decide⟩ ?_
  dsimp only [d10]
  simp [hE, he]
  generalize hA1 : A.alloc _ = A1
  have e1 : Ext NoB A A1 := by rw [← hA1]; exact Ext.alloc
  have g1 : A1.get A.size = some (.cells [.int .u8 d, .slice ba bl.length bc] false 0) := by rw [← hA1]; simp
  clear hA1
  refine rbegin_ok A1 e _ fun A2 e2 => ?_
  have g2 := e2.get g1 id
  have l2 := AHeap.get_lt g2
  simp [lay_whole]
  generalize hA3 : AHeap.set _ A2.size _ = A3
  have e3 : Ext NoB A2 A3 := by rw [← hA3]; exact ⟨by simp, fun b hb _ => by simp [show b ≠ A2.size by omega]⟩
  have g3 := e3.get g2 id
  have g5 : A3.get A2.size = some (.cells (ms0 e).cells false 0) := by rw [← hA3]; simp
  clear hA3
  refine wC_loop_inv (TuI A A.size A2.size d e (.slice ba bl.length bc)) ?_ 40 _ ⟨0, [], .slice none 0 0, by omega, rfl, rfl, rfl, rfl, by simp, by simp, by simp, by simp, by simp, ⟨g3, g5, rfl, SliceAt.nil, (fun j ⟨_, _, _, q⟩ => by cases q), (e1.trans e2).trans e3, by omega, Nat.le_refl _, by omega⟩⟩
  generalize A2.size = q5
  generalize A.size = q
  clear g3 g5 g2 g1 l2 e1 e2 e3
  rintro m ⟨env, n, dfs, A4⟩ ⟨i, l, v, hi, rfl, hli, s1, s2, r1, r4, r5, r6, r7, F⟩
  simp only at s1 s2 r1 r4 r5 r6 r7 F
  subst s1; subst s2
  have gq := F.gq
  have g5 := F.g5
  have lq := AHeap.get_lt gq
  have l5 := AHeap.get_lt g5
  by_cases c1 : i < bl.length
  · by_cases c2 : i < 40
    · simp [r1, r7, gq, c1, show (i : Int) < 40 by omega, r5, g5]
      refine choices_ok A4 _ _ fun A5 v2 l2 e5 hl2 hok2 hs2 ho2 => ?_
      have F5 := F.extN e5
      have gq5 := F5.gq
      obtain ⟨sa, sc, rfl⟩ := hs2.read.val
      by_cases c3 : l2.length = 0
      · simp [c3, r4, r6]
        exact hq A5 v l F5.ex (by omega) F.ok F5.sl fun j hj => (F.own j hj).1
      · obtain ⟨bd, bo, bcc, bbs, bro, bopn, y1, y2, y3⟩ := (hbv.ext F5.ex fun _ _ => id).cell c1
        cases y1
        have hx := hb bl[i] (List.getElem_mem c1)
        have y3' : bbs[bo + i]? = some (.int .u8 bl[i]) := by rw [y3, ucells, List.getElem?_map, List.getElem?_eq_getElem c1]; rfl
        have wx : IntKind.i64.wrap bl[i] = bl[i] := IntWalk.i64_in _ (by omega)
        have j1 := Int.tmod_nonneg (b := (l2.length : Int)) hx.1
        have j2 := Int.tmod_lt_of_pos bl[i] (show (0 : Int) < (l2.length : Int) by omega)
        obtain ⟨j, hj⟩ : ∃ j : Nat, bl[i].tmod (l2.length : Int) = j := ⟨_, (Int.toNat_of_nonneg j1).symm⟩
        rw [hj] at j2
        have hj2 : j < l2.length := by omega
        obtain ⟨d2, o2, cc2, bs2, ro2, opn2, x1, x2, x3, x4⟩ := hs2.read.elem2 hj2
        cases x1
        rw [tcells_at l2 j hj2] at x4
        have x3' : o2 + (j * 3 + 3) ≤ bs2.length := by omega
        obtain ⟨d3, o3, cc3, bs3, ro3, opn3, u1, u2, u3, u4⟩ := hs2.read.elem2 (i := 0) (by omega)
        cases u1
        rw [x2] at u2
        cases u2
        rw [tcells_at l2 0 (by omega)] at u4
        simp at u4
        have u3' : o2 + 3 ≤ bs2.length := by omega
        have lb := AHeap.get_lt y2
        have l2' := AHeap.get_lt x2
        have lq5 := AHeap.get_lt gq5
        have w2 := len40 (show i < 100000 by omega)
        have back : ∀ (u : Tn) (A6 : AHeap) (env' : Env), okT (endS (ms0 e) l) u = true → Ext NoB A5 A6 → A6.get A5.size = some (.cells u.cells false 0) → env'.rd 1 = .pointer (some ⟨q, 0, none⟩) → env'.rd 4 = .int .i64 e → env'.rd 5 = .pointer (some ⟨q5, 0, none⟩) → env'.rd 6 = v → env'.rd 7 = .int .i64 i → env'.rd 9 = .pointer (some ⟨A5.size, 0, none⟩) →
            ∀ K : AExit → St → Prop, (∀ env'' A' v', TuF A q q5 d e (.slice (some ⟨bd, bo, none⟩) bl.length bc) (l ++ [u]) v' A' → env''.rd 1 = .pointer (some ⟨q, 0, none⟩) → env''.rd 4 = .int .i64 e → env''.rd 5 = .pointer (some ⟨q5, 0, none⟩) → env''.rd 6 = v' → env''.rd 7 = .int .i64 i → K .normal { env := env'', n := 73, dfs := [], A := A' }) → wC T 10 none d10t { env := env', n := 73, dfs := [], A := A6 } K := by
          intro u A6 env' hu e6 g9 s1 s4 s5 s6 s7 s9 K hK
          have := AHeap.get_lt F5.g5
          exact turns_tail A A6 q q5 A5.size d e _ l v u i env' K (F5.extN e6) hu (by omega) s1 s4 s5 s6 s7 s9 g9 (by omega) hK
        have e6 : ∀ x : ABlk, Ext NoB A5 ((A5.alloc x).set A5.size (.cells (l2[j]).cells false 0)) := fun x => ⟨by simp, fun b hb _ => by simp [show b ≠ A5.size by omega]⟩
        have e7 : ∀ x y : ABlk, Ext NoB A5 (((A5.alloc x).set A5.size y).set A5.size (.cells (l2[0]).cells false 0)) := fun x y => ⟨by simp, fun b hb _ => by simp [show b ≠ A5.size by omega]⟩
        by_cases c4 : 4 ≤ (l2[j]).m
        · by_cases c5 : 0 < (bl[i]).tmod 4
          · simp [c3, r1, r4, r5, r6, r7, gq5, c1, y2, y3', wx, hj, hj2, x2, x3', x4, lay_turn, show q ≠ A5.size by omega, show bd ≠ A5.size by omega, show d2 ≠ A5.size by omega, show 0 < l2.length by omega, u3', u4, lay_tt, undef, c4, c5]
            refine back l2[0] _ _ (hok2 _ (List.getElem_mem _)) ?_ ?_ ?_ ?_ ?_ ?_ ?_ ?_ _ ?_
            · exact e7 _ _
            · simp
            · simp [r1]
            · simp [r4]
            · simp [r5]
            · simp [r6]
            · simp [r7]
            · simp
            · intro env'' A' v' F' t1 t4 t5 t6 t7
              simp [t7]
              exact ⟨40 - (i + 1), by omega, i + 1, l ++ [l2[0]], v', by omega, rfl, by simp; omega, rfl, rfl, by simp [t1], by simp [t4], by simp [t5], by simp [t6], by simpa using w2, F'⟩
          · simp [c3, r1, r4, r5, r6, r7, gq5, c1, y2, y3', wx, hj, hj2, x2, x3', x4, lay_turn, show q ≠ A5.size by omega, show bd ≠ A5.size by omega, show d2 ≠ A5.size by omega, show 0 < l2.length by omega, u3', u4, lay_tt, undef, c4, c5]
            refine back l2[j] _ _ (hok2 _ (List.getElem_mem _)) ?_ ?_ ?_ ?_ ?_ ?_ ?_ ?_ _ ?_
            · exact e6 _
            · simp
            · simp [r1]
            · simp [r4]
            · simp [r5]
            · simp [r6]
            · simp [r7]
            · simp
            · intro env'' A' v' F' t1 t4 t5 t6 t7
              simp [t7]
              exact ⟨40 - (i + 1), by omega, i + 1, l ++ [l2[j]], v', by omega, rfl, by simp; omega, rfl, rfl, by simp [t1], by simp [t4], by simp [t5], by simp [t6], by simpa using w2, F'⟩
        · simp [c3, r1, r4, r5, r6, r7, gq5, c1, y2, y3', wx, hj, hj2, x2, x3', x4, lay_turn, show q ≠ A5.size by omega, show bd ≠ A5.size by omega, show d2 ≠ A5.size by omega, show 0 < l2.length by omega, u3', u4, lay_tt, undef, c4]
          refine back l2[j] _ _ (hok2 _ (List.getElem_mem _)) ?_ ?_ ?_ ?_ ?_ ?_ ?_ ?_ _ ?_
          · exact e6 _
          · simp
          · simp [r1]
          · simp [r4]
          · simp [r5]
          · simp [r6]
          · simp [r7]
          · simp
          · intro env'' A' v' F' t1 t4 t5 t6 t7
            simp [t7]
            exact ⟨40 - (i + 1), by omega, i + 1, l ++ [l2[j]], v', by omega, rfl, by simp; omega, rfl, rfl, by simp [t1], by simp [t4], by simp [t5], by simp [t6], by simpa using w2, F'⟩
    · simp [r1, r4, r6, r7, gq, c1, show ¬ (i : Int) < 40 by omega]
      exact hq A4 v l F.ex (by omega) F.ok F.sl fun j hj => (F.own j hj).1
  · simp [r1, r4, r6, r7, gq, c1]
    exact hq A4 v l F.ex (by omega) F.ok F.sl fun j hj => (F.own j hj).1
end Go.Proofs.YtcfahggmejpdbaaDoor
