/- ModePaths: what it answers. -/
import Derived.Test.YtcfahggmejpdbaaDoorPa
import Derived.KernelRfl
namespace Go.Proofs.YtcfahggmejpdbaaDoor
open Go Go.AS
set_option maxRecDepth 100000
set_option linter.unusedSimpArgs false
set_option linter.unusedVariables false
attribute [local irreducible] Trie.set Trie.get Env.rd
attribute [local simp] Nat.add_assoc wD_cons'' wD_nil' wC_seq wC_ops wC_opsD_nil wC_cond wC_skip wC_ret wC_exit wC_block wO_cons' wO_nil wantedA wV_eq lop qop ev wL_some wL_none wPut envOf rd_set rd_leaf eqA thenC blockC wB_true wB_false endF unwindA resultsA resA tupleA rdCell rdCells wrCells cl fillP lay rep binA unA get_set' AHeap.get_alloc oneCell beqd bned idxA

attribute [local simp] MS.len MS.one MS.take MS.at0 MS.at1 MS.at2 MS.at7 MS.putEn MS.putMd MS.putSo MS.putU0 Tn.len Tn.one Tn.take Tn.at0 Tn.at1 Tn.at2 wr1 wr2 wr3 wr4
def ccells (f : Int → Int) : List Value := [.int .i64 (f 0), .int .i64 (f 1), .int .i64 (f 2), .int .i64 (f 3)]
theorem ccells_len (f : Int → Int) : (ccells f).length = 4 := rfl
theorem ccells_at (f : Int → Int) {p : Int} (h0 : 0 ≤ p) (h4 : p < 4) : (ccells f)[p.toNat]? = some (.int .i64 (f p)) := by rcases path4 h0 h4 with rfl | rfl | rfl | rfl <;> rfl
theorem ccells_nat (f : Int → Int) {p : Nat} (h4 : p < 4) : (ccells f)[p]? = some (.int .i64 (f p)) := ccells_at f (p := p) (by omega) (by omega)
theorem ccells_put (f : Int → Int) {p : Int} (x : Int) (h0 : 0 ≤ p) (h4 : p < 4) : (ccells f).set p.toNat (.int .i64 x) = ccells (upd f p x) := by rcases path4 h0 h4 with rfl | rfl | rfl | rfl <;> rfl
theorem wr0 : IntKind.i64.wrap 0 = 0 := by decide
theorem good_at {s : MS} {l : List Tn} (h : firstBad s l = none) {i : Nat} (hi : i < l.length) : okT (endS s (l.take i)) l[i] = true := by
  have cut : l = l.take i ++ (l[i] :: l.drop (i + 1)) := by rw [← List.drop_eq_getElem_cons hi, List.take_append_drop]
  have h1 : firstBad s (l.take i) = none := by
    cases hb : firstBad s (l.take i) with
    | none => rfl
    | some k =>
      rw [cut, firstBad_app_some _ _ _ hb] at h; cases h
  rw [cut, firstBad_append _ _ _ h1] at h
  simp only [firstBad, Option.map_eq_none_iff] at h
  split at h
  · rename_i q; exact q
  · cases h
theorem endS_take {s : MS} {l : List Tn} {i : Nat} (hi : i < l.length) : endS s (l.take (i + 1)) = nx (endS s (l.take i)) l[i] := by
  rw [List.take_add_one, List.getElem?_eq_getElem hi, endS_append]; rfl

def PaI (A0 : AHeap) (e : Int) (v : Value) (l : List Tn) (q5 q6 q7 : Nat) (m : Nat) (st : St) : Prop := ∃ (i : Nat) (n7 n8 n9 : Int → Int), i ≤ l.length ∧ m = l.length - i ∧ st.n = 181 ∧ st.dfs = [] ∧
  (st.env.rd 3 = .int .i64 e ∧ st.env.rd 4 = v ∧ st.env.rd 5 = .pointer (some ⟨q5, 0, none⟩) ∧ st.env.rd 6 = .pointer (some ⟨q6, 0, none⟩) ∧ st.env.rd 7 = .pointer (some ⟨q7, 0, none⟩) ∧ st.env.rd 8 = .int .i64 i) ∧
  (st.A.get q5 = some (.cells (ccells n7) false 0) ∧ st.A.get q6 = some (.cells (ccells n8) false 0) ∧ st.A.get q7 = some (.cells (ccells n9) false 0)) ∧ Ext NoB A0 st.A ∧ PInv e (endS (ms0 e) (l.take i)) n7 n8 n9
def PaJ (A1 : AHeap) (e : Int) (q5 q6 q7 q10 : Nat) (m : Nat) (st : St) : Prop := ∃ (p : Nat), p ≤ 4 ∧ m = 4 - p ∧ st.n = 181 ∧ st.dfs = [] ∧ st.A = A1 ∧
  (st.env.rd 3 = .int .i64 e ∧ st.env.rd 5 = .pointer (some ⟨q5, 0, none⟩) ∧ st.env.rd 6 = .pointer (some ⟨q6, 0, none⟩) ∧ st.env.rd 7 = .pointer (some ⟨q7, 0, none⟩) ∧ st.env.rd 10 = .pointer (some ⟨q10, 0, none⟩) ∧ st.env.rd 11 = .bool true ∧ st.env.rd 12 = .int .i64 p)

set_option maxHeartbeats 1600000 in
theorem paths_ok (A : AHeap) (d : Int) (bv : Value) (bl : List Int) (hE : EH A) (hd : 0 ≤ d ∧ d < 256) (hb : ∀ x ∈ bl, 0 ≤ x ∧ x < 256) (hbv : ReadAt A 1 bv bl.length (ucells bl)) :
    wF T (.func (.func 3) #[] #[]) [.agg ⟨[.int .u8 d, bv]⟩] A (fun v _ => v = .bool true) := by
  have he := (tmod2 d hd.1).2
  obtain ⟨ba, bc, rfl⟩ := hbv.val
  refine wF_func (first := []) (captured := []) t3 ⟨rfl, by decide⟩ ?_
  dsimp only [c3]
  simp
  have e1 : Ext NoB A (A.alloc (.cells [.int .u8 d, .slice ba bl.length bc] false 0)) := Ext.alloc
  refine works_ok _ _ (hE.extN e1) ?_
  simp
  generalize hA1 : A.alloc _ = A1 at e1
  clear hA1
  refine turns_ok A1 d _ bl _ hd hb (hbv.ext e1 fun _ _ => id) rfl fun A2 v l e2 hl hok hs ho => ?_
  have hE2 := (hE.extN e1).extN e2
  generalize d.tmod 2 = e at he hok
  obtain ⟨va, vc, rfl⟩ := hs.read.val
  have hr := hs.read
  clear e1 e2 hbv ho
  simp
  refine wC_loop_inv (PaI A2 e (.slice va l.length vc) l A2.size (A2.size + 1) (A2.size + 2)) ?_ l.length _ ⟨0, fun _ => 0, fun _ => 0, fun _ => 0, by omega, rfl, rfl, rfl, ⟨by simp, by simp, by simp, by simp, by simp, by simp⟩, ⟨by simp [ccells], by simp [ccells], by simp [ccells]⟩, (Ext.alloc.trans Ext.alloc).trans Ext.alloc, PInv.begin e⟩
  generalize hq5 : A2.size = q5
  have hq6 : A2.size + 1 = q5 + 1 := by rw [hq5]
  rintro m ⟨env, n, dfs, A3⟩ ⟨i, n7, n8, n9, hi, rfl, s1, s2, ⟨r3, r4, r5, r6, r7, r8⟩, ⟨g5, g6, g7⟩, ex, I⟩
  simp only at s1 s2 r3 r4 r5 r6 r7 r8 g5 g6 g7 ex
  subst s1; subst s2
  have l5 := AHeap.get_lt g5
  have l6 := AHeap.get_lt g6
  have l7 := AHeap.get_lt g7
  by_cases c : i < l.length
  · obtain ⟨d', o, cc, bs, ro, opn, y1, y2, y3, y4⟩ := (hr.ext ex fun _ _ => id).elem2 c
    have own : d' < A2.size := hs.own_lt ⟨o, _, _, y1⟩
    cases y1
    rw [tcells_at l i c] at y4
    have y3' : o + (i * 3 + 3) ≤ bs.length := by omega
    have ok := good_at hok c
    have hnx := endS_take (s := ms0 e) c
    obtain ⟨⟨⟨c0, c1⟩, p0, p4⟩, tm, _⟩ := (okT_in _ _).1 ok
    have d0 : bs[o + i * 3]? = some (.int .i64 (l[i]).c) := by
      have h := congrArg (fun z => z[0]?) y4
      simpa [Tn.cells] using h
    have d1 : bs[o + (i * 3 + 1)]? = some (.int .i64 (l[i]).p) := by
      have h := congrArg (fun z => z[1]?) y4
      simpa [Tn.cells, Nat.add_assoc] using h
    have w2 := len40 (show i < 100000 by omega)
    have pt : (l[i]).p.toNat + 1 ≤ 4 := by omega
    by_cases h7 : (l[i]).c = 7
    · obtain ⟨I', z7, z8, z9, ee, pp⟩ := I.begun ok h7
      rw [z7] at I'
      simp [r3, r4, r5, r6, r7, r8, c, y2, d0, d1, h7, show ¬ (l[i]).p < 0 by omega, show ¬ 4 ≤ (l[i]).p by omega, p0, p4, g5, g6, g7, ccells_at, ccells_len, ccells_put, pt, z7, z8, z9, show ¬ e = 1 by omega, show ¬ (l[i]).p = 0 by omega, l5, wr0]
      refine ⟨l.length - (i + 1), by omega, i + 1, _, n8, n9, by omega, rfl, rfl, rfl, ⟨by simp [r3], by simp [r4], by simp [r5], by simp [r6], by simp [r7], by simpa using w2⟩, ⟨?_, by simp [g6], by simp [g7]⟩, ex.trans2 (S' := fun b => b = q5) (Ext.set rfl) (fun b hb q => by omega), by rw [hnx]; exact I'⟩
      simp [l5]
    · by_cases h8 : (l[i]).c = 8
      · obtain ⟨I', z8, z9, pp, ee⟩ := I.ups ok h8
        rw [z8] at I'
        rcases he with e0 | e0
        · have z7 := ee e0
          simp [r3, r4, r5, r6, r7, r8, c, y2, d0, d1, h8, show ¬ (l[i]).p < 0 by omega, show ¬ 4 ≤ (l[i]).p by omega, p0, p4, g5, g6, g7, ccells_at, ccells_len, ccells_put, pt, z7, z8, z9, show decide (e = 0) = true by simp [e0], show ¬ (l[i]).p = 0 by omega, l6, wr0]
          refine ⟨l.length - (i + 1), by omega, i + 1, n7, _, n9, by omega, rfl, rfl, rfl, ⟨by simp [r3], by simp [r4], by simp [r5], by simp [r6], by simp [r7], by simpa using w2⟩, ⟨by simp [g5], ?_, by simp [g7]⟩, ex.trans2 (S' := fun b => b = q5 + 1) (Ext.set rfl) (fun b hb q => by omega), by rw [hnx]; exact I'⟩
          simp [l6]
        · simp [r3, r4, r5, r6, r7, r8, c, y2, d0, d1, h8, show ¬ (l[i]).p < 0 by omega, show ¬ 4 ≤ (l[i]).p by omega, p0, p4, g5, g6, g7, ccells_at, ccells_len, ccells_put, pt, z8, z9, show ¬ e = 0 by omega, show ¬ (l[i]).p = 0 by omega, l6, wr0, undef]
          refine ⟨l.length - (i + 1), by omega, i + 1, n7, _, n9, by omega, rfl, rfl, rfl, ⟨by simp [r3], by simp [r4], by simp [r5], by simp [r6], by simp [r7], by simpa using w2⟩, ⟨by simp [g5], ?_, by simp [g7]⟩, ex.trans2 (S' := fun b => b = q5 + 1) (Ext.set rfl) (fun b hb q => by omega), by rw [hnx]; exact I'⟩
          simp [l6]
      · by_cases h9 : (l[i]).c = 9
        · obtain ⟨I', z9, z8⟩ := I.downs ok h9
          rw [z9] at I'
          by_cases pp : 0 < (l[i]).p
          · simp [r3, r4, r5, r6, r7, r8, c, y2, d0, d1, h9, show ¬ (l[i]).p < 0 by omega, show ¬ 4 ≤ (l[i]).p by omega, p0, p4, g5, g6, g7, ccells_at, ccells_len, ccells_put, pt, z8 pp, z9, pp, l7, wr0]
            refine ⟨l.length - (i + 1), by omega, i + 1, n7, n8, _, by omega, rfl, rfl, rfl, ⟨by simp [r3], by simp [r4], by simp [r5], by simp [r6], by simp [r7], by simpa using w2⟩, ⟨by simp [g5], by simp [g6], ?_⟩, ex.trans2 (S' := fun b => b = q5 + 2) (Ext.set rfl) (fun b hb q => by omega), by rw [hnx]; exact I'⟩
            simp [l7]
          · simp [r3, r4, r5, r6, r7, r8, c, y2, d0, d1, h9, show ¬ (l[i]).p < 0 by omega, show ¬ 4 ≤ (l[i]).p by omega, p0, p4, g5, g6, g7, ccells_at, ccells_len, ccells_put, pt, z9, pp, l7, wr0, undef]
            refine ⟨l.length - (i + 1), by omega, i + 1, n7, n8, _, by omega, rfl, rfl, rfl, ⟨by simp [r3], by simp [r4], by simp [r5], by simp [r6], by simp [r7], by simpa using w2⟩, ⟨by simp [g5], by simp [g6], ?_⟩, ex.trans2 (S' := fun b => b = q5 + 2) (Ext.set rfl) (fun b hb q => by omega), by rw [hnx]; exact I'⟩
            simp [l7]
        · have I' : PInv e (nx (endS (ms0 e) (l.take i)) l[i]) n7 n8 n9 := by
            by_cases h5 : (l[i]).c = 5
            · exact I.sure ok h5
            · exact I.other ok h5 h7 h8 h9
          simp [r3, r4, r5, r6, r7, r8, c, y2, d0, d1, h7, h8, h9, show ¬ (l[i]).p < 0 by omega, show ¬ 4 ≤ (l[i]).p by omega]
          exact ⟨l.length - (i + 1), by omega, i + 1, n7, n8, n9, by omega, rfl, rfl, rfl, ⟨by simp [r3], by simp [r4], by simp [r5], by simp [r6], by simp [r7], by simpa using w2⟩, ⟨g5, g6, g7⟩, ex, by rw [hnx]; exact I'⟩
  · have hil : i = l.length := by omega
    rw [hil, List.take_of_length_le (Nat.le_refl _)] at I
    simp [r3, r4, r8, c]
    refine last_ok A3 e _ l _ (hE2.extN ex) (by omega) (hr.ext ex fun _ _ => id) fun A4 e4 => ?_
    rw [walk_good he hok]
    simp [lay_whole]
    generalize endS (ms0 e) l = s at I
    generalize hA5 : AHeap.set (AHeap.alloc A4 _) A4.size _ = A5
    have e5 : Ext NoB A4 A5 := by rw [← hA5]; exact ⟨by simp, fun b hb _ => by simp [show b ≠ A4.size by omega]⟩
    have g10 : A5.get A4.size = some (.cells s.cells false 0) := by rw [← hA5]; simp
    clear hA5
    have k5 := e5.get (e4.get g5 id) id
    have k6 := e5.get (e4.get g6 id) id
    have k7 := e5.get (e4.get g7 id) id
    generalize A4.size = q10 at g10
    refine wC_loop_inv (PaJ A5 e q5 (q5 + 1) (q5 + 2) q10) ?_ 4 _ ⟨0, by omega, rfl, rfl, rfl, rfl, ⟨by simp [r3], by simp [r5], by simp [r6], by simp [r7], by simp, by simp, by simp⟩⟩
    clear r3 r4 r5 r6 r7 r8
    rintro m ⟨env, n, dfs, A6⟩ ⟨p, hp, rfl, s1, s2, s3, ⟨r3, r5, r6, r7, r10, r11, r12⟩⟩
    simp only at s1 s2 s3 r3 r5 r6 r7 r10 r11 r12
    subst s1; subst s2; subst s3
    by_cases cp : p < 4
    · have h0 : (0 : Int) ≤ p := by omega
      have h4 : (p : Int) < 4 := by omega
      obtain ⟨⟨a1, a2⟩, ⟨a3, a4⟩, a5, a6⟩ := I.cnt p h0 h4
      have hpre : s.pre p = decide (n7 p = 1) := by rw [Bool.eq_iff_iff, I.pre p h0 h4]; simp
      have hgone : s.gone p = decide (n9 p = 1) := by rw [Bool.eq_iff_iff, I.gone p h0 h4]; simp
      have pn : (p : Int).toNat = p := by omega
      have aPre := MS.atPre s h0 h4
      have aUp := MS.atUp s h0 h4
      have aGone := MS.atGone s h0 h4
      rw [pn] at aPre aUp aGone
      have w2 := len40 (show p < 100000 by omega)
      have done : ∃ m', m' < 4 - p ∧ PaJ A6 e q5 (q5 + 1) (q5 + 2) q10 m' { env := env, n := 181, dfs := [], A := A6 } ∨ True := ⟨0, .inr trivial⟩
      have n7c : n7 p = 0 ∨ n7 p = 1 := by omega
      have n8c : n8 p = 0 ∨ n8 p = 1 := by omega
      have n9c : n9 p = 0 ∨ n9 p = 1 := by omega
      have hupp : ¬ p = 0 → s.up p = (decide (n8 p = 1) && decide (n9 p = 0)) := fun hz => by
        rw [Bool.eq_iff_iff, (I.up p (by omega) h4).1]; simp
      by_cases hz : p = 0
      · rcases n7c with z7 | z7 <;> rcases n8c with z8 | z8 <;> rcases n9c with z9 | z9 <;>
        · simp [r3, r5, r6, r7, r10, r11, r12, h0, h4, k5, k6, k7, g10, ccells_nat, cp, z7, z8, z9, hpre, hgone, aPre, aUp, aGone, show ¬ 0 < p by omega, undef]
          exact ⟨4 - (p + 1), by omega, p + 1, by omega, rfl, rfl, rfl, rfl, ⟨by simp [r3], by simp [r5], by simp [r6], by simp [r7], by simp [r10], by simp [r11], by simpa using w2⟩⟩
      · have hup := hupp hz
        rcases n7c with z7 | z7 <;> rcases n8c with z8 | z8 <;> rcases n9c with z9 | z9 <;>
        · simp [r3, r5, r6, r7, r10, r11, r12, h0, h4, k5, k6, k7, g10, ccells_nat, cp, z7, z8, z9, hpre, hgone, aPre, aUp, aGone, hup, show 0 < p by omega, undef]
          exact ⟨4 - (p + 1), by omega, p + 1, by omega, rfl, rfl, rfl, rfl, ⟨by simp [r3], by simp [r5], by simp [r6], by simp [r7], by simp [r10], by simp [r11], by simpa using w2⟩⟩
    · have : p = 4 := by omega
      subst this
      have ien := I.en
      simp [r3, r10, r11, r12, g10]
      exact ien
end Go.Proofs.YtcfahggmejpdbaaDoor
