/- ModeFalls: what it answers. -/
import Derived.Test.YtcfahggmejpdbaaDoorPc
import Derived.Test.YtcfahggmejpdbaaDoorLb
import Derived.KernelRfl
namespace Go.Proofs.YtcfahggmejpdbaaDoor
open Go Go.AS
set_option maxRecDepth 100000
set_option linter.unusedSimpArgs false
set_option linter.unusedVariables false
attribute [local irreducible] Trie.set Trie.get Env.rd
attribute [local simp] Nat.add_assoc wD_cons'' wD_nil' wC_seq wC_ops wC_opsD_nil wC_cond wC_skip wC_ret wC_exit wC_block wO_cons' wO_nil wantedA wV_eq lop qop ev wL_some wL_none wPut envOf rd_set rd_leaf eqA thenC blockC wB_true wB_false endF unwindA resultsA resA tupleA rdCell rdCells wrCells cl fillP lay rep binA unA get_set' AHeap.get_alloc oneCell beqd bned idxA

attribute [local simp] MS.len MS.one MS.take MS.at0 MS.at1 MS.at2 MS.at7 MS.putEn MS.putMd MS.putSo MS.putU0 Tn.len Tn.one Tn.take Tn.at0 Tn.at1 Tn.at2 wr1 wr2 wr3 wr4
theorem lenI {x : Int} (h : 0 ≤ x ∧ x < 1000000) : IntKind.i64.wrap (x + 1) = x + 1 := IntWalk.i64_in _ (by omega)
def OnI (v : Value) (l : List Tn) (A : AHeap) (e : Int) (m : Nat) (st : St) : Prop := ∃ (i : Nat) (falls joined down first : Int), i ≤ l.length ∧ m = l.length - i ∧ st.n = 79 ∧ st.dfs = [] ∧ st.A = A ∧
  (st.env.rd 0 = v ∧ st.env.rd 3 = .int .i64 falls ∧ st.env.rd 4 = .int .i64 joined ∧ st.env.rd 5 = .int .i64 down ∧ st.env.rd 6 = .int .i64 first ∧ st.env.rd 7 = .int .i64 i) ∧ FInv (endS (ms0 e) (l.take i)) (l.take i) falls joined down first

set_option maxHeartbeats 1600000 in
theorem once_ok (A : AHeap) (e : Int) (v : Value) (l : List Tn) (Q : Value → AHeap → Prop) (hl : l.length < 100000) (hr : ReadAt A 3 v l.length (tcells l)) (hok : firstBad (ms0 e) l = none) (hq : ∀ A', Ext NoB A A' → Q (.bool true) A') :
    wF T (.func (.func 23) #[] #[]) [v] A Q := by
  obtain ⟨va, vc, rfl⟩ := hr.val
  refine wF_func (first := []) (captured := []) t23 ⟨rfl, by decide⟩ ?_
  dsimp only [c23]
  simp
  refine wC_loop_inv (OnI (.slice va l.length vc) l A e) ?_ l.length _ ⟨0, 0, 0, 0, -1, by omega, rfl, rfl, rfl, rfl, ⟨by simp, by simp, by simp, by simp, by simp, by simp⟩, FInv.begin e⟩
  rintro m ⟨env, n, dfs, A3⟩ ⟨i, falls, joined, down, first, hi, rfl, s1, s2, s3, ⟨r0, r3, r4, r5, r6, r7⟩, I⟩
  simp only at s1 s2 s3 r0 r3 r4 r5 r6 r7
  subst s1; subst s2; subst s3
  by_cases c : i < l.length
  · obtain ⟨d', o, cc, bs, ro, opn, y1, y2, y3, y4⟩ := hr.elem2 c
    cases y1
    rw [tcells_at l i c] at y4
    have y3' : o + (i * 3 + 3) ≤ bs.length := by omega
    have ok := good_at hok c
    have hnx := endS_take (s := ms0 e) c
    have htk : l.take (i + 1) = l.take i ++ [l[i]] := by rw [List.take_add_one, List.getElem?_eq_getElem c]; rfl
    have hli : ((l.take i).length : Int) = i := by rw [List.length_take]; omega
    have d0 : bs[o + i * 3]? = some (.int .i64 (l[i]).c) := by
      have h := congrArg (fun z => z[0]?) y4
      simpa [Tn.cells] using h
    have d2 : bs[o + (i * 3 + 2)]? = some (.int .i64 (l[i]).m) := by
      have h := congrArg (fun z => z[2]?) y4
      simpa [Tn.cells, Nat.add_assoc] using h
    have w2 := len40 (show i < 100000 by omega)
    have nn := I.nn
    rw [hli] at nn
    have wj := lenI (x := joined) (by omega)
    have wd := lenI (x := down) (by omega)
    simp [r0, r3, r4, r5, r6, r7, c, y2, d0]
    refine fallen_ok _ _ _ ?_
    cases hf : fallenB (l[i]).c with
    | true =>
      obtain ⟨I', f0, tm, sol⟩ := I.fall ok hf
      rw [hli] at I'
      by_cases h10 : 10 ≤ (l[i]).c
      · obtain ⟨j0, d0'⟩ := sol h10
        simp [r0, r3, r4, r5, r6, r7, c, y2, d2, f0, h10, j0, d0', tm, wr0]
        exact ⟨l.length - (i + 1), by omega, i + 1, 1, joined, down, i, by omega, rfl, rfl, rfl, rfl, ⟨by simp [r0], by simp, by simp [r4], by simp [r5], by simp, by simpa using w2⟩, by rw [hnx, htk]; exact I'⟩
      · simp [r0, r3, r4, r5, r6, r7, c, y2, d2, f0, h10, tm, undef]
        exact ⟨l.length - (i + 1), by omega, i + 1, 1, joined, down, i, by omega, rfl, rfl, rfl, rfl, ⟨by simp [r0], by simp, by simp [r4], by simp [r5], by simp, by simpa using w2⟩, by rw [hnx, htk]; exact I'⟩
    | false =>
      by_cases h7 : (l[i]).c = 7
      · obtain ⟨I', f0⟩ := I.join ok (.inl h7)
        simp [r0, r3, r4, r5, r6, r7, h7, f0, wj, undef]
        exact ⟨l.length - (i + 1), by omega, i + 1, falls, joined + 1, down, first, by omega, rfl, rfl, rfl, rfl, ⟨by simp [r0], by simp [r3], by simp [wj], by simp [r5], by simp [r6], by simpa using w2⟩, by rw [hnx, htk]; exact I'⟩
      · by_cases h8 : (l[i]).c = 8
        · obtain ⟨I', f0⟩ := I.join ok (.inr h8)
          simp [r0, r3, r4, r5, r6, r7, h8, f0, wj, undef]
          exact ⟨l.length - (i + 1), by omega, i + 1, falls, joined + 1, down, first, by omega, rfl, rfl, rfl, rfl, ⟨by simp [r0], by simp [r3], by simp [wj], by simp [r5], by simp [r6], by simpa using w2⟩, by rw [hnx, htk]; exact I'⟩
        · by_cases h9 : (l[i]).c = 9
          · obtain ⟨I', f0⟩ := I.go ok h9
            simp [r0, r3, r4, r5, r6, r7, h9, f0, wd, undef]
            exact ⟨l.length - (i + 1), by omega, i + 1, falls, joined, down + 1, first, by omega, rfl, rfl, rfl, rfl, ⟨by simp [r0], by simp [r3], by simp [r4], by simp [wd], by simp [r6], by simpa using w2⟩, by rw [hnx, htk]; exact I'⟩
          · obtain ⟨I', f16⟩ := I.other ok hf h7 h8 h9
            by_cases h16 : (l[i]).c = 16
            · have f0 := f16 h16
              simp [r0, r3, r4, r5, r6, r7, h16, f0, undef]
              exact ⟨l.length - (i + 1), by omega, i + 1, falls, joined, down, first, by omega, rfl, rfl, rfl, rfl, ⟨by simp [r0], by simp [r3], by simp [r4], by simp [r5], by simp [r6], by simpa using w2⟩, by rw [hnx, htk]; exact I'⟩
            · by_cases hfi : 0 ≤ first
              · simp [r0, r3, r4, r5, r6, r7, h7, h8, h9, h16, hfi]
                exact ⟨l.length - (i + 1), by omega, i + 1, falls, joined, down, first, by omega, rfl, rfl, rfl, rfl, ⟨by simp [r0], by simp [r3], by simp [r4], by simp [r5], by simp [r6], by simpa using w2⟩, by rw [hnx, htk]; exact I'⟩
              · simp [r0, r3, r4, r5, r6, r7, h7, h8, h9, h16, hfi, undef]
                exact ⟨l.length - (i + 1), by omega, i + 1, falls, joined, down, first, by omega, rfl, rfl, rfl, rfl, ⟨by simp [r0], by simp [r3], by simp [r4], by simp [r5], by simp [r6], by simpa using w2⟩, by rw [hnx, htk]; exact I'⟩
  · have hil : i = l.length := by omega
    rw [hil, List.take_of_length_le (Nat.le_refl _)] at I
    have hf1 : falls ≤ 1 ∧ fallsI l = first := by
      unfold fallsI
      rcases I.fl with ⟨a, b, q⟩ | ⟨a, ⟨k, b, q⟩, _⟩
      · rw [q]; exact ⟨by omega, b.symm⟩
      · rw [q]; exact ⟨by omega, b.symm⟩
    simp [r0, r3, r6, r7, c, hf1.1]
    refine falls_ok A3 _ l _ (by omega) hr fun A4 e4 => ?_
    simp [r6, hf1.2]
    exact hq A4 e4

theorem tcells_take (l : List Tn) (k : Nat) (hk : k ≤ l.length) : (tcells l).take (k * 3) = tcells (l.take k) := by
  have h : tcells l = tcells (l.take k) ++ tcells (l.drop k) := by
    unfold tcells
    rw [← List.flatMap_append, List.take_append_drop]
  have hlen : (tcells (l.take k)).length = k * 3 := by rw [tcells_len, List.length_take]; omega
  rw [h, List.take_append_of_le_length (by omega), List.take_of_length_le (by omega)]
theorem tcells_drop (l : List Tn) (k : Nat) (hk : k ≤ l.length) : (tcells l).drop (k * 3) = tcells (l.drop k) := by
  have h : tcells l = tcells (l.take k) ++ tcells (l.drop k) := by
    unfold tcells
    rw [← List.flatMap_append, List.take_append_drop]
  have hlen : (tcells (l.take k)).length = k * 3 := by rw [tcells_len, List.length_take]; omega
  rw [h, List.drop_append_of_le_length (by omega), List.drop_of_length_le (by omega), List.nil_append]

/-- The loop of ModeFalls. -/
def FaJ (A0 : AHeap) (e : Int) (v u : Value) (m : Nat) (st : St) : Prop := ∃ (k : Nat), k ≤ 3 ∧ m = 3 - k ∧ st.n = 41 ∧ st.dfs = [] ∧ Ext NoB A0 st.A ∧
  (st.env.rd 1 = u ∧ st.env.rd 5 = .int .i64 e ∧ st.env.rd 6 = v ∧ st.env.rd 7 = .int .i64 k)
theorem min60 (n : Nat) : (if (60 : Int) < (n : Int) then (60 : Int) else (n : Int)) = ((min n 60 : Nat) : Int) := by
  split <;> omega
set_option maxHeartbeats 1600000 in
theorem falls_law (A : AHeap) (d : Int) (bv : Value) (bl : List Int) (u : Value) (l1 : List Tn) (hE : EH A) (hd : 0 ≤ d ∧ d < 256) (hb : ∀ x ∈ bl, 0 ≤ x ∧ x < 256) (hbv : ReadAt A 1 bv bl.length (ucells bl))
    (hu : ReadAt A 3 u l1.length (tcells l1)) (hul : ∀ j, Own u j → j < A.size) (hua : ArgV u l1.length) : wF T (.func (.func 7) #[] #[]) [.agg ⟨[.int .u8 d, bv]⟩, u] A (fun v _ => v = .bool true) := by
  have he := (tmod2 d hd.1).2
  obtain ⟨ba, bc, rfl⟩ := hbv.val
  obtain ⟨ua, uc, rfl⟩ := hu.val
  refine wF_func (first := []) (captured := []) t7 ⟨rfl, by decide⟩ ?_
  dsimp only [c7]
  simp
  have e1 : Ext NoB A (A.alloc (.cells [.int .u8 d, .slice ba bl.length bc] false 0)) := Ext.alloc
  refine works_ok _ _ (hE.extN e1) ?_
  simp
  generalize hA1 : A.alloc _ = A1 at e1
  clear hA1
  refine turns_ok A1 d _ bl _ hd hb (hbv.ext e1 fun _ _ => id) rfl fun A2 v l e2 hl hok hs ho => ?_
  have hE2 := (hE.extN e1).extN e2
  have hu2 := (hu.ext e1 fun _ _ => id).ext e2 fun _ _ => id
  generalize d.tmod 2 = e at he hok
  have hr := hs.read
  clear e1 e2 hbv ho hs hu
  simp
  refine wC_loop_inv (FaJ A2 e v (.slice ua l1.length uc)) ?_ 3 _ ⟨0, by omega, rfl, rfl, rfl, Ext.refl, ⟨by simp, by simp, by simp, by simp⟩⟩
  rintro m ⟨env, n, dfs, A3⟩ ⟨k, hk, rfl, s1, s2, ex, ⟨r1, r5, r6, r7⟩⟩
  simp only at s1 s2 ex r1 r5 r6 r7
  subst s1; subst s2
  by_cases ck : k < 3
  · by_cases k0 : k = 0
    · simp [r1, r5, r6, r7, k0]
      refine check_ok A3 e v l _ (by omega) (hr.ext ex fun _ _ => id) fun A4 ev e4 h4 => ?_
      rw [walk_good he hok] at h4
      have h4' : ev = .nilIface := h4
      subst h4'
      simp
      refine once_ok A4 e v l _ (by omega) ((hr.ext ex fun _ _ => id).ext e4 fun _ _ => id) hok fun A5 e5 => ?_
      simp [r7, k0]
      exact ⟨2, by omega, 1, by omega, rfl, rfl, rfl, (ex.trans e4).trans e5, ⟨by simp [r1], by simp [r5], by simp [r6], by simp⟩⟩
    · have hmin : min l1.length 60 ≤ l1.length := Nat.min_le_left _ _
      obtain ⟨v', a1, a2, a3⟩ := hua.front (A := A3) (sz := 3) (k2 := .i64) (hu2.ext ex fun _ _ => id) hmin
      rw [tcells_take l1 _ hmin] at a2
      have hk1 : IntKind.i64.wrap ((k : Int) - 1) = ((k - 1 : Nat) : Int) := by rw [IntWalk.i64_in _ (by omega)]; omega
      have hk01 : ((k - 1 : Nat) : Int) = 0 ∨ ((k - 1 : Nat) : Int) = 1 := by omega
      have w2 := len40 (show k < 100000 by omega)
      have hx : (l1.take (min l1.length 60)).length = min l1.length 60 := by rw [List.length_take]; omega
      simp [r1, r5, r6, r7, show (k : Int) < 3 by omega, show 0 < k by omega, hk1, foldV, minV, min60, a1]
      have a2' : ReadAt A3 3 v' (l1.take (min l1.length 60)).length (tcells (l1.take (min l1.length 60))) := by rw [hx]; exact a2
      generalize l1.take (min l1.length 60) = x at a2' hx
      refine check_ok A3 ((k - 1 : Nat) : Int) v' x _ (by omega) a2' fun A4 ev e4 h4 => ?_
      cases hb2 : firstBad (ms0 ((k - 1 : Nat) : Int)) x with
      | none =>
        rw [walk_good hk01 hb2] at h4
        have h4' : ev = .nilIface := h4
        subst h4'
        simp
        refine once_ok A4 _ v' x _ (by omega) (a2'.ext e4 fun _ _ => id) hb2 fun A5 e5 => ?_
        simp [r7]
        exact ⟨3 - (k + 1), by omega, k + 1, by omega, rfl, rfl, rfl, (ex.trans e4).trans e5, ⟨by simp [r1], by simp [r5], by simp [r6], by simpa using w2⟩⟩
      | some j =>
        have hw : (walkR ((k - 1 : Nat) : Int) x).2 = some (15, (j : Int)) := by
          unfold walkR
          rw [if_neg (by omega), hb2]
        rw [hw] at h4
        obtain ⟨b, hev, hb3⟩ := h4
        subst hev
        simp [r7, k0]
        exact ⟨3 - (k + 1), by omega, k + 1, by omega, rfl, rfl, rfl, ex.trans e4, ⟨by simp [r1], by simp [r5], by simp [r6], by simpa using w2⟩⟩
  · have : k = 3 := by omega
    subst this
    simp [r7]
end Go.Proofs.YtcfahggmejpdbaaDoor
