/- The sum of texts. -/
import Derived.Test.YtidgbapgedegbaaDf
import Derived.KernelRfl
namespace Go.Proofs.Ytidgbapgedegbaa
open Go Go.AS
set_option maxRecDepth 100000
set_option linter.unusedSimpArgs false
set_option linter.unusedVariables false
attribute [local irreducible] Trie.set Trie.get Env.rd
attribute [local simp ↓] wV_b2s
attribute [local simp] Nat.add_assoc wD_cons'' wD_nil' wC_seq wC_ops wC_opsD_nil wC_cond wC_skip wC_ret wC_exit wC_block wO_cons' wO_nil wantedA wV_eq lop qop ev wL_some wL_none wPut envOf rd_set rd_leaf eqA thenC blockC wB_true wB_false endF unwindA resultsA resA tupleA rdCell rdCells wrCells cl fillP lay rep binA unA get_set' AHeap.get_alloc oneCell beqd bned idxA

def strB (ss : List (List UInt8)) : List Value := ss.map fun s => .string ⟨⟨s⟩⟩
theorem strB_at (ss : List (List UInt8)) (i : Nat) : (strB ss)[i]? = (ss[i]?).map fun s => .string ⟨⟨s⟩⟩ := by simp [strB]
theorem flat_take {ss : List (List UInt8)} {i : Nat} (h : i < ss.length) : (ss.take (i + 1)).flatten = (ss.take i).flatten ++ ss[i] := by
  rw [List.take_add_one, List.getElem?_eq_getElem h, List.flatten_append]
  show _ ++ (ss[i] ++ []) = _
  rw [List.append_nil]
theorem flat_le {ss : List (List UInt8)} (i : Nat) : (ss.take i).flatten.length ≤ ss.flatten.length := by
  have : ss.flatten = (ss.take i).flatten ++ (ss.drop i).flatten := by rw [← List.flatten_append, List.take_append_drop]
  rw [this, List.length_append]; omega
def W1 (A0 : AHeap) (l q3 d p2 p3 p4 : Nat) (v : Value) (n : Nat) (ss : List (List UInt8)) (m : Nat) (st : St) : Prop := ∃ i : Nat, i ≤ ss.length ∧ m = ss.length - i ∧ st.n = 33 ∧ st.dfs = [] ∧
  (st.env.rd 2 = .pointer (some ⟨p2, 0, none⟩) ∧ st.env.rd 3 = .pointer (some ⟨p3, 0, none⟩) ∧ st.env.rd 4 = .pointer (some ⟨p4, 0, none⟩) ∧ st.env.rd 5 = .func (.func 156) #[] #[.pointer (some ⟨p4, 0, none⟩), .pointer (some ⟨p3, 0, none⟩), .pointer (some ⟨p2, 0, none⟩)] ∧ st.env.rd 10 = v ∧ st.env.rd 11 = .int .i64 ss.length ∧ st.env.rd 12 = .int .i64 i) ∧
  WdAt st.A l q3 d p2 p3 p4 (ss.take i).flatten ∧ Ext (Wk l q3 p3 p4) A0 st.A
def W2 (A0 : AHeap) (l q3 d p2 p3 p4 : Nat) (v : Value) (ss : List (List UInt8)) (i : Nat) (s : List UInt8) (m : Nat) (st : St) : Prop := ∃ j : Nat, j ≤ s.length ∧ m = s.length - j ∧ st.n = 33 ∧ st.dfs = [] ∧
  (st.env.rd 2 = .pointer (some ⟨p2, 0, none⟩) ∧ st.env.rd 3 = .pointer (some ⟨p3, 0, none⟩) ∧ st.env.rd 4 = .pointer (some ⟨p4, 0, none⟩) ∧ st.env.rd 5 = .func (.func 156) #[] #[.pointer (some ⟨p4, 0, none⟩), .pointer (some ⟨p3, 0, none⟩), .pointer (some ⟨p2, 0, none⟩)] ∧ st.env.rd 10 = v ∧ st.env.rd 11 = .int .i64 ss.length ∧ st.env.rd 12 = .int .i64 i ∧ st.env.rd 7 = .string ⟨⟨s⟩⟩ ∧ st.env.rd 17 = .int .i64 s.length ∧ st.env.rd 18 = .int .i64 j) ∧
  WdAt st.A l q3 d p2 p3 p4 ((ss.take i).flatten ++ s.take j) ∧ Ext (Wk l q3 p3 p4) A0 st.A

set_option maxHeartbeats 1600000 in
theorem words_ok (A : AHeap) (l q3 d pb : Nat) (v : Value) (ss : List (List UInt8)) (Q : Value → AHeap → Prop) (rg : RgAt A l q3 d 0) (hne : l ≠ q3) (hpb : A.get pb = some (.cells [v] false 0)) (hpl : pb ≠ l ∧ pb ≠ q3) (hv : ReadAt A 1 v ss.length (strB ss)) (hvo : ∀ j, Own v j → j ≠ l ∧ j ≠ q3) (hvl : ∀ j, Own v j → j < A.size) (hlen : ss.length < 1000000) (htot : ss.flatten.length < 10000000)
    (hq : ∀ w A', RgAt A' l q3 d (wsum ss.flatten) → Ext (fun j => j = l ∨ j = q3) A A' → Q w A') : wF T (.func (.func 155) #[] #[.pointer (some ⟨pb, 0, none⟩)]) [.func (.yield l) #[] #[]] A Q := by
  have ll : l < A.size := by obtain ⟨e, h, _⟩ := rg; exact AHeap.get_lt h
  have lq : q3 < A.size := by obtain ⟨e, _, _, h⟩ := rg; exact AHeap.get_lt h
  have lpb := AHeap.get_lt hpb
  obtain ⟨va, vc, rfl⟩ := hv.val
  refine wF_func (first := []) (captured := [.pointer (some ⟨pb, 0, none⟩)]) t155 ⟨rfl, by decide⟩ ?_
  dsimp only [c155]
  simp [hpb, show pb ≠ A.size by omega, show pb ≠ A.size + 1 by omega, show pb ≠ A.size + 2 by omega]
  generalize hA1 : AHeap.set (AHeap.set _ (A.size + 1) _) (A.size + 2) _ = A1
  have e1 : Ext NoB A A1 := by rw [← hA1]; exact ⟨by simp, fun b hb _ => by simp [show b ≠ A.size by omega, show b ≠ A.size + 1 by omega, show b ≠ A.size + 2 by omega]⟩
  have g2 : A1.get A.size = some (.cells [.func (.yield l) #[] #[]] false 0) := by rw [← hA1]; simp
  have g3 : A1.get (A.size + 1) = some (.cells [.int .u16 ((0 : Nat) : Int)] false 0) := by rw [← hA1]; simp
  have g4 : A1.get (A.size + 2) = some (.cells [.bool (oddB [])] false 0) := by rw [← hA1]; simp [oddB]
  clear hA1
  have D : Dis l q3 A.size (A.size + 1) (A.size + 2) := ⟨hne, ⟨by omega, by omega, by omega, by omega⟩, ⟨by omega, by omega, by omega⟩, ⟨by omega, by omega⟩⟩
  have w0 : WdAt A1 l q3 d A.size (A.size + 1) (A.size + 2) [] := ⟨rg.ext e1 id id, g2, ⟨0, fun init b q => by simp at q, by decide, g3⟩, g4⟩
  have hvA := hv.ext e1 fun _ _ => id
  have hvn : ∀ j, Own (.slice va ss.length vc) j → ¬ Wk l q3 (A.size + 1) (A.size + 2) j := fun j hj q => by
    have h1 := hvo j hj
    have h2 := hvl j hj
    rcases q with q | q | q | q
    · exact h1.1 q
    · exact h1.2 q
    · omega
    · omega
  have fin : ∀ A', Ext (Wk l q3 (A.size + 1) (A.size + 2)) A1 A' → Ext (fun j => j = l ∨ j = q3) A A' := fun A' e => (e1.mono fun _ _ q => q.elim).trans2 e fun b hb q => by
    rcases q with q | q | q | q
    · exact .inl q
    · exact .inr q
    · omega
    · omega
  generalize hp2 : A.size = p2 at *
  refine wC_loop_inv (W1 A1 l q3 d p2 (p2 + 1) (p2 + 2) (.slice va ss.length vc) ss.length ss) ?_ ss.length _ ⟨0, by omega, rfl, rfl, rfl, ⟨by simp, by simp, by simp, by simp, by simp, by simp, by simp⟩, by simpa using w0, Ext.refl⟩
  clear g2 g3 g4 w0
  rintro m ⟨env, n, dfs, B⟩ ⟨i, hi, rfl, s1, s2, ⟨r2, r3, r4, r5, r10, r11, r12⟩, wd, ex⟩
  simp only at s1 s2 r2 r3 r4 r5 r10 r11 r12 wd ex
  subst s1; subst s2
  by_cases c : i < ss.length
  · obtain ⟨d', o, cc, bs, ro, opn, y1, y2, y3⟩ := (hvA.ext ex hvn).cell c
    cases y1
    rw [strB_at, List.getElem?_eq_getElem c] at y3
    have hsl : (ss[i]).length ≤ ss.flatten.length := by
      have := flat_le (ss := ss) (i + 1)
      rw [flat_take c, List.length_append] at this
      omega
    have w2 : IntKind.i64.wrap ((i : Int) + 1) = ((i + 1 : Nat) : Int) := IntWalk.i64_in _ (by omega)
    simp [r2, r3, r4, r5, r10, r11, r12, c, y2, y3]
    refine wC_loop_inv (W2 A1 l q3 d p2 (p2 + 1) (p2 + 2) (.slice (some ⟨d', o, none⟩) ss.length vc) ss i ss[i]) ?_ (ss[i]).length _ ⟨0, by omega, rfl, rfl, rfl, ⟨by simp [r2], by simp [r3], by simp [r4], by simp [r5], by simp [r10], by simp [r11], by simp [r12], by simp, by simp, by simp⟩, by simpa using wd, ex⟩
    clear r2 r3 r4 r5 r10 r11 r12 wd ex y2 y3
    rintro m ⟨env, n, dfs, B2⟩ ⟨j, hj, rfl, s1, s2, ⟨r2, r3, r4, r5, r10, r11, r12, r7, r17, r18⟩, wd, ex⟩
    simp only at s1 s2 r2 r3 r4 r5 r10 r11 r12 r7 r17 r18 wd ex
    subst s1; subst s2
    by_cases cj : j < (ss[i]).length
    · have w3 : IntKind.i64.wrap ((j : Int) + 1) = ((j + 1 : Nat) : Int) := IntWalk.i64_in _ (by omega)
      have hgj : (ss[i])[j]? = some (ss[i])[j] := List.getElem?_eq_getElem cj
      have hbl : ((ss.take i).flatten ++ (ss[i]).take j).length < 100000000 := by
        have := flat_le (ss := ss) i
        rw [List.length_append, List.length_take]; omega
      simp [r5, r7, r17, r18, cj, hgj]
      refine take_ok B2 l q3 d p2 (p2 + 1) (p2 + 2) _ (ss[i])[j] _ wd D hbl fun B3 wd3 e3 => ?_
      simp [r18]
      refine ⟨(ss[i]).length - (j + 1), by omega, j + 1, by omega, rfl, rfl, rfl, ⟨by simp [r2], by simp [r3], by simp [r4], by simp [r5], by simp [r10], by simp [r11], by simp [r12], by simp [r7], by simp [r17], by simpa using w3⟩, ?_, ex.trans e3⟩
      rw [List.take_add_one, hgj]
      simpa using wd3
    · have hjl : j = (ss[i]).length := by omega
      simp [r12, r17, r18, cj]
      refine ⟨ss.length - (i + 1), by omega, i + 1, by omega, rfl, rfl, rfl, ⟨by simp [r2], by simp [r3], by simp [r4], by simp [r5], by simp [r10], by simp [r11], by simpa using w2⟩, ?_, ex⟩
      rw [flat_take c]
      rw [hjl, List.take_of_length_le (Nat.le_refl _)] at wd
      exact wd
  · have hil : i = ss.length := by omega
    rw [hil, List.take_of_length_le (Nat.le_refl _)] at wd
    obtain ⟨rgE, k2, ⟨h, hh, hl, k3⟩, k4⟩ := wd
    have he := accB_end ss.flatten hh
    by_cases ho : ss.flatten.length % 2 = 1
    · have hod : oddB ss.flatten = true := decide_eq_true ho
      rw [hod] at k4
      rw [if_pos ho] at he
      simp [r2, r3, r4, r11, r12, c, k4, k2, k3]
      have := accB_lt ss.flatten (by omega)
      refine word_ok B l q3 d (accB ss.flatten) h _ rgE hne hl this fun B3 rg3 e3 => ?_
      simp
      rw [← he] at rg3
      exact hq _ B3 rg3 (fin B3 (ex.trans (e3.mono fun _ _ q => q.elim .inl fun z => .inr (.inl z))))
    · have hod : oddB ss.flatten = false := decide_eq_false ho
      rw [hod] at k4
      rw [if_neg ho] at he
      simp [r2, r3, r4, r11, r12, c, k4]
      rw [he]at hq
      exact hq _ B rgE (fin B ex)
end Go.Proofs.Ytidgbapgedegbaa
