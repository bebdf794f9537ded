/- The reference's joins, laid. -/
import Derived.Test.YtigknpfjhegkgaaGreatRb
import Derived.KernelRfl
namespace Go.Proofs.YtigknpfjhegkgaaGreat
open Go Go.AS
set_option maxRecDepth 100000
set_option linter.unusedSimpArgs false
set_option linter.unusedVariables false
attribute [local irreducible] Trie.set Trie.get Env.rd
attribute [local simp ↓] wV_b2s
attribute [local simp] Nat.add_assoc wD_cons'' wD_nil' wC_seq wC_ops wC_opsD_nil wC_cond wC_skip wC_ret wC_exit wC_block wO_cons' wO_nil wantedA wV_eq lop qop ev wL_some wL_none wPut envOf rd_set rd_leaf eqA thenC blockC wB_true wB_false endF unwindA resultsA resA tupleA rdCell rdCells wrCells cl fillP lay rep binA unA get_set' AHeap.get_alloc oneCell beqd bned idxA

theorem rjmay_ok (A : AHeap) (x : Jn) (Q : Value → AHeap → Prop) (hq : ∀ A', Ext NoB A A' → Q (.bool x.may) A') : wF T (.func (.func 120) #[] #[]) [.agg ⟨x.cells⟩] A Q := by
  refine wF_func (first := []) (captured := []) t120 ⟨rfl, by decide⟩ ?_
  dsimp only [c120]
  simp [Jn.cells]
  generalize hA1 : A.alloc _ = A1
  obtain ⟨g1, e1, z1⟩ := alloc_facts hA1
  have hq := hq A1 e1
  by_cases a0 : x.id < 0
  · rw [show x.may = false by simp only [Jn.may, decide_eq_false_iff_not]; omega] at hq
    simp [g1, a0]
    exact hq
  by_cases a1 : 255 < x.id
  · rw [show x.may = false by simp only [Jn.may, decide_eq_false_iff_not]; omega] at hq
    simp [g1, a0, a1]
    exact hq
  have b0 : 0 ≤ x.id := by omega
  have b1 : x.id ≤ 255 := by omega
  by_cases f0 : x.form = 0
  · by_cases m0 : x.mac = []
    · simp [g1, a0, a1, f0, m0, undef]
      simpa [Jn.may, b0, b1, f0, m0] using hq
    · have m1 : x.mac.isEmpty = false := by cases hl : x.mac with | nil => exact absurd hl m0 | cons _ _ => rfl
      simp [g1, a0, a1, f0, m0, m1, undef]
      simpa [Jn.may, b0, b1, f0, m0] using hq
  · by_cases f1 : x.form = 1
    · by_cases m0 : x.mac.length = 8
      · by_cases t0 : x.token = 0 <;> (simp [g1, a0, a1, f1, m0, t0, undef]; simpa [Jn.may, b0, b1, f1, m0, t0] using hq)
      · have m1 : ¬ (x.mac.length : Int) = 8 := by omega
        simp [g1, a0, a1, f1, m1, undef]
        simpa [Jn.may, b0, b1, f1, m0] using hq
    · by_cases f2 : x.form = 2
      · by_cases m0 : x.mac.length = 20
        · cases k0 : x.backup
          · by_cases i0 : x.id = 0
            · by_cases t0 : x.token = 0 <;> by_cases n0 : x.nonce = 0 <;> (simp [g1, f2, m0, k0, i0, t0, n0, undef]; simpa [Jn.may, f2, m0, k0, i0, t0, n0] using hq)
            · simp [g1, a0, a1, f2, m0, k0, i0, undef]
              simpa [Jn.may, b0, b1, f2, m0, k0, i0] using hq
          · simp [g1, a0, a1, f2, m0, k0, undef]
            simpa [Jn.may, b0, b1, f2, m0, k0] using hq
        · have m1 : ¬ (x.mac.length : Int) = 20 := by omega
          simp [g1, a0, a1, f2, m1, undef]
          simpa [Jn.may, b0, b1, f2, m0] using hq
      · simp [g1, a0, a1, f0, f1, f2, undef]
        simpa [Jn.may, b0, b1, f0, f1, f2] using hq
theorem rjenc_ok (A : AHeap) (x : Jn) (hw : x.W) (Q : Value → AHeap → Prop) (hq : ∀ A', Ext NoB A A' → Q (resE x.enc) A') : wF T (.func (.func 69) #[] #[]) [.agg ⟨x.cells⟩] A Q := by
  refine wF_func (first := []) (captured := []) t69 ⟨rfl, by decide⟩ ?_
  dsimp only [c69]
  simp [Jn.cells]
  generalize hA1 : A.alloc _ = A1
  obtain ⟨g1, e1, z1⟩ := alloc_facts hA1
  simp [g1]
  refine rjmay_ok A1 x _ fun A2 e2 => ?_
  have g2 := e2.get g1 id
  have e12 := e1.trans e2
  cases hm : x.may
  · have := hq A2 e12
    rw [Jn.enc, hm] at this
    simp
    exact this
  have hq' : ∀ A', Ext NoB A A' → Q (.tuple ⟨[.string ⟨⟨x.body⟩⟩, .int .i64 0]⟩) A' := fun A' e => by
    have := hq A' e
    rwa [Jn.enc, hm] at this
  have hm' := hm
  simp only [Jn.may, decide_eq_true_eq] at hm'
  obtain ⟨h1, h2, h3⟩ := hm'
  obtain ⟨n, hn, hn2⟩ : ∃ n : Nat, x.id = n ∧ n < 256 := ⟨x.id.toNat, by omega, by omega⟩
  have hnw : IntKind.u64.wrap (n : Int) = n := IntWalk.u64_in _ (by omega)
  have htw : IntKind.u64.wrap (x.token : Int) = x.token := IntWalk.u64_in _ (by have := hw.token; omega)
  have hcw : IntKind.u64.wrap (x.nonce : Int) = x.nonce := IntWalk.u64_in _ (by have := hw.nonce; omega)
  have ht := hw.token
  have hc := hw.nonce
  have hf : x.form = 0 ∨ x.form = 1 ∨ x.form = 2 := by rcases h3 with h | h | h <;> simp [h.1]
  have hml : x.mac.length ≤ 20 := by
    rcases h3 with h | h | h
    · rw [h.2]; decide
    · omega
    · omega
  cases hb : x.backup <;> rcases hf with f | f | f
  · have hbd : x.body = be 16 1 ++ (be n 1 ++ (be x.token 4 ++ be x.nonce 4)) := by simp [Jn.body, Jn.head, Jn.first, f, hb, hn]
    rw [hbd] at hq'
    simp [g2, hb]
    refine wC_opsD_chk ?_
    simp [g2]
    refine rput_ok _ [] 16 1 (by decide) (by decide) (by decide) _ fun A3 e3 => ?_
    have g3 := e3.get g2 id
    simp [g3, hn, hnw]
    refine rput_ok _ (be 16 1) n 1 (by decide) (by omega) (by simp [be_len]) _ fun A4 e4 => ?_
    have g4 := e4.get g3 id
    simp
    have e4' := (e12.trans e3).trans e4
    refine wE_intro ?_ ?_
    · simp only [List.all_cons, List.all_nil, chkOk, List.nil_append, List.cons_append, List.getElem?_cons_succ, List.getElem?_cons_zero]
      simp [Bx, g2, g3, g4, vbeq, hn]
    · simp [g4, f]
      refine wC_opsD_chk ?_
      simp [g4, htw]
      refine rput_ok _ (be 16 1 ++ be n 1) x.token 4 (by decide) (by omega) (by simp [be_len]) _ fun A5 e5 => ?_
      have g5 := e5.get g4 id
      simp [g5, hcw]
      refine rput_ok _ _ x.nonce 4 (by decide) (by omega) (by simp [be_len]) _ fun A6 e6 => ?_
      have g6 := e6.get g5 id
      simp
      refine wE_intro ?_ ?_
      · simp only [List.all_cons, List.all_nil, chkOk, List.nil_append, List.cons_append, List.getElem?_cons_succ, List.getElem?_cons_zero]
        simp [Bx, g4, g5, g6, vbeq]
      · simp
        exact hq' A6 ((e4'.trans e5).trans e6)
  · have hbd : x.body = be 16 1 ++ (be n 1 ++ (x.mac ++ be x.nonce 4)) := by simp [Jn.body, Jn.head, Jn.first, f, hb, hn]
    rw [hbd] at hq'
    simp [g2, hb]
    refine wC_opsD_chk ?_
    simp [g2]
    refine rput_ok _ [] 16 1 (by decide) (by decide) (by decide) _ fun A3 e3 => ?_
    have g3 := e3.get g2 id
    simp [g3, hn, hnw]
    refine rput_ok _ (be 16 1) n 1 (by decide) (by omega) (by simp [be_len]) _ fun A4 e4 => ?_
    have g4 := e4.get g3 id
    simp
    have e4' := (e12.trans e3).trans e4
    refine wE_intro ?_ ?_
    · simp only [List.all_cons, List.all_nil, chkOk, List.nil_append, List.cons_append, List.getElem?_cons_succ, List.getElem?_cons_zero]
      simp [Bx, g2, g3, g4, vbeq, hn]
    · simp [g4, f, be_len, show ¬ (9223372036854775807 : Int) < 1 + (1 + (x.mac.length : Int)) by omega, show ¬ (9223372036854775807 : Int) < 1 + 1 + (x.mac.length : Int) by omega, show ¬ (9223372036854775807 : Int) < 2 + (x.mac.length : Int) by omega, hcw]
      refine rput_ok _ _ x.nonce 4 (by decide) (by omega) (by simp [be_len]; omega) _ fun A6 e6 => ?_
      simp
      exact hq' A6 (e4'.trans e6)
  · have hbd : x.body = be 16 1 ++ (be n 1 ++ x.mac) := by simp [Jn.body, Jn.head, Jn.first, f, hb, hn]
    rw [hbd] at hq'
    simp [g2, hb]
    refine wC_opsD_chk ?_
    simp [g2]
    refine rput_ok _ [] 16 1 (by decide) (by decide) (by decide) _ fun A3 e3 => ?_
    have g3 := e3.get g2 id
    simp [g3, hn, hnw]
    refine rput_ok _ (be 16 1) n 1 (by decide) (by omega) (by simp [be_len]) _ fun A4 e4 => ?_
    have g4 := e4.get g3 id
    simp
    have e4' := (e12.trans e3).trans e4
    refine wE_intro ?_ ?_
    · simp only [List.all_cons, List.all_nil, chkOk, List.nil_append, List.cons_append, List.getElem?_cons_succ, List.getElem?_cons_zero]
      simp [Bx, g2, g3, g4, vbeq, hn]
    · simp [g4, f, be_len, show ¬ (9223372036854775807 : Int) < 1 + (1 + (x.mac.length : Int)) by omega, show ¬ (9223372036854775807 : Int) < 1 + 1 + (x.mac.length : Int) by omega, show ¬ (9223372036854775807 : Int) < 2 + (x.mac.length : Int) by omega]
      exact hq' A4 e4'
  · have hbd : x.body = be 17 1 ++ (be n 1 ++ (be x.token 4 ++ be x.nonce 4)) := by simp [Jn.body, Jn.head, Jn.first, f, hb, hn]
    rw [hbd] at hq'
    simp [g2, hb]
    refine wC_opsD_chk ?_
    simp [g2]
    refine rput_ok _ [] 17 1 (by decide) (by decide) (by decide) _ fun A3 e3 => ?_
    have g3 := e3.get g2 id
    simp [g3, hn, hnw]
    refine rput_ok _ (be 17 1) n 1 (by decide) (by omega) (by simp [be_len]) _ fun A4 e4 => ?_
    have g4 := e4.get g3 id
    simp
    have e4' := (e12.trans e3).trans e4
    refine wE_intro ?_ ?_
    · simp only [List.all_cons, List.all_nil, chkOk, List.nil_append, List.cons_append, List.getElem?_cons_succ, List.getElem?_cons_zero]
      simp [Bx, g2, g3, g4, vbeq, hn]
    · simp [g4, f]
      refine wC_opsD_chk ?_
      simp [g4, htw]
      refine rput_ok _ (be 17 1 ++ be n 1) x.token 4 (by decide) (by omega) (by simp [be_len]) _ fun A5 e5 => ?_
      have g5 := e5.get g4 id
      simp [g5, hcw]
      refine rput_ok _ _ x.nonce 4 (by decide) (by omega) (by simp [be_len]) _ fun A6 e6 => ?_
      have g6 := e6.get g5 id
      simp
      refine wE_intro ?_ ?_
      · simp only [List.all_cons, List.all_nil, chkOk, List.nil_append, List.cons_append, List.getElem?_cons_succ, List.getElem?_cons_zero]
        simp [Bx, g4, g5, g6, vbeq]
      · simp
        exact hq' A6 ((e4'.trans e5).trans e6)
  · have hbd : x.body = be 17 1 ++ (be n 1 ++ (x.mac ++ be x.nonce 4)) := by simp [Jn.body, Jn.head, Jn.first, f, hb, hn]
    rw [hbd] at hq'
    simp [g2, hb]
    refine wC_opsD_chk ?_
    simp [g2]
    refine rput_ok _ [] 17 1 (by decide) (by decide) (by decide) _ fun A3 e3 => ?_
    have g3 := e3.get g2 id
    simp [g3, hn, hnw]
    refine rput_ok _ (be 17 1) n 1 (by decide) (by omega) (by simp [be_len]) _ fun A4 e4 => ?_
    have g4 := e4.get g3 id
    simp
    have e4' := (e12.trans e3).trans e4
    refine wE_intro ?_ ?_
    · simp only [List.all_cons, List.all_nil, chkOk, List.nil_append, List.cons_append, List.getElem?_cons_succ, List.getElem?_cons_zero]
      simp [Bx, g2, g3, g4, vbeq, hn]
    · simp [g4, f, be_len, show ¬ (9223372036854775807 : Int) < 1 + (1 + (x.mac.length : Int)) by omega, show ¬ (9223372036854775807 : Int) < 1 + 1 + (x.mac.length : Int) by omega, show ¬ (9223372036854775807 : Int) < 2 + (x.mac.length : Int) by omega, hcw]
      refine rput_ok _ _ x.nonce 4 (by decide) (by omega) (by simp [be_len]; omega) _ fun A6 e6 => ?_
      simp
      exact hq' A6 (e4'.trans e6)
  · have hbd : x.body = be 17 1 ++ (be n 1 ++ x.mac) := by simp [Jn.body, Jn.head, Jn.first, f, hb, hn]
    rw [hbd] at hq'
    simp [g2, hb]
    refine wC_opsD_chk ?_
    simp [g2]
    refine rput_ok _ [] 17 1 (by decide) (by decide) (by decide) _ fun A3 e3 => ?_
    have g3 := e3.get g2 id
    simp [g3, hn, hnw]
    refine rput_ok _ (be 17 1) n 1 (by decide) (by omega) (by simp [be_len]) _ fun A4 e4 => ?_
    have g4 := e4.get g3 id
    simp
    have e4' := (e12.trans e3).trans e4
    refine wE_intro ?_ ?_
    · simp only [List.all_cons, List.all_nil, chkOk, List.nil_append, List.cons_append, List.getElem?_cons_succ, List.getElem?_cons_zero]
      simp [Bx, g2, g3, g4, vbeq, hn]
    · simp [g4, f, be_len, show ¬ (9223372036854775807 : Int) < 1 + (1 + (x.mac.length : Int)) by omega, show ¬ (9223372036854775807 : Int) < 1 + 1 + (x.mac.length : Int) by omega, show ¬ (9223372036854775807 : Int) < 2 + (x.mac.length : Int) by omega]
      exact hq' A4 e4'
end Go.Proofs.YtigknpfjhegkgaaGreat
