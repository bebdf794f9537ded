/- The document's Next, Last, Check, Falls. -/
import Derived.Test.YtcfahggmejpdbaaDoorSh
import Derived.Test.YtcfahggmejpdbaaDoorSi
import Derived.KernelRfl
namespace Go.Proofs.YtcfahggmejpdbaaDoor
open Go Go.AS
set_option maxRecDepth 100000
set_option linter.unusedSimpArgs false
set_option linter.unusedVariables false
attribute [local irreducible] Trie.set Trie.get Env.rd
attribute [local simp] Nat.add_assoc wD_cons'' wD_nil' wC_seq wC_ops wC_opsD_nil wC_cond wC_skip wC_ret wC_exit wC_block wO_cons' wO_nil wantedA wV_eq lop qop ev wL_some wL_none wPut envOf rd_set rd_leaf eqA thenC blockC wB_true wB_false endF unwindA resultsA resA tupleA rdCell rdCells wrCells cl fillP lay rep binA unA get_set' AHeap.get_alloc oneCell beqd bned idxA

attribute [local simp] MS.len MS.one MS.take MS.at0 MS.at1 MS.at2 MS.at7 MS.putEn MS.putMd MS.putSo MS.putU0 Tn.len Tn.one Tn.take Tn.at0 Tn.at1 Tn.at2
theorem rnext_ok (A : AHeap) (s : MS) (t : Tn) (Q : Value → AHeap → Prop) (hq : ∀ A', Ext NoB A A' → Q (.tuple ⟨[.agg ⟨(nx s t).cells⟩, .bool (okT s t)]⟩) A') : wF T (.func (.func 26) #[] #[]) [.agg ⟨s.cells⟩, .agg ⟨t.cells⟩] A Q := by
  refine wF_func (first := []) (captured := []) t26 ⟨rfl, by decide⟩ ?_
  dsimp only [c26]
  have fin0 : ∀ x, Ext NoB A (((((A.alloc (.cells s.cells false 0)).alloc (.cells t.cells false 0)).alloc x).set (A.size + 2) (.cells s.cells false 0))) := fun x => ⟨by simp, fun b hb q => by simp [show b ≠ A.size + 2 by omega, show b ≠ A.size + 1 by omega, show b ≠ A.size by omega]⟩
  by_cases hin : 0 ≤ t.p ∧ t.p < 4
  · obtain ⟨hp0, hp1⟩ := hin
    simp [show ¬ t.p < 0 by omega, show ¬ 4 ≤ t.p by omega]
    generalize hA1 : ((A.alloc _).alloc _).alloc _ = A1
    have e1 : Ext NoB A A1 := by rw [← hA1]; exact ((Ext.alloc).trans Ext.alloc).trans Ext.alloc
    have g0 : A1.get A.size = some (.cells s.cells false 0) := by rw [← hA1]; simp
    have g1 : A1.get (A.size + 1) = some (.cells t.cells false 0) := by rw [← hA1]; simp
    have g2 : ∃ z, z.length = 15 ∧ A1.get (A.size + 2) = some (.cells z false 0) := by rw [← hA1]; exact ⟨[.int .i64 0, .int .i64 0, .bool false, .bool false, .bool false, .bool false, .bool false, .bool false, .bool false, .bool false, .bool false, .bool false, .bool false, .bool false, .bool false], rfl, by simp⟩
    obtain ⟨z, z15, g2⟩ := g2
    clear hA1
    refine rmay_ok A1 s t _ hp0 hp1 fun A2 e2 => ?_
    have k0 := e2.get g0 id
    have k1 := e2.get g1 id
    have k2 := e2.get g2 id
    have l0 := AHeap.get_lt k0
    have l1 := AHeap.get_lt k1
    have l2 := AHeap.get_lt k2
    have e12 := e1.trans e2
    have fin : ∀ A3, Ext (fun b => b = A.size ∨ b = A.size + 2) A2 A3 → Ext NoB A A3 := fun A3 e3 => e12.trans2 e3 fun b hb q => by omega
    cases hmay : mayM s t.c t.p with
    | false =>
      have hno : okT s t = false := by simp [okT, hmay]
      simp [hmay, undef, k0, k2, l2, z15, lay_whole]
      have hq' := hq _ (fin (A2.set (A.size + 2) (.cells s.cells false 0)) (Ext.set (.inr rfl)))
      simpa [nx, hno] using hq'
    | true =>
      have hcr : 0 ≤ t.c ∧ t.c < 18 := by
        by_cases h : 0 ≤ t.c ∧ t.c < 18
        · exact h
        · have hk : ∀ k : Int, 0 ≤ k ∧ k < 18 → ¬ t.c = k := fun k hk q => h (by omega)
          unfold mayM at hmay
          rw [if_neg (hk 0 (by decide)), if_neg (hk 1 (by decide)), if_neg (hk 2 (by decide)), if_neg (hk 3 (by decide)), if_neg (hk 4 (by decide)), if_neg (hk 5 (by decide)), if_neg (hk 6 (by decide)), if_neg (hk 7 (by decide)), if_neg (hk 8 (by decide)), if_neg (hk 9 (by decide)), if_neg (hk 10 (by decide)), if_neg (hk 11 (by decide)), if_neg (hk 12 (by decide)), if_neg (hk 13 (by decide)), if_neg (hk 14 (by decide)), if_neg (hk 15 (by decide)), if_neg (hk 16 (by decide)), if_neg (hk 17 (by decide))] at hmay
          cases hmay
      have htd : thenD t.c = thenM t.c := by unfold thenD; rw [if_pos hcr]
      by_cases hm : t.m = thenM t.c
      · have hok : okT s t = true := by simp [okT, hmay, hm, hp0, hp1, hcr]
        have hnx : nx s t = effM { s with md := thenM t.c } t.c t.p := by unfold nx; rw [if_pos hok]
        rw [hok, hnx] at hq
        simp [hmay, k0, k1, k2, htd, hm, show A.size < A2.size by omega]
        generalize hA5 : AHeap.set A2 A.size _ = A5
        have e5 : Ext (fun b => b = A.size ∨ b = A.size + 2) A2 A5 := by rw [← hA5]; exact Ext.set (.inl rfl)
        have p0 : A5.get A.size = some (.cells ({ s with md := thenM t.c } : MS).cells false 0) := by rw [← hA5]; simp [show A.size < A2.size by omega]
        have p1 : A5.get (A.size + 1) = some (.cells t.cells false 0) := by rw [← hA5]; simp [k1]
        have p2 : A5.get (A.size + 2) = some (.cells z false 0) := by rw [← hA5]; simp [k2]
        clear hA5
        have n0 := AHeap.get_lt p0
        have n2 := AHeap.get_lt p2
        generalize hs' : ({ s with md := thenM t.c } : MS) = s' at p0 hq
        clear hs' hm hnx hok htd k0 k1 k2 e2 e1 e12 g0 g1 g2 hcr
        have l7 : 7 + (t.p.toNat + 1) ≤ 15 := by omega
        have l3 : 3 + (t.p.toNat + 1) ≤ 15 := by omega
        have l11 : 11 + (t.p.toNat + 1) ≤ 15 := by omega
        by_cases c5 : t.c = 5
        · have hp : t.p = 0 := by rw [c5] at hmay; simp [mayM] at hmay; exact hmay.2
          simp [p0, p1, p2, c5, n0, n2, z15, lay_whole]
          have hq' := hq _ (fin ((A5.set A.size (.cells ({ s' with u0 := true } : MS).cells false 0)).set (A.size + 2) (.cells ({ s' with u0 := true } : MS).cells false 0)) ((e5.trans (Ext.set (.inl rfl))).trans (Ext.set (.inr rfl))))
          rw [show effM s' t.c t.p = { s' with u0 := true } by simp [effM, c5, hp, MS.setUp]] at hq'
          simpa using hq'
        · by_cases c7 : t.c = 7
          · simp [p0, p1, p2, c7, n0, n2, z15, lay_whole, hp0, hp1, MS.putPre, l3]
            have hq' := hq _ (fin (((A5.set A.size (.cells (s'.setPre t.p true).cells false 0)).set A.size (.cells (effM s' t.c t.p).cells false 0)).set (A.size + 2) (.cells (effM s' t.c t.p).cells false 0)) (((e5.trans (Ext.set (.inl rfl))).trans (Ext.set (.inl rfl))).trans (Ext.set (.inr rfl))))
            simpa [effM, c7] using hq'
          · by_cases c8 : t.c = 8
            · simp [p0, p1, p2, c8, n0, n2, z15, lay_whole, hp0, hp1, MS.putUp, l7]
              have hq' := hq _ (fin (((A5.set A.size (.cells (s'.setUp t.p true).cells false 0)).set A.size (.cells (effM s' t.c t.p).cells false 0)).set (A.size + 2) (.cells (effM s' t.c t.p).cells false 0)) (((e5.trans (Ext.set (.inl rfl))).trans (Ext.set (.inl rfl))).trans (Ext.set (.inr rfl))))
              simpa [effM, c8] using hq'
            · by_cases c9 : t.c = 9
              · simp [p0, p1, p2, c9]
                refine wC_opsD_chk ?_
                simp [p0, p1, p2, c9, n0, n2, z15, lay_whole, hp0, hp1, MS.putUp, MS.putGone, l7, l11]
                refine wE_intro ?_ ?_
                · simp only [List.all_cons, List.all_nil, chkOk, List.nil_append, List.cons_append, List.getElem?_cons_succ, List.getElem?_cons_zero]
                  simp [Bx, p1, vbeq]
                simp [p0, p1, p2, n0, n2, z15, lay_whole]
                have hq' := hq _ (fin (((A5.set A.size (.cells (s'.setUp t.p false).cells false 0)).set A.size (.cells (effM s' t.c t.p).cells false 0)).set (A.size + 2) (.cells (effM s' t.c t.p).cells false 0)) (((e5.trans (Ext.set (.inl rfl))).trans (Ext.set (.inl rfl))).trans (Ext.set (.inr rfl))))
                simpa [effM, c9] using hq'
              · simp [p0, p1, p2, c5, c7, c8, c9, n0, n2, z15, lay_whole]
                have hq' := hq _ (fin (A5.set (A.size + 2) (.cells s'.cells false 0)) (e5.trans (Ext.set (.inr rfl))))
                simpa [effM, c5, c7, c8, c9] using hq'
      · have hno : okT s t = false := by simp [okT, hm]
        simp [hmay, k0, k1, k2, l2, z15, lay_whole, hm, htd]
        have hq' := hq _ (fin (A2.set (A.size + 2) (.cells s.cells false 0)) (Ext.set (.inr rfl)))
        simpa [nx, hno] using hq'
  · have hno : okT s t = false := by
      cases h : okT s t with
      | false => rfl
      | true => exact absurd ((okT_in s t).1 h).1.2 hin
    have hq' := fun A' e => hq A' e
    simp only [nx, hno] at hq'
    by_cases h3 : t.p < 0
    · simp [h3, lay_whole]
      simpa using hq' _ (fin0 _)
    · have h4 : 4 ≤ t.p := by omega
      simp [h3, h4, lay_whole]
      simpa using hq' _ (fin0 _)
end Go.Proofs.YtcfahggmejpdbaaDoor
