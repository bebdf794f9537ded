/- Items, read as options: the whole. -/
import Derived.Test.YtigknpfjhegkgaaGreatDoorVk
import Derived.Test.YtigknpfjhegkgaaGreatDoorEk
import Derived.KernelRfl
namespace Go.Proofs.YtigknpfjhegkgaaGreatDoor
open Go Go.AS
set_option maxRecDepth 100000
set_option linter.unusedSimpArgs false
set_option linter.unusedVariables false
attribute [local irreducible] Trie.set Trie.get Env.rd
attribute [local simp ↓] wV_b2s
attribute [local simp] Nat.add_assoc wD_cons'' wD_nil' wC_seq wC_ops wC_opsD_nil wC_cond wC_skip wC_ret wC_exit wC_block wO_cons' wO_nil wantedA wV_eq lop qop ev wL_some wL_none wPut envOf rd_set rd_leaf eqA thenC blockC wB_true wB_false endF unwindA resultsA resA tupleA rdCell rdCells wrCells cl fillP lay rep bi_eql bi_neq bi_lss bi_leq bi_gtr bi_geq bi_add bi_sub bs_eql bs_neq bi_shr4 unA get_set' AHeap.get_alloc oneCell beqd bned idxA
attribute [local simp] Op.len Op.one Cap.ln Jn.len Ds.ln Ad.len Cap.one Jn.one Ds.one Ad.one Op.take Op.at0 Op.head? Op.getCap Op.tCap Op.getJn Op.getDs Op.getAd Op.getIds Op.getPrio Op.getFail Op.getFast Op.getRst Op.putCap Op.putJn Op.putDs Op.putAd Op.putSub Op.putIds Op.putPrio Op.putFail Op.putFast Op.putRf Op.putRr Op.layAll Op.zeroC Op.vb
def resR : Except Int Op → Value
  | .ok x => .tuple ⟨[.agg ⟨x.cells⟩, .nilIface]⟩
  | .error e => .tuple ⟨[.agg ⟨opZ⟩, .iface 31 (.int .i64 e)]⟩
theorem only_sub (k : Int) : (Op.only k).sub = k := rfl
theorem only_lit (k : Int) : (⟨k, Op.zero.cap, Op.zero.jn, Op.zero.ds, Op.zero.ad, Op.zero.ids, Op.zero.prio, Op.zero.fail, Op.zero.fast, Op.zero.rf, Op.zero.rr⟩ : Op) = Op.only k := rfl
attribute [local simp] only_lit
theorem read_ok (A : AHeap) (k : Int) (s : List UInt8) (hs : s.length < 1000000) (Q : Value → AHeap → Prop) (hq : ∀ A', Ext NoB A A' → Q (resR (Op.dec k s)) A') : wF T (.func (.func 34) #[] #[]) [.agg ⟨[.int .i64 k, .string ⟨⟨s⟩⟩]⟩] A Q := by
  refine wF_func (first := []) (captured := []) t34 ⟨rfl, by decide⟩ ?_
  dsimp only [c34]
  by_cases hk : k = 30
  case neg =>
    have hd : Op.dec k s = .error 7 := by unfold Op.dec; rw [if_pos hk]
    rw [hd] at hq
    simp [hk]
    exact hq _ (by (repeat first | exact Ext.refl | assumption | refine Ext.allocN ?_ | refine Ext.setN ?_ (by first | omega | (simp; done) | (simp; omega))))
  subst hk
  match s, hs, hq with
  | [], hs, hq =>
    simp
    exact hq _ (by (repeat first | exact Ext.refl | assumption | refine Ext.allocN ?_ | refine Ext.setN ?_ (by first | omega | (simp; done) | (simp; omega))))
  | a :: t, hs, hq =>
    have ha := a.toNat_lt
    by_cases h9 : 9 ≤ a.toNat / 16
    · have hd : Op.dec 30 (a :: t) = .error 7 := by
        rw [Op.dec_at]
        rw [if_neg (by omega), if_neg (by omega), if_neg (by omega), if_neg (by omega), if_neg (by omega), if_neg (by omega), if_neg (by omega), if_neg (by omega), if_neg (by omega)]
      rw [hd] at hq
      have y0 : (9 : Int) ≤ (a.toNat : Int) / 16 := by omega
      simp [y0]
      exact hq _ (by (repeat first | exact Ext.refl | assumption | refine Ext.allocN ?_ | refine Ext.setN ?_ (by first | omega | (simp; done) | (simp; omega))))
    have y0 : ¬ (9 : Int) ≤ (a.toNat : Int) / 16 := by omega
    have wa : IntKind.i64.wrap ((a.toNat : Int) / 16) = (a.toNat : Int) / 16 := IntWalk.i64_in _ (by omega)
    rw [Op.dec_at] at hq
    obtain ⟨n, hn⟩ : ∃ n, n = a.toNat / 16 := ⟨_, rfl⟩
    have hni : (a.toNat : Int) / 16 = (n : Nat) := by omega
    rw [← hn] at hq h9
    rw [hni] at y0 wa
    simp [hni, y0, wa]
    generalize hB : AHeap.set _ _ _ = B
    have b1 : B.get A.size = some (.cells [.int .i64 30, .string ⟨⟨a :: t⟩⟩] false 0) := by subst hB; simp
    have b2 : B.get (A.size + 1) = some (.cells opZ false 0) := by subst hB; simp
    have b4 : B.get (A.size + 2) = some (.cells (Op.only n).cells false 0) := by subst hB; simp
    have eB : Ext NoB A B := by subst hB; (repeat first | exact Ext.refl | assumption | refine Ext.allocN ?_ | refine Ext.setN ?_ (by first | omega | (simp; done) | (simp; omega)))
    refine wC_opsD_chk ?_
    simp
    refine all_ok B _ fun C eC => ?_
    have c1 := eC.get b1 id
    have c2 := eC.get b2 id
    have c4 := eC.get b4 id
    have eeC := eB.trans eC
    have hc : n = 0 ∨ n = 1 ∨ n = 2 ∨ n = 3 ∨ n = 4 ∨ n = 5 ∨ n = 6 ∨ n = 7 ∨ n = 8 := by omega
    rcases hc with h | h | h | h | h | h | h | h | h
    · subst h
      simp [c4, c1, only_sub]
      refine read0_ok C (A.size + 2) (a :: t) hs c4 _ (fun x D hx d4 eD => ?_) fun e D hx he d4 eD => ?_
      · have d1 := eD.get c1 (by omega)
        have d2 := eD.get c2 (by omega)
        have l2 := AHeap.get_lt d2
        simp
        refine wE_intro ?_ ?_
        · simp only [List.all_cons, List.all_nil, chkOk, List.nil_append, List.cons_append, List.getElem?_cons_succ, List.getElem?_cons_zero]
          simp [Bx, b1, b4, c1, c4, vbeq, only_sub]
        simp [d4, d2, l2]
        have hq' : ∀ A', Ext NoB A A' → Q (resR (.ok x)) A' := by intro A' e'; have := hq A' e'; simp (decide := true) only [if_true, if_false] at this; rw [hx] at this; exact this
        exact hq' _ (by have := eeC.past eD (by omega); (repeat first | exact Ext.refl | assumption | refine Ext.allocN ?_ | refine Ext.setN ?_ (by first | omega | (simp; done) | (simp; omega))))
      · have d1 := eD.get c1 (by omega)
        have d2 := eD.get c2 (by omega)
        have l2 := AHeap.get_lt d2
        simp
        refine wE_intro ?_ ?_
        · simp only [List.all_cons, List.all_nil, chkOk, List.nil_append, List.cons_append, List.getElem?_cons_succ, List.getElem?_cons_zero]
          simp [Bx, b1, b4, c1, c4, vbeq, only_sub]
        simp [he, d4, d2, l2]
        have hq' : ∀ A', Ext NoB A A' → Q (resR (.error e)) A' := by intro A' e'; have := hq A' e'; simp (decide := true) only [if_true, if_false] at this; rw [hx] at this; exact this
        exact hq' _ (by have := eeC.past eD (by omega); (repeat first | exact Ext.refl | assumption | refine Ext.allocN ?_ | refine Ext.setN ?_ (by first | omega | (simp; done) | (simp; omega))))
    · subst h
      simp [c4, c1, only_sub]
      refine read1_ok C (A.size + 2) (a :: t) hs c4 _ (fun x D hx d4 eD => ?_) fun e D hx he d4 eD => ?_
      · have d1 := eD.get c1 (by omega)
        have d2 := eD.get c2 (by omega)
        have l2 := AHeap.get_lt d2
        simp
        refine wE_intro ?_ ?_
        · simp only [List.all_cons, List.all_nil, chkOk, List.nil_append, List.cons_append, List.getElem?_cons_succ, List.getElem?_cons_zero]
          simp [Bx, b1, b4, c1, c4, vbeq, only_sub]
        simp [d4, d2, l2]
        have hq' : ∀ A', Ext NoB A A' → Q (resR (.ok x)) A' := by intro A' e'; have := hq A' e'; simp (decide := true) only [if_true, if_false] at this; rw [hx] at this; exact this
        exact hq' _ (by have := eeC.past eD (by omega); (repeat first | exact Ext.refl | assumption | refine Ext.allocN ?_ | refine Ext.setN ?_ (by first | omega | (simp; done) | (simp; omega))))
      · have d1 := eD.get c1 (by omega)
        have d2 := eD.get c2 (by omega)
        have l2 := AHeap.get_lt d2
        simp
        refine wE_intro ?_ ?_
        · simp only [List.all_cons, List.all_nil, chkOk, List.nil_append, List.cons_append, List.getElem?_cons_succ, List.getElem?_cons_zero]
          simp [Bx, b1, b4, c1, c4, vbeq, only_sub]
        simp [he, d4, d2, l2]
        have hq' : ∀ A', Ext NoB A A' → Q (resR (.error e)) A' := by intro A' e'; have := hq A' e'; simp (decide := true) only [if_true, if_false] at this; rw [hx] at this; exact this
        exact hq' _ (by have := eeC.past eD (by omega); (repeat first | exact Ext.refl | assumption | refine Ext.allocN ?_ | refine Ext.setN ?_ (by first | omega | (simp; done) | (simp; omega))))
    · subst h
      simp [c4, c1, only_sub]
      refine read2_ok C (A.size + 2) (a :: t) hs c4 _ (fun x D hx d4 eD => ?_) fun e D hx he d4 eD => ?_
      · have d1 := eD.get c1 (by omega)
        have d2 := eD.get c2 (by omega)
        have l2 := AHeap.get_lt d2
        simp
        refine wE_intro ?_ ?_
        · simp only [List.all_cons, List.all_nil, chkOk, List.nil_append, List.cons_append, List.getElem?_cons_succ, List.getElem?_cons_zero]
          simp [Bx, b1, b4, c1, c4, vbeq, only_sub]
        simp [d4, d2, l2]
        have hq' : ∀ A', Ext NoB A A' → Q (resR (.ok x)) A' := by intro A' e'; have := hq A' e'; simp (decide := true) only [if_true, if_false] at this; rw [hx] at this; exact this
        exact hq' _ (by have := eeC.past eD (by omega); (repeat first | exact Ext.refl | assumption | refine Ext.allocN ?_ | refine Ext.setN ?_ (by first | omega | (simp; done) | (simp; omega))))
      · have d1 := eD.get c1 (by omega)
        have d2 := eD.get c2 (by omega)
        have l2 := AHeap.get_lt d2
        simp
        refine wE_intro ?_ ?_
        · simp only [List.all_cons, List.all_nil, chkOk, List.nil_append, List.cons_append, List.getElem?_cons_succ, List.getElem?_cons_zero]
          simp [Bx, b1, b4, c1, c4, vbeq, only_sub]
        simp [he, d4, d2, l2]
        have hq' : ∀ A', Ext NoB A A' → Q (resR (.error e)) A' := by intro A' e'; have := hq A' e'; simp (decide := true) only [if_true, if_false] at this; rw [hx] at this; exact this
        exact hq' _ (by have := eeC.past eD (by omega); (repeat first | exact Ext.refl | assumption | refine Ext.allocN ?_ | refine Ext.setN ?_ (by first | omega | (simp; done) | (simp; omega))))
    · subst h
      simp [c4, c1, only_sub]
      refine read3_ok C (A.size + 2) (a :: t) hs c4 _ (fun x D hx d4 eD => ?_) fun e D hx he d4 eD => ?_
      · have d1 := eD.get c1 (by omega)
        have d2 := eD.get c2 (by omega)
        have l2 := AHeap.get_lt d2
        simp
        refine wE_intro ?_ ?_
        · simp only [List.all_cons, List.all_nil, chkOk, List.nil_append, List.cons_append, List.getElem?_cons_succ, List.getElem?_cons_zero]
          simp [Bx, b1, b4, c1, c4, vbeq, only_sub]
        simp [d4, d2, l2]
        have hq' : ∀ A', Ext NoB A A' → Q (resR (.ok x)) A' := by intro A' e'; have := hq A' e'; simp (decide := true) only [if_true, if_false] at this; rw [hx] at this; exact this
        exact hq' _ (by have := eeC.past eD (by omega); (repeat first | exact Ext.refl | assumption | refine Ext.allocN ?_ | refine Ext.setN ?_ (by first | omega | (simp; done) | (simp; omega))))
      · have d1 := eD.get c1 (by omega)
        have d2 := eD.get c2 (by omega)
        have l2 := AHeap.get_lt d2
        simp
        refine wE_intro ?_ ?_
        · simp only [List.all_cons, List.all_nil, chkOk, List.nil_append, List.cons_append, List.getElem?_cons_succ, List.getElem?_cons_zero]
          simp [Bx, b1, b4, c1, c4, vbeq, only_sub]
        simp [he, d4, d2, l2]
        have hq' : ∀ A', Ext NoB A A' → Q (resR (.error e)) A' := by intro A' e'; have := hq A' e'; simp (decide := true) only [if_true, if_false] at this; rw [hx] at this; exact this
        exact hq' _ (by have := eeC.past eD (by omega); (repeat first | exact Ext.refl | assumption | refine Ext.allocN ?_ | refine Ext.setN ?_ (by first | omega | (simp; done) | (simp; omega))))
    · subst h
      simp [c4, c1, only_sub]
      refine read4_ok C (A.size + 2) (a :: t) hs c4 _ (fun x D hx d4 eD => ?_) fun e D hx he d4 eD => ?_
      · have d1 := eD.get c1 (by omega)
        have d2 := eD.get c2 (by omega)
        have l2 := AHeap.get_lt d2
        simp
        refine wE_intro ?_ ?_
        · simp only [List.all_cons, List.all_nil, chkOk, List.nil_append, List.cons_append, List.getElem?_cons_succ, List.getElem?_cons_zero]
          simp [Bx, b1, b4, c1, c4, vbeq, only_sub]
        simp [d4, d2, l2]
        have hq' : ∀ A', Ext NoB A A' → Q (resR (.ok x)) A' := by intro A' e'; have := hq A' e'; simp (decide := true) only [if_true, if_false] at this; rw [hx] at this; exact this
        exact hq' _ (by have := eeC.past eD (by omega); (repeat first | exact Ext.refl | assumption | refine Ext.allocN ?_ | refine Ext.setN ?_ (by first | omega | (simp; done) | (simp; omega))))
      · have d1 := eD.get c1 (by omega)
        have d2 := eD.get c2 (by omega)
        have l2 := AHeap.get_lt d2
        simp
        refine wE_intro ?_ ?_
        · simp only [List.all_cons, List.all_nil, chkOk, List.nil_append, List.cons_append, List.getElem?_cons_succ, List.getElem?_cons_zero]
          simp [Bx, b1, b4, c1, c4, vbeq, only_sub]
        simp [he, d4, d2, l2]
        have hq' : ∀ A', Ext NoB A A' → Q (resR (.error e)) A' := by intro A' e'; have := hq A' e'; simp (decide := true) only [if_true, if_false] at this; rw [hx] at this; exact this
        exact hq' _ (by have := eeC.past eD (by omega); (repeat first | exact Ext.refl | assumption | refine Ext.allocN ?_ | refine Ext.setN ?_ (by first | omega | (simp; done) | (simp; omega))))
    · subst h
      simp [c4, c1, only_sub]
      refine read5_ok C (A.size + 2) (a :: t) hs c4 _ (fun x D hx d4 eD => ?_) fun e D hx he d4 eD => ?_
      · have d1 := eD.get c1 (by omega)
        have d2 := eD.get c2 (by omega)
        have l2 := AHeap.get_lt d2
        simp
        refine wE_intro ?_ ?_
        · simp only [List.all_cons, List.all_nil, chkOk, List.nil_append, List.cons_append, List.getElem?_cons_succ, List.getElem?_cons_zero]
          simp [Bx, b1, b4, c1, c4, vbeq, only_sub]
        simp [d4, d2, l2]
        have hq' : ∀ A', Ext NoB A A' → Q (resR (.ok x)) A' := by intro A' e'; have := hq A' e'; simp (decide := true) only [if_true, if_false] at this; rw [hx] at this; exact this
        exact hq' _ (by have := eeC.past eD (by omega); (repeat first | exact Ext.refl | assumption | refine Ext.allocN ?_ | refine Ext.setN ?_ (by first | omega | (simp; done) | (simp; omega))))
      · have d1 := eD.get c1 (by omega)
        have d2 := eD.get c2 (by omega)
        have l2 := AHeap.get_lt d2
        simp
        refine wE_intro ?_ ?_
        · simp only [List.all_cons, List.all_nil, chkOk, List.nil_append, List.cons_append, List.getElem?_cons_succ, List.getElem?_cons_zero]
          simp [Bx, b1, b4, c1, c4, vbeq, only_sub]
        simp [he, d4, d2, l2]
        have hq' : ∀ A', Ext NoB A A' → Q (resR (.error e)) A' := by intro A' e'; have := hq A' e'; simp (decide := true) only [if_true, if_false] at this; rw [hx] at this; exact this
        exact hq' _ (by have := eeC.past eD (by omega); (repeat first | exact Ext.refl | assumption | refine Ext.allocN ?_ | refine Ext.setN ?_ (by first | omega | (simp; done) | (simp; omega))))
    · subst h
      simp [c4, c1, only_sub]
      refine read6_ok C (A.size + 2) (a :: t) hs c4 _ (fun x D hx d4 eD => ?_) fun e D hx he d4 eD => ?_
      · have d1 := eD.get c1 (by omega)
        have d2 := eD.get c2 (by omega)
        have l2 := AHeap.get_lt d2
        simp
        refine wE_intro ?_ ?_
        · simp only [List.all_cons, List.all_nil, chkOk, List.nil_append, List.cons_append, List.getElem?_cons_succ, List.getElem?_cons_zero]
          simp [Bx, b1, b4, c1, c4, vbeq, only_sub]
        simp [d4, d2, l2]
        have hq' : ∀ A', Ext NoB A A' → Q (resR (.ok x)) A' := by intro A' e'; have := hq A' e'; simp (decide := true) only [if_true, if_false] at this; rw [hx] at this; exact this
        exact hq' _ (by have := eeC.past eD (by omega); (repeat first | exact Ext.refl | assumption | refine Ext.allocN ?_ | refine Ext.setN ?_ (by first | omega | (simp; done) | (simp; omega))))
      · have d1 := eD.get c1 (by omega)
        have d2 := eD.get c2 (by omega)
        have l2 := AHeap.get_lt d2
        simp
        refine wE_intro ?_ ?_
        · simp only [List.all_cons, List.all_nil, chkOk, List.nil_append, List.cons_append, List.getElem?_cons_succ, List.getElem?_cons_zero]
          simp [Bx, b1, b4, c1, c4, vbeq, only_sub]
        simp [he, d4, d2, l2]
        have hq' : ∀ A', Ext NoB A A' → Q (resR (.error e)) A' := by intro A' e'; have := hq A' e'; simp (decide := true) only [if_true, if_false] at this; rw [hx] at this; exact this
        exact hq' _ (by have := eeC.past eD (by omega); (repeat first | exact Ext.refl | assumption | refine Ext.allocN ?_ | refine Ext.setN ?_ (by first | omega | (simp; done) | (simp; omega))))
    · subst h
      simp [c4, c1, only_sub]
      refine read7_ok C (A.size + 2) (a :: t) hs c4 _ (fun x D hx d4 eD => ?_) fun e D hx he d4 eD => ?_
      · have d1 := eD.get c1 (by omega)
        have d2 := eD.get c2 (by omega)
        have l2 := AHeap.get_lt d2
        simp
        refine wE_intro ?_ ?_
        · simp only [List.all_cons, List.all_nil, chkOk, List.nil_append, List.cons_append, List.getElem?_cons_succ, List.getElem?_cons_zero]
          simp [Bx, b1, b4, c1, c4, vbeq, only_sub]
        simp [d4, d2, l2]
        have hq' : ∀ A', Ext NoB A A' → Q (resR (.ok x)) A' := by intro A' e'; have := hq A' e'; simp (decide := true) only [if_true, if_false] at this; rw [hx] at this; exact this
        exact hq' _ (by have := eeC.past eD (by omega); (repeat first | exact Ext.refl | assumption | refine Ext.allocN ?_ | refine Ext.setN ?_ (by first | omega | (simp; done) | (simp; omega))))
      · have d1 := eD.get c1 (by omega)
        have d2 := eD.get c2 (by omega)
        have l2 := AHeap.get_lt d2
        simp
        refine wE_intro ?_ ?_
        · simp only [List.all_cons, List.all_nil, chkOk, List.nil_append, List.cons_append, List.getElem?_cons_succ, List.getElem?_cons_zero]
          simp [Bx, b1, b4, c1, c4, vbeq, only_sub]
        simp [he, d4, d2, l2]
        have hq' : ∀ A', Ext NoB A A' → Q (resR (.error e)) A' := by intro A' e'; have := hq A' e'; simp (decide := true) only [if_true, if_false] at this; rw [hx] at this; exact this
        exact hq' _ (by have := eeC.past eD (by omega); (repeat first | exact Ext.refl | assumption | refine Ext.allocN ?_ | refine Ext.setN ?_ (by first | omega | (simp; done) | (simp; omega))))
    · subst h
      simp [c4, c1, only_sub]
      refine read8_ok C (A.size + 2) (a :: t) hs c4 _ (fun x D hx d4 eD => ?_) fun e D hx he d4 eD => ?_
      · have d1 := eD.get c1 (by omega)
        have d2 := eD.get c2 (by omega)
        have l2 := AHeap.get_lt d2
        simp
        refine wE_intro ?_ ?_
        · simp only [List.all_cons, List.all_nil, chkOk, List.nil_append, List.cons_append, List.getElem?_cons_succ, List.getElem?_cons_zero]
          simp [Bx, b1, b4, c1, c4, vbeq, only_sub]
        simp [d4, d2, l2]
        have hq' : ∀ A', Ext NoB A A' → Q (resR (.ok x)) A' := by intro A' e'; have := hq A' e'; simp (decide := true) only [if_true, if_false] at this; rw [hx] at this; exact this
        exact hq' _ (by have := eeC.past eD (by omega); (repeat first | exact Ext.refl | assumption | refine Ext.allocN ?_ | refine Ext.setN ?_ (by first | omega | (simp; done) | (simp; omega))))
      · have d1 := eD.get c1 (by omega)
        have d2 := eD.get c2 (by omega)
        have l2 := AHeap.get_lt d2
        simp
        refine wE_intro ?_ ?_
        · simp only [List.all_cons, List.all_nil, chkOk, List.nil_append, List.cons_append, List.getElem?_cons_succ, List.getElem?_cons_zero]
          simp [Bx, b1, b4, c1, c4, vbeq, only_sub]
        simp [he, d4, d2, l2]
        have hq' : ∀ A', Ext NoB A A' → Q (resR (.error e)) A' := by intro A' e'; have := hq A' e'; simp (decide := true) only [if_true, if_false] at this; rw [hx] at this; exact this
        exact hq' _ (by have := eeC.past eD (by omega); (repeat first | exact Ext.refl | assumption | refine Ext.allocN ?_ | refine Ext.setN ?_ (by first | omega | (simp; done) | (simp; omega))))
theorem op_err {k : Int} {s : List UInt8} {e : Int} (h : Op.dec k s = .error e) : e ≠ 0 := by
  intro he; subst he
  have inv : ∀ {α β : Type} {f : α → β} {r : Except Int α}, mapE f r = .error 0 → r = .error 0 := by
    intro α β f r h
    cases r with
    | ok x => cases h
    | error e => cases h; rfl
  unfold Op.dec at h
  split at h
  · cases h
  split at h
  · cases h
  split at h
  · exact cap_err (inv h) rfl
  split at h
  · exact jn_err (inv h) rfl
  split at h
  · exact ds_err (inv h) rfl
  split at h
  · exact ad_err (inv h) rfl
  split at h
  · exact rem_err (inv h) rfl
  split at h
  · exact prio_err (inv h) rfl
  split at h
  · exact big_err (inv h) rfl
  split at h
  · exact big_err (inv h) rfl
  split at h
  · exact rst_err (inv h) rfl
  · cases h
def resO : Except Int Op → Value := resD Op.cells opZ
theorem decode_ok (A : AHeap) (k : Int) (s : List UInt8) (hs : s.length < 1000000) (hE : EH A) (Q : Value → AHeap → Prop) (hq : ∀ A', Ext NoB A A' → Q (resO (Op.dec k s)) A') : wF T (.func (.func 12) #[] #[]) [.agg ⟨[.int .i64 k, .string ⟨⟨s⟩⟩]⟩] A Q := by
  refine wF_func (first := []) (captured := []) t12 ⟨rfl, by decide⟩ ?_
  dsimp only [c12]
  simp
  generalize hB : AHeap.alloc _ _ = B
  have b2 : B.get (A.size + 1) = some (.cells opZ false 0) := by subst hB; simp
  have eB : Ext NoB A B := by subst hB; (repeat first | exact Ext.refl | assumption | refine Ext.allocN ?_ | refine Ext.setN ?_ (by first | omega | (simp; done) | (simp; omega)))
  refine read_ok B k s hs _ fun C eC => ?_
  have c2 := eC.get b2 id
  have eeC := eB.trans eC
  have lC := AHeap.get_lt c2
  cases hd : Op.dec k s with
  | ok x =>
    rw [hd] at hq
    simp [resR]
    generalize hD : AHeap.alloc _ _ = D
    have d4 : D.get C.size = some (.cells x.cells false 0) := by subst hD; simp
    have d2 : D.get (A.size + 1) = some (.cells opZ false 0) := by subst hD; simp [c2, show A.size + 1 ≠ C.size by omega, show A.size ≠ C.size by omega]
    have eD : Ext NoB C D := by subst hD; (repeat first | exact Ext.refl | assumption | refine Ext.allocN ?_ | refine Ext.setN ?_ (by first | omega | (simp; done) | (simp; omega)))
    have lD := AHeap.get_lt d2
    refine asn_ok _ _ _ ?_
    simp [d4, d2, lD]
    exact hq _ (by have := eeC.trans eD; (repeat first | exact Ext.refl | assumption | refine Ext.allocN ?_ | refine Ext.setN ?_ (by first | omega | (simp; done) | (simp; omega))))
  | error e =>
    rw [hd] at hq
    simp [resR]
    generalize hD : AHeap.alloc _ _ = D
    have d2 : D.get (A.size + 1) = some (.cells opZ false 0) := by subst hD; simp [c2, show A.size + 1 ≠ C.size by omega, show A.size ≠ C.size by omega]
    have d6 : D.get (C.size + 1) = some (.cells [.int .i64 0] false 0) := by subst hD; simp
    have eD : Ext NoB C D := by subst hD; (repeat first | exact Ext.refl | assumption | refine Ext.allocN ?_ | refine Ext.setN ?_ (by first | omega | (simp; done) | (simp; omega)))
    have eeD := eeC.trans eD
    refine as_ok D e _ d6 (hE.extN eeD) _ ?_
    generalize hF : D.set _ _ = F
    have l6 := AHeap.get_lt d6
    have f2 : F.get (A.size + 1) = some (.cells opZ false 0) := by subst hF; simp [d2, show A.size ≠ C.size by omega]
    have f6 : F.get (C.size + 1) = some (.cells [.int .i64 e] false 0) := by subst hF; simp [l6]
    have eF : Ext NoB A F := by subst hF; have := eeC.size; (repeat first | exact Ext.refl | assumption | refine Ext.allocN ?_ | refine Ext.setN ?_ (by first | omega | (simp; done) | (simp; omega)))
    have lF := AHeap.get_lt f2
    simp
    refine wC_opsD_chk ?_
    simp [f2, f6, lF]
    refine wE_intro ?_ ?_
    · simp only [List.all_cons, List.all_nil, chkOk, List.nil_append, List.cons_append, List.getElem?_cons_succ, List.getElem?_cons_zero]
      simp [Bx, f6, vbeq, show C.size ≠ A.size by omega]
    simp [lF]
    exact hq _ (by (repeat first | exact Ext.refl | assumption | refine Ext.allocN ?_ | refine Ext.setN ?_ (by first | omega | (simp; done) | (simp; omega))))
end Go.Proofs.YtigknpfjhegkgaaGreatDoor
