/- mode.Next. -/
import Derived.Test.YtcfahggmejpdbaaDoorSd
import Derived.KernelRfl
namespace Go.Proofs.YtcfahggmejpdbaaDoor
open Go Go.AS
set_option maxRecDepth 100000
set_option linter.unusedSimpArgs false
set_option linter.unusedVariables false
attribute [local irreducible] Trie.set Trie.get Env.rd
attribute [local simp] Nat.add_assoc wD_cons'' wD_nil' wC_seq wC_ops wC_opsD_nil wC_cond wC_skip wC_ret wC_exit wC_block wO_cons' wO_nil wantedA wV_eq lop qop ev wL_some wL_none wPut envOf rd_set rd_leaf eqA thenC blockC wB_true wB_false endF unwindA resultsA resA tupleA rdCell rdCells wrCells cl fillP lay rep binA unA get_set' AHeap.get_alloc oneCell beqd bned idxA

attribute [local simp] MS.len MS.one MS.take MS.at0 MS.at1 MS.at2 MS.at7 MS.putEn MS.putMd MS.putSo MS.putU0 Tn.len Tn.one Tn.take Tn.at0 Tn.at1 Tn.at2
/-- A path's change, at the place where the state lies. -/
def IsEff (fv : Value) (c : Int) : Prop := ∀ (A : AHeap) (b : Nat) (s : MS) (p : Int) (Q : Value → AHeap → Prop), A.get b = some (.cells s.cells false 0) → 0 ≤ p → p < 4 → (∀ v A', A'.get b = some (.cells (effM s c p).cells false 0) → Ext (· = b) A A' → Q v A') → wF T fv [.pointer (some ⟨b, 0, none⟩), .int .i64 p] A Q
theorem eff5 : IsEff (.func (.func 39) #[] #[]) 5 := by
  intro A b s p Q hb h0 h4 hq
  refine wF_func (first := []) (captured := []) t39 ⟨rfl, by decide⟩ ?_
  dsimp only [c39]
  have lt := AHeap.get_lt hb
  have l7 : 7 + (p.toNat + 1) ≤ 15 := by omega
  simp [h0, h4, hb, MS.putUp, l7]
  refine hq _ _ ?_ ?_
  · simp [lt, effM]
  · exact Ext.set (S := fun x => x = b) rfl
theorem eff7 : IsEff (.func (.func 42) #[] #[]) 7 := by
  intro A b s p Q hb h0 h4 hq
  refine wF_func (first := []) (captured := []) t42 ⟨rfl, by decide⟩ ?_
  dsimp only [c42]
  have lt := AHeap.get_lt hb
  have l7 : 3 + (p.toNat + 1) ≤ 15 := by omega
  simp [h0, h4, hb, MS.putPre, l7, lt]
  refine hq _ _ ?_ ?_
  · simp [lt, effM]
  · exact Ext.trans (S := fun x => x = b) (Ext.set rfl) (Ext.set rfl)
theorem eff8 : IsEff (.func (.func 44) #[] #[]) 8 := by
  intro A b s p Q hb h0 h4 hq
  refine wF_func (first := []) (captured := []) t44 ⟨rfl, by decide⟩ ?_
  dsimp only [c44]
  have lt := AHeap.get_lt hb
  have l7 : 7 + (p.toNat + 1) ≤ 15 := by omega
  simp [h0, h4, hb, MS.putUp, l7, lt]
  refine hq _ _ ?_ ?_
  · simp [lt, effM]
  · exact Ext.trans (S := fun x => x = b) (Ext.set rfl) (Ext.set rfl)
theorem eff9 : IsEff (.func (.func 46) #[] #[]) 9 := by
  intro A b s p Q hb h0 h4 hq
  refine wF_func (first := []) (captured := []) t46 ⟨rfl, by decide⟩ ?_
  dsimp only [c46]
  have lt := AHeap.get_lt hb
  have l7 : 7 + (p.toNat + 1) ≤ 15 := by omega
  have l11 : 11 + (p.toNat + 1) ≤ 15 := by omega
  refine wC_opsD_chk ?_
  simp [h0, h4, hb, MS.putUp, MS.putGone, l7, l11, lt]
  refine wE_intro ?_ ?_
  · rfl
  simp
  refine hq _ _ ?_ ?_
  · simp [lt, effM]
  · exact Ext.trans (S := fun x => x = b) (Ext.set rfl) (Ext.set rfl)

theorem row_at (f : Nat → Value) (c : Nat) (hc : c < 18) : ((rowCells f).drop (c * 3)).take 3 = [f c, .int .i64 (thenM c), effV c] := by
  match c, hc with
  | 0, _ | 1, _ | 2, _ | 3, _ | 4, _ | 5, _ | 6, _ | 7, _ | 8, _ | 9, _ | 10, _ | 11, _ | 12, _ | 13, _ | 14, _ | 15, _ | 16, _ | 17, _ => rfl
  | n + 18, h => omega
theorem row_len (f : Nat → Value) : (rowCells f).length = 54 := rfl
theorem effV_cases (c : Nat) : (effV c = .nilFunc ∧ ∀ s p, effM s c p = s) ∨ ∃ k, effV c = .func (.func k) #[] #[] ∧ IsEff (effV c) c := by
  unfold effV
  by_cases h5 : c = 5
  · subst h5; exact .inr ⟨_, rfl, eff5⟩
  · by_cases h7 : c = 7
    · subst h7; exact .inr ⟨_, rfl, eff7⟩
    · by_cases h8 : c = 8
      · subst h8; exact .inr ⟨_, rfl, eff8⟩
      · by_cases h9 : c = 9
        · subst h9; exact .inr ⟨_, rfl, eff9⟩
        · refine .inl ⟨by simp [h5, h7, h8, h9], fun s p => ?_⟩
          unfold effM
          rw [if_neg (by omega), if_neg (by omega), if_neg (by omega), if_neg (by omega)]

def turnIn (t : Tn) : Prop := (0 ≤ t.c ∧ t.c < 18) ∧ 0 ≤ t.p ∧ t.p < 4
theorem okT_in (s : MS) (t : Tn) : okT s t = true ↔ turnIn t ∧ t.m = thenM t.c ∧ mayM s t.c t.p = true := by
  simp [okT, turnIn, and_assoc]

theorem next_ok (A : AHeap) (s : MS) (t : Tn) (Q : Value → AHeap → Prop) (hq : ∀ A', Ext NoB A A' → Q (.tuple ⟨[.agg ⟨(nx s t).cells⟩, .bool (okT s t)]⟩) A') : wF T (.func (.func 13) #[] #[]) [.agg ⟨s.cells⟩, .agg ⟨t.cells⟩] A Q := by
  refine wF_func (first := []) (captured := []) t13 ⟨rfl, by decide⟩ ?_
  dsimp only [c13]
  by_cases hin : turnIn t
  · obtain ⟨⟨hc0, hc1⟩, hp0, hp1⟩ := hin
    obtain ⟨c, hc⟩ : ∃ c : Nat, t.c = c := ⟨t.c.toNat, by omega⟩
    have hc18 : c < 18 := by omega
    simp [show ¬ t.c < 0 by omega, show ¬ 18 ≤ t.c by omega, show ¬ t.p < 0 by omega, show ¬ 4 ≤ t.p by omega]
    refine wC_opsD_chk ?_
    simp
    generalize hA1 : ((A.alloc _).alloc _).alloc _ = A1
    have e1 : Ext NoB A A1 := by rw [← hA1]; exact ((Ext.alloc).trans Ext.alloc).trans Ext.alloc
    have g0 : A1.get A.size = some (.cells s.cells false 0) := by rw [← hA1]; simp
    have g1 : A1.get (A.size + 1) = some (.cells t.cells false 0) := by rw [← hA1]; simp
    have g2 : ∃ z, z.length = 15 ∧ A1.get (A.size + 2) = some (.cells z false 0) := by rw [← hA1]; exact ⟨[.int .i64 0, .int .i64 0, .bool false, .bool false, .bool false, .bool false, .bool false, .bool false, .bool false, .bool false, .bool false, .bool false, .bool false, .bool false, .bool false], rfl, by simp⟩
    obtain ⟨z, z15, g2⟩ := g2
    clear hA1
    refine rows_ok A1 _ fun A2 f e2 hf ho => ?_
    have k0 := e2.get g0 id
    have k1 := e2.get g1 id
    have k2 := e2.get g2 id
    have l0 := AHeap.get_lt k0
    have l1 := AHeap.get_lt k1
    have l2 := AHeap.get_lt k2
    have o1 := ho c hc18
    have o2 : oneCell (effV c) = true := by
      rcases effV_cases c with ⟨q, _⟩ | ⟨k, q, _⟩ <;> rw [q] <;> rfl
    simp only [oneCell] at o1 o2
    have cm : c * 3 + 3 ≤ 54 := by omega
    simp [k1, hc, row_at f c hc18, row_len, cm, o1, o2, show (c : Int) < 18 by omega]
    refine wE_intro ?_ ?_
    · simp only [List.all_cons, List.all_nil, chkOk, List.nil_append, List.cons_append, List.getElem?_cons_succ, List.getElem?_cons_zero]
      simp [Bx, g1, k1, vbeq, hc]
    simp [k1, hc, show A.size + 1 ≠ A2.size by omega, show A.size ≠ A2.size by omega, show A.size + 2 ≠ A2.size by omega]
    generalize hA3 : AHeap.set (AHeap.alloc A2 _) A2.size _ = A3
    have e3 : Ext NoB A2 A3 := by
      rw [← hA3]
      exact ⟨by simp, fun b hb _ => by simp [show b ≠ A2.size by omega]⟩
    have m3 : A3.get A2.size = some (.cells [f c, .int .i64 (thenM c), effV c] false 0) := by rw [← hA3]; simp
    clear hA3
    have m0 := e3.get k0 id
    have m1 := e3.get k1 id
    have m2 := e3.get k2 id
    have z1 := e1.size
    have z2 := e2.size
    have z3 := e3.size
    have fin : ∀ A4 A5, Ext NoB A3 A4 → Ext (fun b => b = A.size ∨ b = A.size + 2) A4 A5 → Ext NoB A A5 := by
      intro A4 A5 e4 e5
      have := e4.size
      exact ⟨by have := e5.size; omega, fun b hb q => by
        rw [e5.keep b (by omega) (by omega), e4.keep b (by omega) q, e3.keep b (by omega) q, e2.keep b (by omega) q, e1.keep b hb q]⟩
    by_cases hm : t.m = thenM c
    · simp [m0, m1, m3, hm]
      refine hf c hc18 A3 s t.p _ e3 hp0 hp1 fun A4 e4 => ?_
      have n0 := e4.get m0 id
      have n1 := e4.get m1 id
      have n2 := e4.get m2 id
      have n3 := e4.get m3 id
      have ll := AHeap.get_lt n2
      have hok : okT s t = mayM s c t.p := by
        simp [okT, hc, hp0, hp1, hm, show (c : Int) < 18 by omega]
      rw [hok] at hq
      have hnx : nx s t = if mayM s c t.p = true then effM { s with md := thenM c } c t.p else s := by
        simp only [nx, hok, hc]
      rw [hnx] at hq
      cases hmay : mayM s c t.p with
      | false =>
        rw [hmay] at hq
        simp [hmay, n0, n2, ll, z15, lay_whole]
        have hq' := hq _ (fin A4 (A4.set (A.size + 2) (.cells s.cells false 0)) e4 (Ext.set (.inr rfl)))
        simpa using hq'
      | true =>
        rw [hmay] at hq
        simp [hmay, n0, n1, n2, n3, ll, z15, show A.size < A4.size by omega, show A.size ≠ A2.size by omega, show A2.size ≠ A.size by omega]
        generalize hA5 : AHeap.set A4 A.size _ = A5
        have e5 : Ext (fun b => b = A.size ∨ b = A.size + 2) A4 A5 := by rw [← hA5]; exact Ext.set (.inl rfl)
        have p0 : A5.get A.size = some (.cells ({ s with md := thenM c } : MS).cells false 0) := by rw [← hA5]; simp [show A.size < A4.size by omega]
        have p1 : A5.get (A.size + 1) = some (.cells t.cells false 0) := by rw [← hA5]; simp [n1]
        have p2 : A5.get (A.size + 2) = some (.cells z false 0) := by rw [← hA5]; simp [n2]
        have p3 : A5.get A2.size = some (.cells [f c, .int .i64 (thenM c), effV c] false 0) := by rw [← hA5]; simp [n3, show A2.size ≠ A.size by omega]
        clear hA5
        rcases effV_cases c with ⟨he, hs⟩ | ⟨ke, he, hs⟩
        · have ll5 := AHeap.get_lt p2
          simp [p0, p1, p2, p3, he, lay_whole, z15, ll5]
          have hq' := hq _ (fin A4 (A5.set (A.size + 2) (.cells ({ s with md := thenM c } : MS).cells false 0)) e4 (e5.trans (Ext.set (.inr rfl))))
          simpa [hs] using hq'
        · rw [he] at p3 hs
          simp [p0, p1, p2, p3, he]
          refine hs A5 A.size _ t.p _ p0 hp0 hp1 fun v A6 q0 e6 => ?_
          have q2 := e6.get p2 (by omega)
          have ll6 := AHeap.get_lt q2
          simp [q0, q2, lay_whole, z15, ll6]
          have hq' := hq _ (fin A4 (A6.set (A.size + 2) (.cells (effM ({ s with md := thenM c } : MS) c t.p).cells false 0)) e4 ((e5.trans (e6.mono fun b _ q => .inl q)).trans (Ext.set (.inr rfl))))
          simpa using hq'
    · have hno : okT s t = false := by simp [okT, hc, hm]
      have ll := AHeap.get_lt m2
      simp [m0, m1, m2, m3, hm, ll, z15, lay_whole]
      have hq' := hq _ (fin A3 (A3.set (A.size + 2) (.cells s.cells false 0)) Ext.refl (Ext.set (.inr rfl)))
      simpa [nx, hno] using hq'
  · have hno : okT s t = false := by
      cases h : okT s t with
      | false => rfl
      | true => exact absurd ((okT_in s t).1 h).1 hin
    have hq' := fun A' e => hq A' e
    simp only [nx, hno] at hq'
    have fin : ∀ x, Ext NoB A (((((A.alloc (.cells s.cells false 0)).alloc (.cells t.cells false 0)).alloc x).set (A.size + 2) (.cells s.cells false 0))) := fun x => ⟨by simp, fun b hb q => by simp [show b ≠ A.size + 2 by omega, show b ≠ A.size + 1 by omega, show b ≠ A.size by omega]⟩
    unfold turnIn at hin
    by_cases h1 : t.c < 0
    · simp [h1, lay_whole]
      simpa using hq' _ (fin _)
    · by_cases h2 : 18 ≤ t.c
      · simp [h1, h2, lay_whole]
        simpa using hq' _ (fin _)
      · by_cases h3 : t.p < 0
        · simp [h1, h2, h3, lay_whole]
          simpa using hq' _ (fin _)
        · have h4 : 4 ≤ t.p := by omega
          simp [h1, h2, h3, h4, lay_whole]
          simpa using hq' _ (fin _)
end Go.Proofs.YtcfahggmejpdbaaDoor
