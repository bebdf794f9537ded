/- The contracts of Walk and walked of stage 4. -/
import Derived.Test.YtkojapepiojnjaaQf
import Derived.KernelRfl
namespace Go.Proofs.Ytkojapepiojnjaa
open Go Go.AS
set_option maxRecDepth 100000
set_option linter.unusedSimpArgs false
set_option linter.unusedVariables false
attribute [local irreducible] Trie.set Trie.get Env.rd
attribute [local simp] Nat.add_assoc wD_cons'' wD_nil' wC_seq wC_ops wC_opsD_nil wC_cond wC_skip wC_ret wC_exit wC_block wO_cons' wO_nil wantedA wV_eq lop qop ev wL_some wL_none wPut envOf rd_set rd_leaf eqA thenC blockC wB_true wB_false endF unwindA resultsA resA tupleA rdCell rdCells wrCells cl fillP lay rep binA unA get_set' AHeap.get_alloc oneCell

theorem walkfn_ok (s : ByteArray) (A : AHeap) (Q : Value → AHeap → Prop) (hq : Q (.func (.func 21) ⟨[]⟩ ⟨[.pointer (some ⟨A.size, 0, none⟩)]⟩) (A.alloc (.cells [.string s] false 0))) : wF T (.func (.func 20) #[] #[]) [.string s] A Q := by
  refine wF_func (first := []) (captured := []) t20 ⟨rfl, by decide⟩ ?_
  dsimp only [c20]; simp
  exact hq

theorem walk_ok (s : ByteArray) (A : AHeap) (Q : Value → AHeap → Prop) (hs : s.size < 1000000)
    (hq : ∀ A' sv, SliceAt A' 2 sv (walkR s.data.toList).1.length (icells (walkR s.data.toList).1) → Ext NoB A A' → (∀ j, Own sv j → A.size ≤ j) → Q (.tuple ⟨[sv, .int .i64 (walkR s.data.toList).2]⟩) A') : wF T (.func (.func 13) #[] #[]) [.string s] A Q := by
  refine wF_func (first := []) (captured := []) t13 ⟨rfl, by decide⟩ ?_
  dsimp only [c13]
  have hsz : s.data.toList.length = s.size := rfl
  have no : ∀ j, Own (.slice none 0 0) j → A.size ≤ j := fun j ⟨_, _, _, q⟩ => by cases q
  by_cases h40 : 40 < s.size
  · have h40' : (40 : Int) < (s.size : Int) := by omega
    have hR : walkR s.data.toList = ([], 6) := by unfold walkR; rw [hsz, if_pos h40]
    rw [hR] at hq
    simp [h40']
    exact hq _ (.slice none 0 0) .nil ⟨by simp, fun j hj _ => by simp [show j ≠ A.size by omega, show j ≠ A.size + 1 by omega]⟩ no
  · have h40' : ¬ (40 : Int) < (s.size : Int) := by omega
    by_cases h4 : s.size % 4 = 0
    · have h4' : ((s.size : Int).tmod 4) = 0 := by rw [rem4, h4]; rfl
      simp [h40', h4']
      refine walkfn_ok s _ _ ?_
      simp
      refine wC_range ?_
      simp
      refine walk1_ok (A.size + 4) A.size (A.size + 1) (A.size + 3) (A.size + 2) _ s (.int .i64 0) _ _ (get_alloc_top (by simp)) (by simp) (by simp) (by simp) (by simp) (by simp) (by omega) (by omega) (by omega) (by omega) (by omega) (by omega) (by omega) (fun hw A' sv v y1 y2 y3 y4 y5 => ?_) (fun hw A' v y1 y2 y3 y4 => ?_)
      · have hR : walkR s.data.toList = walkL s.data.toList := by unfold walkR; rw [hsz, if_neg h40, if_neg (by omega), if_pos hw]
        rw [hR, hw] at hq
        have gd := y4.get (b := A.size + 3) (x := .dfr false) (by simp) (by omega)
        have gu := y4.get (b := A.size + 1) (x := .cells [.int .i64 0] false 0) (by simp) (by omega)
        have e0 : Ext (fun j => j = A.size ∨ j = A.size + 4) A A' := Ext.trans (Ext.alloc.trans (Ext.alloc.trans (Ext.alloc.trans (Ext.alloc.trans Ext.alloc)))) y4
        have z1 := AHeap.get_lt y1
        obtain ⟨av, cv, hv⟩ := y3.read.val
        subst hv
        simp [endR, y1]
        refine ⟨.normal, rfl, ?_⟩
        generalize hA6 : A'.set (A.size + 4) _ = A6
        have e6 : Ext (fun j => j = A.size + 4) A' A6 := by rw [← hA6]; exact Ext.set rfl
        have gt6 := e6.get y2 (by omega)
        have gd6 := e6.get gd (by omega)
        have gu6 := e6.get gu (by omega)
        have z6 := e6.size
        have w0 : A.size < A6.size := by omega
        have w1 : A.size + 1 < A6.size := by omega
        have w3 : A.size + 3 < A6.size := by omega
        simp [gt6, gd6, gu6, w0, w1, w3]
        have f : Ext (fun j => A.size ≤ j) A6 (((A6.set A.size (.cells [.slice av (walkL s.data.toList).1.length cv] false 0)).set (A.size + 1) (.cells [.int .i64 0] false 0)).set (A.size + 3) (.dfr true)) := (Ext.set (Nat.le_refl _)).trans ((Ext.set (by omega)).trans (Ext.set (by omega)))
        have o1 : ∀ j, Own (.slice av (walkL s.data.toList).1.length cv) j → A.size + 5 ≤ j := fun j q => by have := y5 j q; simpa using this
        refine hq _ _ ?_ ((e0.mono (S' := NoB) fun j hj q => by omega).trans2 e6 (fun j hj q => by omega) |>.trans2 f fun j hj q => by omega) fun j hj => by have := o1 j hj; omega
        have y3' := y3.ext e6 fun j hj q => by have := o1 j hj; omega
        have f2 : Ext (fun j => j = A.size ∨ j = A.size + 1 ∨ j = A.size + 3) A6 (((A6.set A.size (.cells [.slice av (walkL s.data.toList).1.length cv] false 0)).set (A.size + 1) (.cells [.int .i64 0] false 0)).set (A.size + 3) (.dfr true)) := (Ext.set (.inl rfl)).trans ((Ext.set (.inr (.inl rfl))).trans (Ext.set (.inr (.inr rfl))))
        exact y3'.ext f2 fun j hj q => by have := o1 j hj; omega
      · have hR : walkR s.data.toList = ([], (walkL s.data.toList).2) := by unfold walkR; rw [hsz, if_neg h40, if_neg (by omega), if_neg hw]
        rw [hR] at hq
        have gd := y4.get (b := A.size + 3) (x := .dfr false) (by simp) (by omega)
        have e0 : Ext (fun j => j = A.size ∨ j = A.size + 4 ∨ j = A.size + 1) A A' := Ext.trans (Ext.alloc.trans (Ext.alloc.trans (Ext.alloc.trans (Ext.alloc.trans Ext.alloc)))) y4
        have z1 := AHeap.get_lt y1
        simp [endR, y1]
        refine ⟨.ret, rfl, ?_⟩
        generalize hA6 : A'.set (A.size + 4) _ = A6
        have e6 : Ext (fun j => j = A.size + 4) A' A6 := by rw [← hA6]; exact Ext.set rfl
        have gt6 := e6.get y2 (by omega)
        have gd6 := e6.get gd (by omega)
        have gu6 := e6.get y3 (by omega)
        have z6 := e6.size
        have w3 : A.size + 3 < A6.size := by omega
        simp [gt6, gd6, gu6, w3]
        exact hq _ (.slice none 0 0) .nil ((e0.mono (S' := NoB) fun j hj q => by omega).trans2 e6 (fun j hj q => by omega) |>.trans2 (Ext.set (S := fun j => j = A.size + 3) rfl) fun j hj q => by omega) no
    · have h4' : ((s.size : Int).tmod 4 != 0) = true := by
        have : ¬ ((s.size : Int).tmod 4) = 0 := by rw [rem4]; omega
        simp [this]
      have hR : walkR s.data.toList = ([], 5) := by unfold walkR; rw [hsz, if_neg h40, if_pos h4]
      rw [hR] at hq
      simp [h40', h4']
      exact hq _ (.slice none 0 0) .nil ⟨by simp, fun j hj _ => by simp [show j ≠ A.size by omega, show j ≠ A.size + 1 by omega]⟩ no


theorem walkL_len : ∀ (n : Nat) (l : List UInt8), l.length ≤ n → (walkL l).1.length ≤ l.length := by
  intro n
  induction n with
  | zero => intro l h; have : l = [] := List.length_eq_zero_iff.1 (by omega); subst this; rw [walkL_nil]; simp
  | succ n ih =>
    intro l h
    cases l with
    | nil => rw [walkL_nil]; simp
    | cons k r =>
      by_cases h0 : k = 0
      · rw [h0, walkL_zero]; simp
      · by_cases h1 : k = 1
        · rw [h1, walkL_one]
          have := ih r (by simpa using h)
          simp; omega
        · cases r with
          | nil => rw [walkL_short k h0 h1]; simp
          | cons m r =>
            by_cases h2 : m.toNat < 2
            · rw [walkL_form k m r h0 h1 h2]; simp
            · by_cases h3 : r.length + 2 < m.toNat
              · rw [walkL_long k m r h0 h1 h2 h3]; simp
              · rw [walkL_item k m r h0 h1 h2 h3]
                have := ih (r.drop (m.toNat - 2)) (by simp at h ⊢; omega)
                simp at this ⊢; omega
theorem walkR_len (l : List UInt8) : (walkR l).1.length ≤ l.length := by
  unfold walkR
  have := walkL_len l.length l (Nat.le_refl _)
  split
  · simp
  · split
    · simp
    · split
      · exact this
      · simp

theorem walked_ok (s : ByteArray) (its : List It) (lv : Value) (A : AHeap) (Q : Value → AHeap → Prop) (h : ReadAt A 2 lv its.length (icells its)) (ho : ∀ j, Own lv j → j < A.size) (hs : s.size < 1000000)
    (hq : ∀ A', Ext NoB A A' → Q (.bool (decide (walkR s.data.toList = (its, 0)))) A') : wF T (.func (.func 17) #[] #[]) [.string s, lv] A Q := by
  refine wF_func (first := []) (captured := []) t17 ⟨rfl, by decide⟩ ?_
  dsimp only [c17]
  simp
  refine walk_ok s A _ hs fun A' sv y1 y2 y3 => ?_
  have wl := walkR_len s.data.toList
  rw [show s.data.toList.length = s.size from rfl] at wl
  generalize walkR s.data.toList = w at y1 hq wl ⊢
  obtain ⟨L, c⟩ := w
  simp only at y1 wl
  by_cases hc : c = 0
  · have e1 : (c == 0) = true := by simp [hc]
    simp [e1]
    refine same_ok _ _ L its A' _ y1.read (h.ext y2 fun _ _ q => q) (by omega) ?_
    · simp
      have : decide ((L, c) = (its, 0)) = decide (L = its) := by rw [hc]; simp
      rw [this] at hq
      exact hq A' y2
  · have e1 : (c == 0) = false := by simp [hc]
    have : decide ((L, c) = (its, 0)) = false := by simp [hc]
    rw [this] at hq
    simp [e1]
    exact hq A' y2
end Go.Proofs.Ytkojapepiojnjaa
