/- ModeEnds: what it answers. -/
import Derived.Test.YtcfahggmejpdbaaDoorSm
import Derived.Test.YtcfahggmejpdbaaDoorKb
import Derived.KernelRfl
namespace Go.Proofs.YtcfahggmejpdbaaDoor
open Go Go.AS
set_option maxRecDepth 100000
set_option linter.unusedSimpArgs false
set_option linter.unusedVariables false
attribute [local irreducible] Trie.set Trie.get Env.rd
attribute [local simp] Nat.add_assoc wD_cons'' wD_nil' wC_seq wC_ops wC_opsD_nil wC_cond wC_skip wC_ret wC_exit wC_block wO_cons' wO_nil wantedA wV_eq lop qop ev wL_some wL_none wPut envOf rd_set rd_leaf eqA thenC blockC wB_true wB_false endF unwindA resultsA resA tupleA rdCell rdCells wrCells cl fillP lay rep binA unA get_set' AHeap.get_alloc oneCell beqd bned idxA

attribute [local simp] MS.len MS.one MS.take MS.at0 MS.at1 MS.at2 MS.at7 MS.putEn MS.putMd MS.putSo MS.putU0 Tn.len Tn.one Tn.take Tn.at0 Tn.at1 Tn.at2
theorem works_ok (A : AHeap) (Q : Value → AHeap → Prop) (hE : EH A) (hq : Q (.bool true) A) : wF T (.func (.func 9) #[] #[]) [] A Q := by
  refine wF_func (first := []) (captured := []) t9 ⟨rfl, by decide⟩ ?_
  dsimp only [specFn]
  unfold EH at hE
  simp [specA, hE]
  exact hq
theorem walk_good {e : Int} {l : List Tn} (he : e = 0 ∨ e = 1) (h : firstBad (ms0 e) l = none) : walkR e l = (endS (ms0 e) l, none) := by
  unfold walkR
  rw [if_neg (by omega), h]
theorem over_no (s : MS) (t : Tn) (h : s.md = 5 ∨ s.md = 6) : okT s t = false := by
  have : mayM s t.c t.p = false := by
    unfold mayM fresh solo
    rcases h with h | h <;> simp [h]
  simp [okT, this]
theorem abort_ok (s : MS) : okT s ⟨15, 0, 6⟩ = (s.md != 0 && s.md != 5 && s.md != 6) := by simp [okT, thenM, mayM]
theorem abort_nx (s : MS) (h : okT s ⟨15, 0, 6⟩ = true) : nx s ⟨15, 0, 6⟩ = { s with md := 6 } := by
  unfold nx
  rw [if_pos h]; simp [effM, thenM]
theorem eq_cells (s s' : MS) : eqL [(0, .i), (1, .i), (2, .b), (3, .b), (4, .b), (5, .b), (6, .b), (7, .b), (8, .b), (9, .b), (10, .b), (11, .b), (12, .b), (13, .b), (14, .b)] s.cells s'.cells = some (decide (s = s')) := by
  obtain ⟨a0, a1, a2, a3, a4, a5, a6, a7, a8, a9, a10, a11, a12, a13, a14⟩ := s
  obtain ⟨b0, b1, b2, b3, b4, b5, b6, b7, b8, b9, b10, b11, b12, b13, b14⟩ := s'
  simp only [eqL, MS.cells, List.getElem?_cons_succ, List.getElem?_cons_zero, leafEq, MS.mk.injEq, Option.some.injEq, Bool.decide_and, Bool.and_true, beqd, Bool.beq_eq_decide_eq, if_true]

theorem ends_ok (A : AHeap) (d : Int) (bv : Value) (bl : List Int) (t : Tn) (hE : EH A) (hd : 0 ≤ d ∧ d < 256) (hb : ∀ x ∈ bl, 0 ≤ x ∧ x < 256) (hbv : ReadAt A 1 bv bl.length (ucells bl)) :
    wF T (.func (.func 5) #[] #[]) [.agg ⟨[.int .u8 d, bv]⟩, .agg ⟨t.cells⟩] A (fun v _ => v = .bool true) := by
  have he := (tmod2 d hd.1).2
  obtain ⟨ba, bc, rfl⟩ := hbv.val
  refine wF_func (first := []) (captured := []) t5 ⟨rfl, by decide⟩ ?_
  dsimp only [c5]
  simp
  have e1 : Ext NoB A ((A.alloc (.cells [.int .u8 d, .slice ba bl.length bc] false 0)).alloc (.cells t.cells false 0)) := Ext.alloc.trans Ext.alloc
  refine works_ok _ _ (hE.extN e1) ?_
  simp
  generalize hA1 : (A.alloc _).alloc _ = A1 at e1
  have g3 : A1.get (A.size + 1) = some (.cells t.cells false 0) := by rw [← hA1]; simp
  clear hA1
  refine turns_ok A1 d _ bl _ hd hb (hbv.ext e1 fun _ _ => id) rfl fun A2 v l e2 hl hok hs ho => ?_
  generalize d.tmod 2 = e at he hok
  simp
  refine last_ok A2 e v l _ ((hE.extN e1).extN e2) (by omega) hs.read fun A3 e3 => ?_
  rw [walk_good he hok]
  simp [lay_whole]
  generalize hs0 : endS (ms0 e) l = s
  generalize hA4 : AHeap.set (AHeap.alloc A3 _) A3.size _ = A4
  have e4 : Ext NoB A3 A4 := by rw [← hA4]; exact ⟨by simp, fun b hb _ => by simp [show b ≠ A3.size by omega]⟩
  have g7 : A4.get A3.size = some (.cells s.cells false 0) := by rw [← hA4]; simp
  clear hA4
  refine turn_ok A4 15 0 6 _ fun A5 e5 => ?_
  have h7 := e5.get g7 id
  have l7 := AHeap.get_lt h7
  simp [h7, lay_turn, show A3.size ≠ A5.size by omega]
  generalize hA6 : AHeap.set (AHeap.alloc A5 _) A5.size _ = A6
  have e6 : Ext NoB A5 A6 := by rw [← hA6]; exact ⟨by simp, fun b hb _ => by simp [show b ≠ A5.size by omega]⟩
  clear hA6
  refine next_ok A6 s ⟨15, 0, 6⟩ _ fun A7 e7 => ?_
  have k7 := e7.get (e6.get h7 id) id
  have m7 := AHeap.get_lt k7
  have k3 := e7.get (e6.get (e5.get (e4.get (e3.get (e2.get g3 id) id) id) id) id) id
  have m3 := AHeap.get_lt k3
  simp [lay_whole, k7, show A3.size ≠ A7.size by omega]
  generalize hA8 : AHeap.set (AHeap.alloc A7 _) A7.size _ = A8
  have e8 : Ext NoB A7 A8 := by rw [← hA8]; exact ⟨by simp, fun b hb _ => by simp [show b ≠ A7.size by omega]⟩
  have g10 : A8.get A7.size = some (.cells (nx s ⟨15, 0, 6⟩).cells false 0) := by rw [← hA8]; simp
  clear hA8
  have n7 := e8.get k7 id
  have n3 := e8.get k3 id
  rw [abort_ok]
  by_cases h5 : s.md = 5
  · simp [h5, n7, n3, undef]
    refine next_ok A8 s t _ fun A9 e9 => ?_
    have o7 := e9.get n7 id
    have no := over_no s t (.inl h5)
    have nn : nx s t = s := by unfold nx; rw [if_neg (by simp [no])]
    have q7 := AHeap.get_lt o7
    simp [no, nn, lay_whole, o7, show A3.size ≠ A9.size by omega, eq_cells]
  · by_cases h6 : s.md = 6
    · simp [h5, h6, n7, n3, undef]
      refine next_ok A8 s t _ fun A9 e9 => ?_
      have o7 := e9.get n7 id
      have no := over_no s t (.inr h6)
      have nn : nx s t = s := by unfold nx; rw [if_neg (by simp [no])]
      have q7 := AHeap.get_lt o7
      simp [no, nn, lay_whole, o7, show A3.size ≠ A9.size by omega, eq_cells]
    · by_cases h0 : s.md = 0
      · simp [h0, n7, undef]
      · have hok2 : okT s ⟨15, 0, 6⟩ = true := by rw [abort_ok]; simp [h0, h5, h6]
        rw [abort_nx s hok2] at g10
        simp [h0, h5, h6, n7, g10, undef]
end Go.Proofs.YtcfahggmejpdbaaDoor
