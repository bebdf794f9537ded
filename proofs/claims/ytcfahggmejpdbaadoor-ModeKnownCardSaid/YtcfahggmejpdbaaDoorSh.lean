/- The document's rows. -/
import Derived.Test.YtcfahggmejpdbaaDoorSg
import Derived.KernelRfl
namespace Go.Proofs.YtcfahggmejpdbaaDoor
open Go Go.AS
set_option maxRecDepth 100000
set_option linter.unusedSimpArgs false
set_option linter.unusedVariables false
attribute [local irreducible] Trie.set Trie.get Env.rd
attribute [local simp] Nat.add_assoc wD_cons'' wD_nil' wC_seq wC_ops wC_opsD_nil wC_cond wC_skip wC_ret wC_exit wC_block wO_cons' wO_nil wantedA wV_eq lop qop ev wL_some wL_none wPut envOf rd_set rd_leaf eqA thenC blockC wB_true wB_false endF unwindA resultsA resA tupleA rdCell rdCells wrCells cl fillP lay rep binA unA get_set' AHeap.get_alloc oneCell beqd bned idxA

attribute [local simp] MS.len MS.one MS.take MS.at0 MS.at1 MS.at2 MS.at7 MS.putEn MS.putMd MS.putSo MS.putU0 Tn.len Tn.one Tn.take Tn.at0 Tn.at1 Tn.at2
theorem MS.at8 (s : MS) : s.cells[8]? = some (.bool s.u1) := rfl
theorem MS.at9 (s : MS) : s.cells[9]? = some (.bool s.u2) := rfl
theorem MS.at10 (s : MS) : s.cells[10]? = some (.bool s.u3) := rfl
theorem wr1 : IntKind.i64.wrap 1 = 1 := by decide
theorem wr2 : IntKind.i64.wrap 2 = 2 := by decide
theorem wr3 : IntKind.i64.wrap 3 = 3 := by decide
theorem wr4 : IntKind.i64.wrap 4 = 4 := by decide
attribute [local simp] wr1 wr2 wr3 wr4
def noneB (s : MS) : Bool := !s.u0 && !s.u1 && !s.u2 && !s.u3
theorem rnone_ok (A : AHeap) (s : MS) (Q : Value → AHeap → Prop) (hq : ∀ A', Ext NoB A A' → Q (.bool (noneB s)) A') : wF T (.func (.func 50) #[] #[]) [.agg ⟨s.cells⟩] A Q := by
  refine wF_func (first := []) (captured := []) t50 ⟨rfl, by decide⟩ ?_
  dsimp only [c50]
  have hq' : Q (.bool (noneB s)) (A.alloc (.cells s.cells false 0)) := hq _ Ext.alloc
  clear hq
  unfold noneB at hq'
  simp
  refine wC_loop ?_
  cases h0 : s.u0 with
  | true => simp [h0]; simpa [h0] using hq'
  | false =>
    simp [h0]
    refine wC_loop ?_
    cases h1 : s.u1 with
    | true => simp [h1, MS.at8]; simpa [h0, h1] using hq'
    | false =>
      simp [h1, MS.at8]
      refine wC_loop ?_
      cases h2 : s.u2 with
      | true => simp [h2, MS.at9]; simpa [h0, h1, h2] using hq'
      | false =>
        simp [h2, MS.at9]
        refine wC_loop ?_
        cases h3 : s.u3 with
        | true => simp [h3, MS.at10]; simpa [h0, h1, h2, h3] using hq'
        | false =>
          simp [h3, MS.at10]
          refine wC_loop ?_
          simp
          simpa [h0, h1, h2, h3] using hq'
def thenD (c : Int) : Int := if 0 ≤ c ∧ c < 18 then thenM c else 0
theorem rmay_0 (A : AHeap) (s : MS) (t : Tn) (Q : Value → AHeap → Prop) (hc : t.c = 0) (h0 : 0 ≤ t.p) (h4 : t.p < 4) (hq : ∀ A', Ext NoB A A' → Q (.tuple ⟨[.bool (mayM s t.c t.p), .int .i64 (thenD t.c)]⟩) A') : wF T (.func (.func 31) #[] #[]) [.agg ⟨s.cells⟩, .agg ⟨t.cells⟩] A Q := by
  refine wF_func (first := []) (captured := []) t31 ⟨rfl, by decide⟩ ?_
  dsimp only [c31]
  have hq' := hq ((A.alloc (.cells s.cells false 0)).alloc (.cells t.cells false 0)) (Ext.alloc.trans Ext.alloc)
  clear hq
  rw [hc] at hq'
  simp [mayM, thenD, thenM, fresh, solo] at hq'
  by_cases hen0 : s.en = 0 <;> by_cases hmd0 : s.md = 0 <;> (simp [hc, h0, h4, MS.atPre, MS.atUp, MS.atGone, undef, hen0, hmd0]; simpa [show (0 < t.p) = (t.p ≠ 0) by simp; omega, hen0, hmd0] using hq')
theorem rmay_1 (A : AHeap) (s : MS) (t : Tn) (Q : Value → AHeap → Prop) (hc : t.c = 1) (h0 : 0 ≤ t.p) (h4 : t.p < 4) (hq : ∀ A', Ext NoB A A' → Q (.tuple ⟨[.bool (mayM s t.c t.p), .int .i64 (thenD t.c)]⟩) A') : wF T (.func (.func 31) #[] #[]) [.agg ⟨s.cells⟩, .agg ⟨t.cells⟩] A Q := by
  refine wF_func (first := []) (captured := []) t31 ⟨rfl, by decide⟩ ?_
  dsimp only [c31]
  have hq' := hq ((A.alloc (.cells s.cells false 0)).alloc (.cells t.cells false 0)) (Ext.alloc.trans Ext.alloc)
  clear hq
  rw [hc] at hq'
  simp [mayM, thenD, thenM, fresh, solo] at hq'
  by_cases hen1 : s.en = 1 <;> by_cases hmd0 : s.md = 0 <;> (simp [hc, h0, h4, MS.atPre, MS.atUp, MS.atGone, undef, hen1, hmd0]; simpa [show (0 < t.p) = (t.p ≠ 0) by simp; omega, hen1, hmd0] using hq')
theorem rmay_2 (A : AHeap) (s : MS) (t : Tn) (Q : Value → AHeap → Prop) (hc : t.c = 2) (h0 : 0 ≤ t.p) (h4 : t.p < 4) (hq : ∀ A', Ext NoB A A' → Q (.tuple ⟨[.bool (mayM s t.c t.p), .int .i64 (thenD t.c)]⟩) A') : wF T (.func (.func 31) #[] #[]) [.agg ⟨s.cells⟩, .agg ⟨t.cells⟩] A Q := by
  refine wF_func (first := []) (captured := []) t31 ⟨rfl, by decide⟩ ?_
  dsimp only [c31]
  have hq' := hq ((A.alloc (.cells s.cells false 0)).alloc (.cells t.cells false 0)) (Ext.alloc.trans Ext.alloc)
  clear hq
  rw [hc] at hq'
  simp [mayM, thenD, thenM, fresh, solo] at hq'
  by_cases hen1 : s.en = 1 <;> by_cases hmd0 : s.md = 0 <;> (simp [hc, h0, h4, MS.atPre, MS.atUp, MS.atGone, undef, hen1, hmd0]; simpa [show (0 < t.p) = (t.p ≠ 0) by simp; omega, hen1, hmd0] using hq')
theorem rmay_3 (A : AHeap) (s : MS) (t : Tn) (Q : Value → AHeap → Prop) (hc : t.c = 3) (h0 : 0 ≤ t.p) (h4 : t.p < 4) (hq : ∀ A', Ext NoB A A' → Q (.tuple ⟨[.bool (mayM s t.c t.p), .int .i64 (thenD t.c)]⟩) A') : wF T (.func (.func 31) #[] #[]) [.agg ⟨s.cells⟩, .agg ⟨t.cells⟩] A Q := by
  refine wF_func (first := []) (captured := []) t31 ⟨rfl, by decide⟩ ?_
  dsimp only [c31]
  have hq' := hq ((A.alloc (.cells s.cells false 0)).alloc (.cells t.cells false 0)) (Ext.alloc.trans Ext.alloc)
  clear hq
  rw [hc] at hq'
  simp [mayM, thenD, thenM, fresh, solo] at hq'
  by_cases hmd1 : s.md = 1 <;> (simp [hc, h0, h4, MS.atPre, MS.atUp, MS.atGone, undef, hmd1]; simpa [show (0 < t.p) = (t.p ≠ 0) by simp; omega, hmd1] using hq')
theorem rmay_4 (A : AHeap) (s : MS) (t : Tn) (Q : Value → AHeap → Prop) (hc : t.c = 4) (h0 : 0 ≤ t.p) (h4 : t.p < 4) (hq : ∀ A', Ext NoB A A' → Q (.tuple ⟨[.bool (mayM s t.c t.p), .int .i64 (thenD t.c)]⟩) A') : wF T (.func (.func 31) #[] #[]) [.agg ⟨s.cells⟩, .agg ⟨t.cells⟩] A Q := by
  refine wF_func (first := []) (captured := []) t31 ⟨rfl, by decide⟩ ?_
  dsimp only [c31]
  have hq' := hq ((A.alloc (.cells s.cells false 0)).alloc (.cells t.cells false 0)) (Ext.alloc.trans Ext.alloc)
  clear hq
  rw [hc] at hq'
  simp [mayM, thenD, thenM, fresh, solo] at hq'
  by_cases hmd1 : s.md = 1 <;> (simp [hc, h0, h4, MS.atPre, MS.atUp, MS.atGone, undef, hmd1]; simpa [show (0 < t.p) = (t.p ≠ 0) by simp; omega, hmd1] using hq')
theorem rmay_5 (A : AHeap) (s : MS) (t : Tn) (Q : Value → AHeap → Prop) (hc : t.c = 5) (h0 : 0 ≤ t.p) (h4 : t.p < 4) (hq : ∀ A', Ext NoB A A' → Q (.tuple ⟨[.bool (mayM s t.c t.p), .int .i64 (thenD t.c)]⟩) A') : wF T (.func (.func 31) #[] #[]) [.agg ⟨s.cells⟩, .agg ⟨t.cells⟩] A Q := by
  refine wF_func (first := []) (captured := []) t31 ⟨rfl, by decide⟩ ?_
  dsimp only [c31]
  have hq' := hq ((A.alloc (.cells s.cells false 0)).alloc (.cells t.cells false 0)) (Ext.alloc.trans Ext.alloc)
  clear hq
  rw [hc] at hq'
  simp [mayM, thenD, thenM, fresh, solo] at hq'
  by_cases hmd2 : s.md = 2 <;> (simp [hc, h0, h4, MS.atPre, MS.atUp, MS.atGone, undef, hmd2]; simpa [show (0 < t.p) = (t.p ≠ 0) by simp; omega, hmd2] using hq')
theorem rmay_6 (A : AHeap) (s : MS) (t : Tn) (Q : Value → AHeap → Prop) (hc : t.c = 6) (h0 : 0 ≤ t.p) (h4 : t.p < 4) (hq : ∀ A', Ext NoB A A' → Q (.tuple ⟨[.bool (mayM s t.c t.p), .int .i64 (thenD t.c)]⟩) A') : wF T (.func (.func 31) #[] #[]) [.agg ⟨s.cells⟩, .agg ⟨t.cells⟩] A Q := by
  refine wF_func (first := []) (captured := []) t31 ⟨rfl, by decide⟩ ?_
  dsimp only [c31]
  have hq' := hq ((A.alloc (.cells s.cells false 0)).alloc (.cells t.cells false 0)) (Ext.alloc.trans Ext.alloc)
  clear hq
  rw [hc] at hq'
  simp [mayM, thenD, thenM, fresh, solo] at hq'
  by_cases hmd2 : s.md = 2 <;> (simp [hc, h0, h4, MS.atPre, MS.atUp, MS.atGone, undef, hmd2]; simpa [show (0 < t.p) = (t.p ≠ 0) by simp; omega, hmd2] using hq')
theorem rmay_7 (A : AHeap) (s : MS) (t : Tn) (Q : Value → AHeap → Prop) (hc : t.c = 7) (h0 : 0 ≤ t.p) (h4 : t.p < 4) (hq : ∀ A', Ext NoB A A' → Q (.tuple ⟨[.bool (mayM s t.c t.p), .int .i64 (thenD t.c)]⟩) A') : wF T (.func (.func 31) #[] #[]) [.agg ⟨s.cells⟩, .agg ⟨t.cells⟩] A Q := by
  refine wF_func (first := []) (captured := []) t31 ⟨rfl, by decide⟩ ?_
  dsimp only [c31]
  have hq' := hq ((A.alloc (.cells s.cells false 0)).alloc (.cells t.cells false 0)) (Ext.alloc.trans Ext.alloc)
  clear hq
  rw [hc] at hq'
  simp [mayM, thenD, thenM, fresh, solo] at hq'
  by_cases hen0 : s.en = 0
  rotate_left
  · (simp [hc, h0, h4, MS.atPre, MS.atUp, MS.atGone, undef, hen0]; simpa [show (0 < t.p) = (t.p ≠ 0) by simp; omega, hen0] using hq')
  by_cases hmd3 : s.md = 3
  rotate_left
  · (simp [hc, h0, h4, MS.atPre, MS.atUp, MS.atGone, undef, hen0, hmd3]; simpa [show (0 < t.p) = (t.p ≠ 0) by simp; omega, hen0, hmd3] using hq')
  by_cases hp : t.p = 0
  · (simp [hc, h0, h4, MS.atPre, MS.atUp, MS.atGone, undef, hen0, hmd3, hp]; simpa [show (0 < t.p) = (t.p ≠ 0) by simp; omega, hen0, hmd3, hp] using hq')
  cases hpre : s.pre t.p with
  | true => (simp [hc, h0, h4, MS.atPre, MS.atUp, MS.atGone, undef, hen0, hmd3, hp, hpre]; simpa [show (0 < t.p) = (t.p ≠ 0) by simp; omega, hen0, hmd3, hp, hpre] using hq')
  | false =>
    cases hup : s.up t.p with
    | true => (simp [hc, h0, h4, MS.atPre, MS.atUp, MS.atGone, undef, hen0, hmd3, hp, hpre, hup]; simpa [show (0 < t.p) = (t.p ≠ 0) by simp; omega, hen0, hmd3, hp, hpre, hup] using hq')
    | false =>
      cases hgone : s.gone t.p with
      | true => (simp [hc, h0, h4, MS.atPre, MS.atUp, MS.atGone, undef, hen0, hmd3, hp, hpre, hup, hgone]; simpa [show (0 < t.p) = (t.p ≠ 0) by simp; omega, hen0, hmd3, hp, hpre, hup, hgone] using hq')
      | false => (simp [hc, h0, h4, MS.atPre, MS.atUp, MS.atGone, undef, hen0, hmd3, hp, hpre, hup, hgone]; simpa [show (0 < t.p) = (t.p ≠ 0) by simp; omega, hen0, hmd3, hp, hpre, hup, hgone] using hq')
theorem rmay_8 (A : AHeap) (s : MS) (t : Tn) (Q : Value → AHeap → Prop) (hc : t.c = 8) (h0 : 0 ≤ t.p) (h4 : t.p < 4) (hq : ∀ A', Ext NoB A A' → Q (.tuple ⟨[.bool (mayM s t.c t.p), .int .i64 (thenD t.c)]⟩) A') : wF T (.func (.func 31) #[] #[]) [.agg ⟨s.cells⟩, .agg ⟨t.cells⟩] A Q := by
  refine wF_func (first := []) (captured := []) t31 ⟨rfl, by decide⟩ ?_
  dsimp only [c31]
  have hq' := hq ((A.alloc (.cells s.cells false 0)).alloc (.cells t.cells false 0)) (Ext.alloc.trans Ext.alloc)
  clear hq
  rw [hc] at hq'
  simp [mayM, thenD, thenM, fresh, solo] at hq'
  by_cases hmd3 : s.md = 3
  rotate_left
  · (simp [hc, h0, h4, MS.atPre, MS.atUp, MS.atGone, undef, hmd3]; simpa [show (0 < t.p) = (t.p ≠ 0) by simp; omega, hmd3] using hq')
  by_cases hp : t.p = 0
  · (simp [hc, h0, h4, MS.atPre, MS.atUp, MS.atGone, undef, hmd3, hp]; simpa [show (0 < t.p) = (t.p ≠ 0) by simp; omega, hmd3, hp] using hq')
  cases hup : s.up t.p with
  | true => (simp [hc, h0, h4, MS.atPre, MS.atUp, MS.atGone, undef, hmd3, hp, hup]; simpa [show (0 < t.p) = (t.p ≠ 0) by simp; omega, hmd3, hp, hup] using hq')
  | false =>
    cases hgone : s.gone t.p with
    | true => (simp [hc, h0, h4, MS.atPre, MS.atUp, MS.atGone, undef, hmd3, hp, hup, hgone]; simpa [show (0 < t.p) = (t.p ≠ 0) by simp; omega, hmd3, hp, hup, hgone] using hq')
    | false =>
      by_cases hen0 : s.en = 0
      rotate_left
      · (simp [hc, h0, h4, MS.atPre, MS.atUp, MS.atGone, undef, hmd3, hp, hup, hgone, hen0]; simpa [show (0 < t.p) = (t.p ≠ 0) by simp; omega, hmd3, hp, hup, hgone, hen0] using hq')
      cases hpre : s.pre t.p with
      | true => (simp [hc, h0, h4, MS.atPre, MS.atUp, MS.atGone, undef, hmd3, hp, hup, hgone, hen0, hpre]; simpa [show (0 < t.p) = (t.p ≠ 0) by simp; omega, hmd3, hp, hup, hgone, hen0, hpre] using hq')
      | false => (simp [hc, h0, h4, MS.atPre, MS.atUp, MS.atGone, undef, hmd3, hp, hup, hgone, hen0, hpre]; simpa [show (0 < t.p) = (t.p ≠ 0) by simp; omega, hmd3, hp, hup, hgone, hen0, hpre] using hq')
theorem rmay_9 (A : AHeap) (s : MS) (t : Tn) (Q : Value → AHeap → Prop) (hc : t.c = 9) (h0 : 0 ≤ t.p) (h4 : t.p < 4) (hq : ∀ A', Ext NoB A A' → Q (.tuple ⟨[.bool (mayM s t.c t.p), .int .i64 (thenD t.c)]⟩) A') : wF T (.func (.func 31) #[] #[]) [.agg ⟨s.cells⟩, .agg ⟨t.cells⟩] A Q := by
  refine wF_func (first := []) (captured := []) t31 ⟨rfl, by decide⟩ ?_
  dsimp only [c31]
  have hq' := hq ((A.alloc (.cells s.cells false 0)).alloc (.cells t.cells false 0)) (Ext.alloc.trans Ext.alloc)
  clear hq
  rw [hc] at hq'
  simp [mayM, thenD, thenM, fresh, solo] at hq'
  by_cases hmd3 : s.md = 3 <;> (simp [hc, h0, h4, MS.atPre, MS.atUp, MS.atGone, undef, hmd3]; simpa [show (0 < t.p) = (t.p ≠ 0) by simp; omega, hmd3] using hq')
theorem rmay_10 (A : AHeap) (s : MS) (t : Tn) (Q : Value → AHeap → Prop) (hc : t.c = 10) (h0 : 0 ≤ t.p) (h4 : t.p < 4) (hq : ∀ A', Ext NoB A A' → Q (.tuple ⟨[.bool (mayM s t.c t.p), .int .i64 (thenD t.c)]⟩) A') : wF T (.func (.func 31) #[] #[]) [.agg ⟨s.cells⟩, .agg ⟨t.cells⟩] A Q := by
  refine wF_func (first := []) (captured := []) t31 ⟨rfl, by decide⟩ ?_
  dsimp only [c31]
  have hq' := hq ((A.alloc (.cells s.cells false 0)).alloc (.cells t.cells false 0)) (Ext.alloc.trans Ext.alloc)
  clear hq
  rw [hc] at hq'
  simp [mayM, thenD, thenM, fresh, solo] at hq'
  by_cases hmd3 : s.md = 3 <;> cases hso : s.so <;> by_cases hp : t.p = 0 <;> (simp [hc, h0, h4, MS.atPre, MS.atUp, MS.atGone, undef, hmd3, hso, hp]; simpa [show (0 < t.p) = (t.p ≠ 0) by simp; omega, hmd3, hso, hp] using hq')
theorem rmay_11 (A : AHeap) (s : MS) (t : Tn) (Q : Value → AHeap → Prop) (hc : t.c = 11) (h0 : 0 ≤ t.p) (h4 : t.p < 4) (hq : ∀ A', Ext NoB A A' → Q (.tuple ⟨[.bool (mayM s t.c t.p), .int .i64 (thenD t.c)]⟩) A') : wF T (.func (.func 31) #[] #[]) [.agg ⟨s.cells⟩, .agg ⟨t.cells⟩] A Q := by
  refine wF_func (first := []) (captured := []) t31 ⟨rfl, by decide⟩ ?_
  dsimp only [c31]
  have hq' := hq ((A.alloc (.cells s.cells false 0)).alloc (.cells t.cells false 0)) (Ext.alloc.trans Ext.alloc)
  clear hq
  rw [hc] at hq'
  simp [mayM, thenD, thenM, fresh, solo] at hq'
  by_cases hmd3 : s.md = 3 <;> cases hso : s.so <;> by_cases hp : t.p = 0 <;> (simp [hc, h0, h4, MS.atPre, MS.atUp, MS.atGone, undef, hmd3, hso, hp]; simpa [show (0 < t.p) = (t.p ≠ 0) by simp; omega, hmd3, hso, hp] using hq')
theorem rmay_12 (A : AHeap) (s : MS) (t : Tn) (Q : Value → AHeap → Prop) (hc : t.c = 12) (h0 : 0 ≤ t.p) (h4 : t.p < 4) (hq : ∀ A', Ext NoB A A' → Q (.tuple ⟨[.bool (mayM s t.c t.p), .int .i64 (thenD t.c)]⟩) A') : wF T (.func (.func 31) #[] #[]) [.agg ⟨s.cells⟩, .agg ⟨t.cells⟩] A Q := by
  refine wF_func (first := []) (captured := []) t31 ⟨rfl, by decide⟩ ?_
  dsimp only [c31]
  have hq' := hq ((A.alloc (.cells s.cells false 0)).alloc (.cells t.cells false 0)) (Ext.alloc.trans Ext.alloc)
  clear hq
  rw [hc] at hq'
  simp [mayM, thenD, thenM, fresh, solo] at hq'
  by_cases hmd3 : s.md = 3 <;> cases hso : s.so <;> by_cases hp : t.p = 0 <;> (simp [hc, h0, h4, MS.atPre, MS.atUp, MS.atGone, undef, hmd3, hso, hp]; simpa [show (0 < t.p) = (t.p ≠ 0) by simp; omega, hmd3, hso, hp] using hq')
theorem rmay_13 (A : AHeap) (s : MS) (t : Tn) (Q : Value → AHeap → Prop) (hc : t.c = 13) (h0 : 0 ≤ t.p) (h4 : t.p < 4) (hq : ∀ A', Ext NoB A A' → Q (.tuple ⟨[.bool (mayM s t.c t.p), .int .i64 (thenD t.c)]⟩) A') : wF T (.func (.func 31) #[] #[]) [.agg ⟨s.cells⟩, .agg ⟨t.cells⟩] A Q := by
  refine wF_func (first := []) (captured := []) t31 ⟨rfl, by decide⟩ ?_
  dsimp only [c31]
  have hq' := hq ((A.alloc (.cells s.cells false 0)).alloc (.cells t.cells false 0)) (Ext.alloc.trans Ext.alloc)
  clear hq
  rw [hc] at hq'
  simp [mayM, thenD, thenM, fresh, solo] at hq'
  by_cases hmd3 : s.md = 3 <;> cases hso : s.so <;> by_cases hp : t.p = 0 <;> (simp [hc, h0, h4, MS.atPre, MS.atUp, MS.atGone, undef, hmd3, hso, hp]; simpa [show (0 < t.p) = (t.p ≠ 0) by simp; omega, hmd3, hso, hp] using hq')
theorem rmay_14 (A : AHeap) (s : MS) (t : Tn) (Q : Value → AHeap → Prop) (hc : t.c = 14) (h0 : 0 ≤ t.p) (h4 : t.p < 4) (hq : ∀ A', Ext NoB A A' → Q (.tuple ⟨[.bool (mayM s t.c t.p), .int .i64 (thenD t.c)]⟩) A') : wF T (.func (.func 31) #[] #[]) [.agg ⟨s.cells⟩, .agg ⟨t.cells⟩] A Q := by
  refine wF_func (first := []) (captured := []) t31 ⟨rfl, by decide⟩ ?_
  dsimp only [c31]
  have hq' := hq ((A.alloc (.cells s.cells false 0)).alloc (.cells t.cells false 0)) (Ext.alloc.trans Ext.alloc)
  clear hq
  rw [hc] at hq'
  simp [mayM, thenD, thenM, fresh, solo] at hq'
  by_cases hmd3 : s.md = 3 <;> by_cases hmd4 : s.md = 4 <;> (simp [hc, h0, h4, MS.atPre, MS.atUp, MS.atGone, undef, hmd3, hmd4]; simpa [show (0 < t.p) = (t.p ≠ 0) by simp; omega, hmd3, hmd4] using hq')
theorem rmay_15 (A : AHeap) (s : MS) (t : Tn) (Q : Value → AHeap → Prop) (hc : t.c = 15) (h0 : 0 ≤ t.p) (h4 : t.p < 4) (hq : ∀ A', Ext NoB A A' → Q (.tuple ⟨[.bool (mayM s t.c t.p), .int .i64 (thenD t.c)]⟩) A') : wF T (.func (.func 31) #[] #[]) [.agg ⟨s.cells⟩, .agg ⟨t.cells⟩] A Q := by
  refine wF_func (first := []) (captured := []) t31 ⟨rfl, by decide⟩ ?_
  dsimp only [c31]
  have hq' := hq ((A.alloc (.cells s.cells false 0)).alloc (.cells t.cells false 0)) (Ext.alloc.trans Ext.alloc)
  clear hq
  rw [hc] at hq'
  simp [mayM, thenD, thenM, fresh, solo] at hq'
  by_cases hmd0 : s.md = 0 <;> by_cases hmd5 : s.md = 5 <;> by_cases hmd6 : s.md = 6 <;> (simp [hc, h0, h4, MS.atPre, MS.atUp, MS.atGone, undef, hmd0, hmd5, hmd6]; simpa [show (0 < t.p) = (t.p ≠ 0) by simp; omega, hmd0, hmd5, hmd6] using hq')
theorem rmay_16 (A : AHeap) (s : MS) (t : Tn) (Q : Value → AHeap → Prop) (hc : t.c = 16) (h0 : 0 ≤ t.p) (h4 : t.p < 4) (hq : ∀ A', Ext NoB A A' → Q (.tuple ⟨[.bool (mayM s t.c t.p), .int .i64 (thenD t.c)]⟩) A') : wF T (.func (.func 31) #[] #[]) [.agg ⟨s.cells⟩, .agg ⟨t.cells⟩] A Q := by
  refine wF_func (first := []) (captured := []) t31 ⟨rfl, by decide⟩ ?_
  dsimp only [c31]
  have hq' := hq ((A.alloc (.cells s.cells false 0)).alloc (.cells t.cells false 0)) (Ext.alloc.trans Ext.alloc)
  clear hq
  rw [hc] at hq'
  simp [mayM, thenD, thenM, fresh, solo] at hq'
  (simp [hc, h0, h4, MS.atPre, MS.atUp, MS.atGone, undef]; simpa [show (0 < t.p) = (t.p ≠ 0) by simp; omega] using hq')
theorem rmay_17 (A : AHeap) (s : MS) (t : Tn) (Q : Value → AHeap → Prop) (hc : t.c = 17) (h0 : 0 ≤ t.p) (h4 : t.p < 4) (hq : ∀ A', Ext NoB A A' → Q (.tuple ⟨[.bool (mayM s t.c t.p), .int .i64 (thenD t.c)]⟩) A') : wF T (.func (.func 31) #[] #[]) [.agg ⟨s.cells⟩, .agg ⟨t.cells⟩] A Q := by
  refine wF_func (first := []) (captured := []) t31 ⟨rfl, by decide⟩ ?_
  dsimp only [c31]
  rw [hc] at hq
  simp [mayM, thenD, thenM] at hq
  have e1 : Ext NoB A ((A.alloc (.cells s.cells false 0)).alloc (.cells t.cells false 0)) := Ext.alloc.trans Ext.alloc
  have hq' := hq _ e1
  by_cases h3 : s.md = 3
  · simp [hc, h3, undef]
    refine rnone_ok _ s _ fun A2 e2 => ?_
    have g0 := e2.get (b := A.size) (x := .cells s.cells false 0) (by simp) id
    have g1 := e2.get (b := A.size + 1) (x := .cells t.cells false 0) (by simp) id
    have hq2 := hq A2 (e1.trans e2)
    have hn : (!s.u0 && !s.u1 && !s.u2 && !s.u3) = noneB s := rfl
    simp [h3, hn] at hq2
    cases h5 : noneB s with
    | false => simp [h5, undef]; simpa [h5] using hq2
    | true => cases h6 : s.gone t.p <;> (simp [h5, h6, g0, g1, h0, h4, MS.atGone]; simpa [h5, h6] using hq2)
  · by_cases h1 : s.md = 1
    · by_cases hp : t.p = 0 <;> (simp [hc, h1, hp, undef]; simpa [h1, hp] using hq')
    · by_cases h2 : s.md = 2
      · by_cases hp : t.p = 0 <;> (simp [hc, h2, hp, undef]; simpa [h2, hp] using hq')
      · by_cases h5 : s.md = 4
        · by_cases hp : t.p = 0 <;> (simp [hc, h5, hp, undef]; simpa [h5, hp] using hq')
        · simp [hc, h1, h2, h3, h5, undef]; simpa [h1, h2, h3, h5] using hq'
theorem rmay_no (A : AHeap) (s : MS) (t : Tn) (Q : Value → AHeap → Prop) (hc : ¬ (0 ≤ t.c ∧ t.c < 18)) (hq : ∀ A', Ext NoB A A' → Q (.tuple ⟨[.bool (mayM s t.c t.p), .int .i64 (thenD t.c)]⟩) A') : wF T (.func (.func 31) #[] #[]) [.agg ⟨s.cells⟩, .agg ⟨t.cells⟩] A Q := by
  refine wF_func (first := []) (captured := []) t31 ⟨rfl, by decide⟩ ?_
  dsimp only [c31]
  have hk : ∀ k : Int, 0 ≤ k ∧ k < 18 → ¬ t.c = k := fun k hk q => hc (by omega)
  have hq' := hq ((A.alloc (.cells s.cells false 0)).alloc (.cells t.cells false 0)) (Ext.alloc.trans Ext.alloc)
  rw [thenD, if_neg hc] at hq'
  simp [mayM, hk 0 (by decide), hk 1 (by decide), hk 2 (by decide), hk 3 (by decide), hk 4 (by decide), hk 5 (by decide), hk 6 (by decide), hk 7 (by decide), hk 8 (by decide), hk 9 (by decide), hk 10 (by decide), hk 11 (by decide), hk 12 (by decide), hk 13 (by decide), hk 14 (by decide), hk 15 (by decide), hk 16 (by decide), hk 17 (by decide)] at hq'
  simp [hk 0 (by decide), hk 1 (by decide), hk 2 (by decide), hk 3 (by decide), hk 4 (by decide), hk 5 (by decide), hk 6 (by decide), hk 7 (by decide), hk 8 (by decide), hk 9 (by decide), hk 10 (by decide), hk 11 (by decide), hk 12 (by decide), hk 13 (by decide), hk 14 (by decide), hk 15 (by decide), hk 16 (by decide), hk 17 (by decide)]
  simpa using hq'
theorem rmay_ok (A : AHeap) (s : MS) (t : Tn) (Q : Value → AHeap → Prop) (h0 : 0 ≤ t.p) (h4 : t.p < 4) (hq : ∀ A', Ext NoB A A' → Q (.tuple ⟨[.bool (mayM s t.c t.p), .int .i64 (thenD t.c)]⟩) A') : wF T (.func (.func 31) #[] #[]) [.agg ⟨s.cells⟩, .agg ⟨t.cells⟩] A Q := by
  by_cases hc : 0 ≤ t.c ∧ t.c < 18
  · have h : t.c = 0 ∨ t.c = 1 ∨ t.c = 2 ∨ t.c = 3 ∨ t.c = 4 ∨ t.c = 5 ∨ t.c = 6 ∨ t.c = 7 ∨ t.c = 8 ∨ t.c = 9 ∨ t.c = 10 ∨ t.c = 11 ∨ t.c = 12 ∨ t.c = 13 ∨ t.c = 14 ∨ t.c = 15 ∨ t.c = 16 ∨ t.c = 17 := by omega
    rcases h with h | h | h | h | h | h | h | h | h | h | h | h | h | h | h | h | h | h
    · exact rmay_0 A s t Q h h0 h4 hq
    · exact rmay_1 A s t Q h h0 h4 hq
    · exact rmay_2 A s t Q h h0 h4 hq
    · exact rmay_3 A s t Q h h0 h4 hq
    · exact rmay_4 A s t Q h h0 h4 hq
    · exact rmay_5 A s t Q h h0 h4 hq
    · exact rmay_6 A s t Q h h0 h4 hq
    · exact rmay_7 A s t Q h h0 h4 hq
    · exact rmay_8 A s t Q h h0 h4 hq
    · exact rmay_9 A s t Q h h0 h4 hq
    · exact rmay_10 A s t Q h h0 h4 hq
    · exact rmay_11 A s t Q h h0 h4 hq
    · exact rmay_12 A s t Q h h0 h4 hq
    · exact rmay_13 A s t Q h h0 h4 hq
    · exact rmay_14 A s t Q h h0 h4 hq
    · exact rmay_15 A s t Q h h0 h4 hq
    · exact rmay_16 A s t Q h h0 h4 hq
    · exact rmay_17 A s t Q h h0 h4 hq
  · exact rmay_no A s t Q hc hq
end Go.Proofs.YtcfahggmejpdbaaDoor
