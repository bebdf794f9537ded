/- FlowCarries: what a fate does. -/
import Derived.Test.YtidgbapgedegbaaCj
import Derived.KernelRfl
namespace Go.Proofs.Ytidgbapgedegbaa.Fw
open Go Go.AS Ou
set_option maxRecDepth 100000
set_option linter.unusedSimpArgs false
set_option linter.unusedVariables false
attribute [local irreducible] Trie.set Trie.get Env.rd
attribute [local simp] Nat.add_assoc wD_cons'' wD_nil' wC_seq wC_ops wC_opsD_nil wC_cond wC_skip wC_ret wC_exit wC_block wO_cons' wO_nil wantedA wV_eq lop qop ev wL_some wL_none wPut envOf rd_set rd_leaf eqA thenC blockC wB_true wB_false endF unwindA resultsA resA tupleA rdCell rdCells wrCells cl fillP lay rep binA unA get_set' AHeap.get_alloc oneCell beqd bned idxA

theorem tmodN (a n : Nat) : (a : Int).tmod (n : Int) = ((a % n : Nat) : Int) := by
  rw [Int.tmod_eq_emod_of_nonneg (by omega)]; exact (Int.natCast_emod a n).symm
theorem does_ok {A : AHeap} {p pa pb z : Nat} {L : Ln} {room : Nat} {Q : Value → AHeap → Prop} (what n : Nat) (hw : what < 256) (hn : n < 256) (s : List UInt8) (h : LnA A p pa pb z L) (ok : LnOk room L) (h60 : L.there.length ≤ 60) (k60 : L.back.length ≤ 60) (hp : L.pu.length + 40 < 100000) (hf : L.tg + L.ps.length + 1 < 1000)
    (hq : ∀ A' w L', LnA A' p pa pb z L' → Dn room L L' → Ext (fun j => z ≤ j) A A' → Q w A') :
    wF T (.func (.func 55) #[] #[]) [.pointer (some ⟨p, 0, none⟩), .agg ⟨[.int .u8 (what : Nat), .int .u8 (n : Nat), .string ⟨⟨s⟩⟩]⟩] A Q := by
  refine wF_func (first := []) (captured := []) t55 ⟨rfl, by decide⟩ ?_
  dsimp only [c55]
  simp
  generalize hA1 : A.alloc _ = A1
  obtain ⟨g1, e1, z1⟩ := alloc_facts hA1
  have l1 := AHeap.get_lt g1
  have h1 : LnA A1 p pa pb z L := by
    obtain ⟨tv, bv, gv, Sa, Sb, C, gp, pt⟩ := h
    exact ⟨tv, bv, gv, Sa, Sb, C, e1.get gp id, pt.extN e1⟩
  have hq1 : ∀ A' w L', LnA A' p pa pb z L' → Dn room L L' → Ext (fun j => z ≤ j) A1 A' → Q w A' := fun A' w L' a1 a2 a3 => hq A' w L' a1 a2 ((e1.mono fun j _ q => q.elim).trans a3)
  clear hq
  obtain ⟨m, hm⟩ : ∃ m, what % 7 = m := ⟨_, rfl⟩
  have m7 : m < 7 := hm ▸ Nat.mod_lt _ (by decide)
  have wm : (what : Int).tmod 7 = (m : Int) := by rw [← hm]; exact tmodN what 7
  have wi : IntKind.i64.wrap (n : Int) = (n : Int) := IntWalk.i64_in _ (by omega)
  have wn : (n : Int).tmod 3 = ((n % 3 : Nat) : Int) := tmodN n 3
  rcases (show m = 0 ∨ m = 1 ∨ m = 2 ∨ m = 3 ∨ m = 4 ∨ m = 5 ∨ m = 6 by omega) with r | r | r | r | r | r | r
  · subst r
    simp [g1, wm]
    refine doesA_ok _ A.size _ _ s h1 ok h60 k60 hp hf ?_ ?_ g1 hq1
    all_goals simp
  · subst r
    simp [g1, wm]
    refine doesA_ok _ A.size _ _ s h1 ok h60 k60 hp hf ?_ ?_ g1 hq1
    all_goals simp
  · subst r
    simp [g1, wm]
    refine doesB_ok _ h1 ok h60 k60 ?_ hq1
    simp
  · subst r
    simp [g1, wm, wn, wi]
    refine comes_ok n hn _ h1 ok h60 k60 fun A' w L' a1 a2 a3 => ?_
    simp
    exact hq1 A' _ L' a1 a2.dn a3
  · subst r
    simp [g1, wm, wn, wi]
    refine comes_ok n hn _ h1 ok h60 k60 fun A' w L' a1 a2 a3 => ?_
    simp
    exact hq1 A' _ L' a1 a2.dn a3
  · subst r
    have w1 : IntKind.i64.wrap (1 + (n : Int)) = 1 + (n : Int) := IntWalk.i64_in _ (by omega)
    simp [g1, wm, wi, w1]
    refine takes_ok h1 ok (1 + (n : Int)) fun A' w l nx a1 a2 a3 a4 a5 => ?_
    simp
    exact hq1 A' _ _ a3 ⟨a4, by simp, by simp, h60, k60⟩ a5
  · subst r
    simp [g1, wm]
    refine doesE_ok _ h1 ok h60 k60 ?_ hq1
    simp
end Go.Proofs.Ytidgbapgedegbaa.Fw
