/- FlowCarries: what comes. -/
import Derived.Test.YtidgbapgedegbaaCf
import Derived.KernelRfl
namespace Go.Proofs.Ytidgbapgedegbaa.Fw
open Go Go.AS Ou
set_option maxRecDepth 100000
set_option linter.unusedSimpArgs false
set_option linter.unusedVariables false
attribute [local irreducible] Trie.set Trie.get Env.rd
attribute [local simp] Nat.add_assoc wD_cons'' wD_nil' wC_seq wC_ops wC_opsD_nil wC_cond wC_skip wC_ret wC_exit wC_block wO_cons' wO_nil wantedA wV_eq lop qop ev wL_some wL_none wPut envOf rd_set rd_leaf eqA thenC blockC wB_true wB_false endF unwindA resultsA resA tupleA rdCell rdCells wrCells cl fillP lay rep binA unA get_set' AHeap.get_alloc oneCell beqd bned idxA

theorem Nx.refl {room : Nat} {L : Ln} (ok : LnOk room L) (h : L.there.length ≤ 60) (k : L.back.length ≤ 60) : Nx room L L := ⟨ok, rfl, rfl, h, k⟩
theorem comes_ok {A : AHeap} {p pa pb z : Nat} {L : Ln} {room : Nat} {Q : Value → AHeap → Prop} (kk : Nat) (hkk : kk < 256) (stays : Bool) (h : LnAt A p pa pb z L ((L.tg + L.ps.length : Nat) : Int)) (ok : LnOk room L) (h60 : L.there.length ≤ 60) (k60 : L.back.length ≤ 60)
    (hq : ∀ A' w L', LnAt A' p pa pb z L' ((L'.tg + L'.ps.length : Nat) : Int) → Nx room L L' → Ext (fun j => z ≤ j) A A' → Q w A') :
    wF T (.func (.func 109) #[] #[]) [.pointer (some ⟨p, 0, none⟩), .int .i64 (kk : Nat), .bool stays] A Q := by
  have h0 := h
  obtain ⟨tv, bv, gv, Sa, Sb, C, gp, pt⟩ := h
  obtain ⟨ta, tc, ht⟩ := pt.t.read.val
  obtain ⟨ba, bc, hb⟩ := pt.k.read.val
  subst ht; subst hb
  have gp' := gp
  simp only [lnc] at gp'
  have lp := AHeap.get_lt gp
  refine wF_func (first := []) (captured := []) t109 ⟨rfl, by decide⟩ ?_
  dsimp only [c109]
  have w0 : IntKind.i64.wrap ((L.there.length : Int) + (L.back.length : Int)) = ((L.there.length + L.back.length : Nat) : Int) := by rw [IntWalk.i64_in _ (by omega)]; omega
  simp [gp', w0]
  obtain ⟨n, hn⟩ : ∃ n, L.there.length + L.back.length = n := ⟨_, rfl⟩
  have hn2 : (L.there.length : Int) + (L.back.length : Int) = (n : Int) := by omega
  by_cases c0 : n = 0
  · have c1 : (n : Int) = 0 := by omega
    simp [hn2, c0]
    exact hq A _ L h0 (Nx.refl ok h60 k60) Ext.refl
  · have c1 : ¬ (n : Int) = 0 := by omega
    obtain ⟨k, hk⟩ : ∃ k, kk % n = k := ⟨_, rfl⟩
    have w2 : (kk : Int).tmod (n : Int) = (k : Int) := by
      rw [Int.tmod_eq_emod_of_nonneg (by omega), ← hk]
      exact (Int.natCast_emod kk n).symm
    have kn : k < n := hk ▸ Nat.mod_lt _ (by omega)
    by_cases c2 : k < L.there.length
    · simp [hn2, c1, c0, gp', w2, c2]
      refine comesA_ok _ k stays h0 ok c2 h60 k60 ?_ ?_ ?_ fun A' w L' p1 p2 p3 => hq A' w L' (by rw [p2.many]; exact p1) p2 p3
      all_goals simp
    · simp [hn2, c1, c0, gp', w2, c2]
      obtain ⟨i, hi⟩ : ∃ i, k = L.there.length + i := ⟨k - L.there.length, by omega⟩
      refine comesB_ok _ i stays h0 ok (by omega) h60 k60 ?_ ?_ ?_ hq
      all_goals simp [hi]
end Go.Proofs.Ytidgbapgedegbaa.Fw
