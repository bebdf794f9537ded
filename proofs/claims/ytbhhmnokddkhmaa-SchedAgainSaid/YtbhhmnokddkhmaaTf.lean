/- The contract of Again: stage 25. -/
import Derived.Test.YtbhhmnokddkhmaaTe
import Derived.KernelRfl
namespace Go.Proofs.Ytbhhmnokddkhmaa
open Go Go.AS
set_option maxRecDepth 100000
set_option linter.unusedSimpArgs false
set_option linter.unusedVariables false
attribute [local irreducible] Trie.set Trie.get Env.rd
attribute [local simp] Nat.add_assoc wD_cons'' wD_nil' wC_seq wC_ops wC_opsD_nil wC_cond wC_skip wC_ret wC_exit wC_block wO_cons' wO_nil wantedA wV_eq lop qop ev wL_some wL_none wPut envOf rd_set rd_leaf eqA thenC blockC wB_true wB_false endF unwindA resultsA resA tupleA rdCell rdCells wrCells cl fillP lay rep binA unA get_set' AHeap.get_alloc oneCell

theorem again_ok (ls : List La) (cs : List Int) (ago limit : Int) (lv cv : Value) (A : AHeap) (Q : Value → AHeap → Prop) (h : ReadAt A 4 lv ls.length (lcells ls)) (hc : ReadAt A 1 cv cs.length (ints cs)) (hlo : ∀ j, Own lv j → j < A.size) (hco : ∀ j, Own cv j → j < A.size) (hn : ls.length ≤ 20) (hcn : cs.length ≤ 1000)
    (hinc : Inc ((ls.filter (agR cs limit)).map (·.path)))
    (hq0 : ago < 3 → alive cs ls = true → ∀ A', Ext NoB A A' → Q (.slice none 0 0) A')
    (hq1 : ¬ (ago < 3 ∧ alive cs ls = true) → ∀ A' sv, Ext NoB A A' → SliceAt A' 1 sv ((ls.filter (agR cs limit)).map (·.path)).length (ints ((ls.filter (agR cs limit)).map (·.path))) → Q sv A') :
    wF T (.func (.func 8) #[] #[]) [lv, cv, .int .i64 ago, .int .i64 limit] A Q := by
  obtain ⟨a1, c1, rfl⟩ := h.val
  obtain ⟨a2, c2, rfl⟩ := hc.val
  refine wF_func (first := []) (captured := []) t8 ⟨rfl, by decide⟩ ?_
  dsimp only [c8]
  have tl : ∀ (env : Env) (A1 : AHeap), Env.rd env 0 = .slice a1 ls.length c1 → Env.rd env 7 = .pointer (some ⟨A.size + 1, 0, none⟩) → Env.rd env 8 = .pointer (some ⟨A.size + 2, 0, none⟩) → Env.rd env 9 = .pointer (some ⟨A.size + 3, 0, none⟩) →
      A1.get A.size = some (.cells [.slice a2 cs.length c2] false 0) → A1.get (A.size + 1) = some (.cells [.int .i64 limit] false 0) → A1.get (A.size + 2) = some (.cells [.slice none 0 0] false 0) → A1.get (A.size + 3) = some (.cells [.func (.func 19) ⟨[]⟩ ⟨[.pointer (some ⟨A.size, 0, none⟩)]⟩] false 0) → Ext NoB A A1 →
      ¬ (ago < 3 ∧ alive cs ls = true) → wC T 8 none c8t ⟨env, 32, [], A1⟩ (endF [.inr (8, 1, false)] Q) := by
    intro env A1 r0 r7 r8 r9 g0 g1 g2 g3 e hna
    exact tail_ok ⟨env, 32, [], A1⟩ ls cs limit a1 c1 _ A.size (A.size + 2) (A.size + 1) (A.size + 3) A Q rfl rfl r0 r7 r8 r9 g1 g3 g0 g2 (by omega) (by omega) (by omega) (h.ext e fun _ _ q => q) (hc.ext e fun _ _ q => q)
      (fun j hj => ⟨Nat.lt_of_lt_of_le (hlo j hj) e.size, by have := hlo j hj; omega⟩) (fun j hj => ⟨Nat.lt_of_lt_of_le (hco j hj) e.size, by have := hco j hj; omega⟩) hn hcn e (by omega) hinc fun A' sv e' s' => hq1 hna A' sv e' s'
  by_cases h3 : ago < 3
  · simp [h3]
    generalize hH : AHeap.set (AHeap.alloc (AHeap.alloc (AHeap.alloc (AHeap.alloc A _) _) _) _) (A.size + 3) _ = H
    have zH : H.size = A.size + 4 := by rw [← hH]; rfl
    have eH : Ext NoB A H := ⟨by omega, fun j hj _ => by rw [← hH]; simp [show j ≠ A.size by omega, show j ≠ A.size + 1 by omega, show j ≠ A.size + 2 by omega, show j ≠ A.size + 3 by omega]⟩
    have g0 : H.get A.size = some (.cells [.slice a2 cs.length c2] false 0) := by rw [← hH]; simp
    have g1 : H.get (A.size + 1) = some (.cells [.int .i64 limit] false 0) := by rw [← hH]; simp
    have g2 : H.get (A.size + 2) = some (.cells [.slice none 0 0] false 0) := by rw [← hH]; simp
    have g3 : H.get (A.size + 3) = some (.cells [.func (.func 19) ⟨[]⟩ ⟨[.pointer (some ⟨A.size, 0, none⟩)]⟩] false 0) := by rw [← hH]; simp
    refine contains_ok ls _ _ (fun x => x.up && has cs x.path) H _ (h.ext eH fun _ _ q => q) (by omega) (fun A' x Q' e k => ag2_ok x A.size (A.size + 3) cs _ A' Q' (e.get g3 fun q => q) (e.get g0 fun q => q) ((hc.ext eH fun _ _ q => q).ext e fun _ _ q => q) hcn k) fun A1 e1 => ?_
    rw [show ls.any (fun x => x.up && has cs x.path) = alive cs ls from rfl]
    have q0 := e1.get g0 fun q => q
    have q1 := e1.get g1 fun q => q
    have q2 := e1.get g2 fun q => q
    have q3 := e1.get g3 fun q => q
    have z1 := e1.size
    have w2 : A.size + 2 < A1.size := by omega
    cases ha : alive cs ls
    · simp
      exact tl _ A1 (by simp) (by simp) (by simp) (by simp) q0 q1 q2 q3 (eH.trans e1) (by simp [ha])
    · simp [q2, w2]
      exact hq0 h3 ha _ ((eH.trans e1).trans2 (Ext.set (S := fun j => j = A.size + 2) rfl) fun j hj q => by omega)
  · simp [h3]
    generalize hH : AHeap.set (AHeap.alloc (AHeap.alloc (AHeap.alloc (AHeap.alloc A _) _) _) _) (A.size + 3) _ = H
    have zH : H.size = A.size + 4 := by rw [← hH]; rfl
    have eH : Ext NoB A H := ⟨by omega, fun j hj _ => by rw [← hH]; simp [show j ≠ A.size by omega, show j ≠ A.size + 1 by omega, show j ≠ A.size + 2 by omega, show j ≠ A.size + 3 by omega]⟩
    have g0 : H.get A.size = some (.cells [.slice a2 cs.length c2] false 0) := by rw [← hH]; simp
    have g1 : H.get (A.size + 1) = some (.cells [.int .i64 limit] false 0) := by rw [← hH]; simp
    have g2 : H.get (A.size + 2) = some (.cells [.slice none 0 0] false 0) := by rw [← hH]; simp
    have g3 : H.get (A.size + 3) = some (.cells [.func (.func 19) ⟨[]⟩ ⟨[.pointer (some ⟨A.size, 0, none⟩)]⟩] false 0) := by rw [← hH]; simp
    exact tl _ H (by simp) (by simp) (by simp) (by simp) g0 g1 g2 g3 eH (fun q => h3 q.1)
end Go.Proofs.Ytbhhmnokddkhmaa
