/- The document's Walk of stage 4. -/
import Derived.Test.YtkojapepiojnjaaQl
import Derived.KernelRfl
namespace Go.Proofs.Ytkojapepiojnjaa
open Go Go.AS
set_option maxRecDepth 100000
set_option linter.unusedSimpArgs false
set_option linter.unusedVariables false
attribute [local irreducible] Trie.set Trie.get Env.rd
attribute [local simp] Nat.add_assoc wD_cons'' wD_nil' wC_seq wC_ops wC_opsD_nil wC_cond wC_skip wC_ret wC_exit wC_block wO_cons' wO_nil wantedA wV_eq lop qop ev wL_some wL_none wPut envOf rd_set rd_leaf eqA thenC blockC wB_true wB_false endF unwindA resultsA resA tupleA rdCell rdCells wrCells cl fillP lay rep binA unA get_set' AHeap.get_alloc oneCell

def GI (s : ByteArray) (A0 : AHeap) (m : Nat) (st : St) : Prop := ∃ rest its sv, m = rest.length ∧ rest.length ≤ s.size ∧ its.length + rest.length ≤ s.size ∧ st.n = 51 ∧ st.dfs = [] ∧ st.env.rd 0 = .string ⟨⟨rest⟩⟩ ∧ st.env.rd 4 = sv ∧ Ext NoB A0 st.A ∧ SliceAt st.A 2 sv its.length (icells its) ∧ (∀ j, Own sv j → A0.size ≤ j) ∧
  walkL s.data.toList = (its ++ (walkL rest).1, (walkL rest).2)

theorem refwalk_ok (s : ByteArray) (A0 : AHeap) (Q : Value → AHeap → Prop) (hs : s.size < 1000000)
    (hq : ∀ A' sv, SliceAt A' 2 sv (walkR s.data.toList).1.length (icells (walkR s.data.toList).1) → Ext NoB A0 A' → (∀ j, Own sv j → A0.size ≤ j) → Q (.tuple ⟨[sv, .int .i64 (walkR s.data.toList).2]⟩) A') : wF T (.func (.func 14) #[] #[]) [.string s] A0 Q := by
  refine wF_func (first := []) (captured := []) t14 ⟨rfl, by decide⟩ ?_
  dsimp only [c14]
  have hsz : s.data.toList.length = s.size := rfl
  have no : ∀ j, Own (.slice none 0 0) j → A0.size ≤ j := fun j ⟨_, _, _, q⟩ => by cases q
  by_cases h40 : 40 < s.size
  · have h40' : (40 : Int) < (s.size : Int) := by omega
    have hR : walkR s.data.toList = ([], 6) := by unfold walkR; rw [hsz, if_pos h40]
    rw [hR] at hq
    simp [h40']
    exact hq _ (.slice none 0 0) .nil Ext.refl no
  · have h40' : ¬ (40 : Int) < (s.size : Int) := by omega
    by_cases h4 : s.size % 4 = 0
    · have h4' : ((s.size : Int).tmod 4) = 0 := by rw [rem4, h4]; rfl
      have hR : ∀ c, (walkL s.data.toList).2 = c → walkR s.data.toList = if c = 0 then walkL s.data.toList else ([], c) := by
        intro c hc
        unfold walkR
        rw [hsz, if_neg h40, if_neg (by omega), hc]
      simp [h40', h4']
      refine wC_loop_inv (GI s A0) ?_ s.size _ ⟨s.data.toList, [], .slice none 0 0, rfl, by omega, by simp, rfl, rfl, by simp, by simp, Ext.refl, .nil, no, by simp⟩
      rintro m ⟨env, nn, dfs, A⟩ ⟨rest, its, sv, k0, kl, kil, k1, k2, r0, r4, e1, s1, o1, hw⟩
      simp only at k1 k2 r0 r4 e1 s1
      subst k1; subst k2
      have bad : ∀ (c : Int), ¬ c = 0 → (walkL s.data.toList).2 = c → Q (.tuple ⟨[.slice none 0 0, .int .i64 c]⟩) A := by
        intro c hc hcw
        have hr := hR c hcw
        rw [if_neg hc] at hr
        rw [hr] at hq
        exact hq A _ .nil e1 no
      cases rest with
      | nil =>
        rw [walkL_nil, List.append_nil] at hw
        have hr := hR 0 (by rw [hw])
        rw [if_pos rfl, hw] at hr
        rw [hr] at hq
        simp [r0, r4]
        exact hq A sv s1 e1 o1
      | cons k r =>
        have kl2 := k.toNat_lt
        by_cases k0' : k = 0
        · rw [k0', walkL_zero, List.append_nil] at hw
          have hr := hR 0 (by rw [hw])
          rw [if_pos rfl, hw] at hr
          rw [hr] at hq
          have e2 : ((k.toNat : Int) != 0) = false := by rw [k0']; rfl
          simp [r0, r4, idxA, e2]
          exact hq A sv s1 e1 o1
        · have kn : k.toNat ≠ 0 := fun q => k0' (UInt8.toNat_inj.1 (by rw [q]; rfl))
          have kn0 : ((k.toNat : Int) != 0) = true := by rw [bne_iff_ne]; omega
          by_cases k1' : k = 1
          · rw [k1', walkL_one] at hw
            have e2 : ((k.toNat : Int) == 1) = true := by rw [k1']; rfl
            have zs := sliceS_from ⟨⟨k :: r⟩⟩ .i64 1 (by rw [size_mk]; simp)
            simp only [List.drop_succ_cons, List.drop_zero] at zs
            have zs' : sliceSA (.string ⟨⟨k :: r⟩⟩) (some (.int .i64 1)) none = some (.string ⟨⟨r⟩⟩) := zs
            simp [r0, r4, idxA, kn0, e2, zs']
            simp at kl kil k0
            exact ⟨r.length, by omega, r, its, sv, rfl, by omega, by omega, rfl, rfl, by simp, by simp [r4], e1, s1, o1, hw⟩
          · have kn1' : k.toNat ≠ 1 := fun q => k1' (UInt8.toNat_inj.1 (by rw [q]; rfl))
            have kn1 : ((k.toNat : Int) == 1) = false := by rw [beq_eq_false_iff_ne]; omega
            cases r with
            | nil =>
              rw [walkL_short k k0' k1', List.append_nil] at hw
              simp [r0, r4, idxA, kn0, kn1, size_mk]
              exact bad 4 (by decide) (by rw [hw])
            | cons n r =>
              have nlt := n.toNat_lt
              have wn : IntKind.i64.wrap (n.toNat : Int) = (n.toNat : Int) := wrap_nat _ (by omega)
              have wk : IntKind.i64.wrap (k.toNat : Int) = (k.toNat : Int) := wrap_nat _ (by omega)
              have g0 : ¬ (r.length : Int) + 2 < 2 := by omega
              by_cases hn2 : n.toNat < 2
              · rw [walkL_form k n _ k0' k1' hn2, List.append_nil] at hw
                have hn2' : (n.toNat : Int) < 2 := by omega
                simp [r0, r4, idxA, kn0, kn1, size_mk, g0, wn, hn2']
                exact bad 5 (by decide) (by rw [hw])
              · have hn2' : ¬ (n.toNat : Int) < 2 := by omega
                by_cases hlong : r.length + 2 < n.toNat
                · rw [walkL_long k n _ k0' k1' hn2 hlong, List.append_nil] at hw
                  have hlong' : (r.length : Int) + 2 < (n.toNat : Int) := by omega
                  simp [r0, r4, idxA, kn0, kn1, size_mk, g0, wn, hn2', hlong']
                  exact bad 4 (by decide) (by rw [hw])
                · rw [walkL_item k n _ k0' k1' hn2 hlong] at hw
                  have hlong' : ¬ (r.length : Int) + 2 < (n.toNat : Int) := by omega
                  have z1 := sliceS_mid ⟨⟨k :: n :: r⟩⟩ .i64 .i64 2 n.toNat (by omega) (by rw [size_mk]; simp; omega)
                  have z2 := sliceS_from ⟨⟨k :: n :: r⟩⟩ .i64 n.toNat (by rw [size_mk]; simp; omega)
                  have d2 : (k :: n :: r).drop n.toNat = r.drop (n.toNat - 2) := by
                    rw [show n.toNat = (n.toNat - 2) + 1 + 1 by omega]; simp
                  simp only [d2, List.drop_succ_cons, List.drop_zero] at z1 z2
                  have z1' : sliceSA (.string ⟨⟨k :: n :: r⟩⟩) (some (.int .i64 2)) (some (.int .i64 (n.toNat : Int))) = some (.string ⟨⟨r.take (n.toNat - 2)⟩⟩) := z1
                  generalize hbd : (⟨⟨r.take (n.toNat - 2)⟩⟩ : ByteArray) = body at z1' hw
                  simp at kl kil k0
                  obtain ⟨av, cv, hv⟩ := s1.read.val
                  subst hv
                  obtain ⟨a2, c2, A2, s2, t2, u2, v2⟩ := appI A (A.alloc (.cells [.int .i64 (k.toNat : Int), .string body] false 0)) _ (.slice (some ⟨A.size, 0, none⟩) 1 1) its ⟨(k.toNat : Int), body⟩ s1 Ext.alloc rfl (by simp [firstA, rdCells, ENDCAP]) (by omega)
                  have rl : (r.drop (n.toNat - 2)).length = r.length - (n.toNat - 2) := List.length_drop
                  simp [r0, r4, idxA, kn0, kn1, size_mk, g0, wn, wk, hn2', hlong', z1', z2, s2]
                  refine ⟨(r.drop (n.toNat - 2)).length, by omega, r.drop (n.toNat - 2), its ++ [(⟨(k.toNat : Int), body⟩ : It)], _, rfl, by omega, by simp; omega, rfl, rfl, by simp, by simp, e1.trans2 u2 fun j hj q => by have := o1 j q; omega, t2, fun j hj => ?_, ?_⟩
                  · have := e1.size
                    rcases v2 j hj with q | q
                    · exact o1 j q
                    · omega
                  · rw [hw]; simp
    · have h4' : ((s.size : Int).tmod 4 != 0) = true := by
        have : ¬ ((s.size : Int).tmod 4) = 0 := by rw [rem4]; omega
        simp [this]
      have hR : walkR s.data.toList = ([], 5) := by unfold walkR; rw [hsz, if_neg h40, if_pos h4]
      rw [hR] at hq
      simp [h40', h4']
      exact hq _ (.slice none 0 0) .nil Ext.refl no
end Go.Proofs.Ytkojapepiojnjaa
