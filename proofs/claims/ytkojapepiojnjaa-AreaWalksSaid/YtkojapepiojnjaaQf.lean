/- The contract of walk$1 of stage 4. -/
import Derived.Test.YtkojapepiojnjaaQe
import Derived.KernelRfl
namespace Go.Proofs.Ytkojapepiojnjaa
open Go Go.AS
set_option maxRecDepth 100000
set_option linter.unusedSimpArgs false
set_option linter.unusedVariables false
attribute [local irreducible] Trie.set Trie.get Env.rd
attribute [local simp] Nat.add_assoc wD_cons'' wD_nil' wC_seq wC_ops wC_opsD_nil wC_cond wC_skip wC_ret wC_exit wC_block wO_cons' wO_nil wantedA wV_eq lop qop ev wL_some wL_none wPut envOf rd_set rd_leaf eqA thenC blockC wB_true wB_false endF unwindA resultsA resA tupleA rdCell rdCells wrCells cl fillP lay rep binA unA get_set' AHeap.get_alloc oneCell

def WI (s : ByteArray) (l t u d x1 : Nat) (e : Env) (ev : Value) (A : AHeap) (m : Nat) (st : St) : Prop := ∃ p its sv, m + p = s.size ∧ st.n = 75 ∧ st.dfs = [] ∧ st.env.rd 0 = .func (.yield l) #[] #[] ∧ st.env.rd 1 = .pointer (some ⟨x1, 0, none⟩) ∧ st.env.rd 3 = .int .i64 (p : Nat) ∧
  st.A.get l = some (.loop .ready none 13 42 e [17] c13a c13b d) ∧ st.A.get t = some (.cells [sv] false 0) ∧ SliceAt st.A 2 sv its.length (icells its) ∧ Ext (fun j => j = t ∨ j = l) A st.A ∧ (∀ j, Own sv j → A.size ≤ j) ∧ its.length ≤ p ∧ walkL s.data.toList = (its ++ (walkL (s.data.toList.drop p)).1, (walkL (s.data.toList.drop p)).2)

theorem walk1_ok (l t u d x1 : Nat) (e : Env) (s : ByteArray) (ev : Value) (A : AHeap) (Q : Value → AHeap → Prop) (hl : A.get l = some (.loop .ready none 13 42 e [17] c13a c13b d)) (he : e.rd 2 = .pointer (some ⟨t, 0, none⟩)) (hu : e.rd 3 = .pointer (some ⟨u, 0, none⟩)) (ht : A.get t = some (.cells [.slice none 0 0] false 0)) (hu2 : A.get u = some (.cells [ev] false 0)) (h1 : A.get x1 = some (.cells [.string s] false 0))
    (hlt : l ≠ t) (hlu : l ≠ u) (htu : t ≠ u) (hxl : x1 ≠ l) (hxt : x1 ≠ t) (hxu : x1 ≠ u) (hs : s.size ≤ 100)
    (hq1 : (walkL s.data.toList).2 = 0 → ∀ A' sv v, A'.get l = some (.loop .ready none 13 42 e [17] c13a c13b d) → A'.get t = some (.cells [sv] false 0) → SliceAt A' 2 sv (walkL s.data.toList).1.length (icells (walkL s.data.toList).1) → Ext (fun j => j = t ∨ j = l) A A' → (∀ j, Own sv j → A.size ≤ j) → Q v A')
    (hq2 : ¬ (walkL s.data.toList).2 = 0 → ∀ A' v, A'.get l = some (.loop .done (some .ret) 13 42 e [17] c13a c13b d) → A'.get t = some (.cells [.slice none 0 0] false 0) → A'.get u = some (.cells [.int .i64 (walkL s.data.toList).2] false 0) → Ext (fun j => j = t ∨ j = l ∨ j = u) A A' → Q v A') :
    wF T (.func (.func 21) ⟨[]⟩ ⟨[.pointer (some ⟨x1, 0, none⟩)]⟩) [.func (.yield l) #[] #[]] A Q := by
  refine wF_func t21 ⟨rfl, by decide⟩ ?_
  dsimp only [c21]; simp
  have hsz : s.data.toList.length = s.size := rfl
  refine wC_loop_inv (WI s l t u d x1 e ev A) ?_ s.size _ ⟨0, [], .slice none 0 0, by omega, rfl, rfl, by simp, by simp, by simp, hl, ht, .nil, Ext.refl, (fun j ⟨_, _, _, q⟩ => by cases q), by simp, by simp⟩
  rintro m ⟨env, nn, dfs, A1⟩ ⟨p, its, sv, k0, k1, k2, r0, r1, r3, g1, g2, g3, g4, g5, hip, hw⟩
  simp only at k1 k2 r0 r1 r3 g1 g2 g3 g4
  subst k1; subst k2
  have zl := AHeap.get_lt hl
  have zt := AHeap.get_lt ht
  have zu := AHeap.get_lt hu2
  have zx := AHeap.get_lt h1
  have z1 := g4.size
  have x2 := g4.get h1 (fun q => q.elim hxt hxl)
  have u2 := g4.get hu2 (fun q => q.elim htu.symm hlu.symm)
  have ol : ¬ Own sv l := fun q => by have := g5 l q; omega
  have ot : ¬ Own sv t := fun q => by have := g5 t q; omega
  by_cases hp : p < s.size
  · have hd : s.data.toList.drop p = s.data.toList[p] :: s.data.toList.drop (p + 1) := List.drop_eq_getElem_cons (by omega)
    obtain ⟨k, hg⟩ : ∃ k, s.data[p]'hp = k := ⟨_, rfl⟩
    have ws := wrap_succ p (by omega)
    rw [show s.data.toList[p]'(by omega) = k by rw [← hg]; rfl] at hd
    rw [hd] at hw
    by_cases k0' : k = 0
    · rw [k0', walkL_zero, List.append_nil] at hw
      have e1 : ((k.toNat : Int) == 0) = true := by rw [k0']; rfl
      simp [r0, r1, r3, x2, hp, hg, e1, idxA]
      refine hq1 (by rw [hw]) A1 sv _ g1 g2 (by rw [hw]; exact g3) g4 g5
    · have kn0 : ((k.toNat : Int) == 0) = false := by
        rw [beq_eq_false_iff_ne]
        intro q
        exact k0' (UInt8.toNat_inj.1 (by have : k.toNat = 0 := by omega
                                         rw [this]; rfl))
      by_cases k1' : k = 1
      · rw [k1', walkL_one] at hw
        have e1 : ((k.toNat : Int) == 1) = true := by rw [k1']; rfl
        simp [r0, r1, r3, x2, hp, hg, kn0, e1, idxA]
        exact ⟨m - 1, by omega, p + 1, its, sv, by omega, rfl, rfl, by simp [r0], by simp [r1], by simpa using ws, g1, g2, g3, g4, g5, by omega, hw⟩
      · have kn1 : ((k.toNat : Int) == 1) = false := by
          rw [beq_eq_false_iff_ne]
          intro q
          exact k1' (UInt8.toNat_inj.1 (by have : k.toNat = 1 := by omega
                                           rw [this]; rfl))
        have wk : IntKind.i64.wrap (k.toNat : Int) = (k.toNat : Int) := wrap_nat _ (by have := k.toNat_lt; omega)
        have nx : x1 ≠ A1.size := by omega
        have ws' : IntKind.i64.wrap ((p : Int) + 1) = (p : Int) + 1 := by rw [ws]; push_cast; rfl
        have bad : ∀ (code : Int) (Q2 : Value → AHeap → Prop), ¬ code = 0 → (walkL s.data.toList).2 = code → (∀ A', (∀ v, Q v A') → Q2 (.bool false) A') →
            wF T (.func (.yield l) #[] #[]) [.agg ⟨[.int .i64 (k.toNat : Int), .int .i64 code, .string ⟨⟨[]⟩⟩]⟩] (((A1.alloc (.cells [.int .i64 0, .int .i64 0, .string ⟨⟨[]⟩⟩] false 0)).set A1.size (.cells [.int .i64 (k.toNat : Int), .int .i64 0, .string ⟨⟨[]⟩⟩] false 0)).set A1.size (.cells [.int .i64 (k.toNat : Int), .int .i64 code, .string ⟨⟨[]⟩⟩] false 0)) Q2 := by
          intro code Q2 hc hcw hQ
          generalize hH : (((A1.alloc _).set A1.size _).set A1.size _) = H
          have eH : Ext NoB A1 H := ⟨by rw [← hH]; simp, fun j hj _ => by rw [← hH]; simp [show j ≠ A1.size by omega]⟩
          refine yield_bad l t u d e sv ev _ code H _ (eH.get g1 fun q => q) he hu (eH.get g2 fun q => q) (eH.get u2 fun q => q) hc hlt hlu htu fun A' y1 y2 y3 y4 => ?_
          refine hQ A' fun v => hq2 (by rw [hcw]; exact hc) A' v y1 y2 (by rw [hcw]; exact y3) ?_
          exact (((g4.mono fun _ _ q => (by rcases q with q | q; exact .inl q; exact .inr (.inl q) : _ = t ∨ _ = l ∨ _ = u)).trans2 eH fun _ _ q => q.elim).trans2 y4 fun _ _ q => q)
        by_cases hp1 : p + 1 = s.size
        · have hnil : s.data.toList.drop (p + 1) = [] := List.drop_of_length_le (by omega)
          rw [hnil, walkL_short k k0' k1', List.append_nil] at hw
          have e1 : ((p : Int) + 1 == (s.size : Int)) = true := by rw [beq_iff_eq]; omega
          simp [r0, r1, r3, x2, hp, hg, kn0, kn1, idxA, wk, ws', e1, nx]
          refine bad 4 _ (by decide) (by rw [hw]) fun A' hv => ?_
          simp
          exact hv _
        · have hp1' : p + 1 < s.size := by omega
          have hd1 : s.data.toList.drop (p + 1) = s.data.toList[p + 1] :: s.data.toList.drop (p + 1 + 1) := List.drop_eq_getElem_cons (by omega)
          obtain ⟨n, hg1⟩ : ∃ n, s.data[p + 1]'hp1' = n := ⟨_, rfl⟩
          rw [show s.data.toList[p + 1]'(by omega) = n by rw [← hg1]; rfl] at hd1
          rw [hd1] at hw
          have e1 : ((p : Int) + 1 == (s.size : Int)) = false := by rw [beq_eq_false_iff_ne]; omega
          have wn : IntKind.i64.wrap (n.toNat : Int) = (n.toNat : Int) := wrap_nat _ (by have := n.toNat_lt; omega)
          have nlt := n.toNat_lt
          have i1 : ((p : Int) + 1).toNat = p + 1 := by omega
          have i2 : (0 : Int) ≤ (p : Int) + 1 := by omega
          by_cases hn2 : n.toNat < 2
          · rw [walkL_form k n _ k0' k1' hn2, List.append_nil] at hw
            have hn2' : (n.toNat : Int) < 2 := by omega
            simp [r0, r1, r3, x2, hp, hg, kn0, kn1, idxA, wk, ws', e1, nx, i1, i2, hp1', hg1, hn2']
            refine bad 5 _ (by decide) (by rw [hw]) fun A' hv => ?_
            simp
            exact hv _
          · have hn2' : ¬ (n.toNat : Int) < 2 := by omega
            have wsub : IntKind.i64.wrap ((s.size : Int) - (p : Int)) = (s.size : Int) - (p : Int) := IntWalk.i64_in _ (by omega)
            have hrl : (s.data.toList.drop (p + 1 + 1)).length = s.size - (p + 2) := by rw [List.length_drop, hsz]
            by_cases hlong : (s.data.toList.drop (p + 1 + 1)).length + 2 < n.toNat
            · rw [walkL_long k n _ k0' k1' hn2 hlong, List.append_nil] at hw
              have hlong' : (s.size : Int) - (p : Int) < (n.toNat : Int) := by omega
              simp [r0, r1, r3, x2, hp, hg, kn0, kn1, idxA, wk, ws', e1, nx, i1, i2, hp1', hg1, hn2', wn, wsub, hlong']
              refine bad 4 _ (by decide) (by rw [hw]) fun A' hv => ?_
              simp
              exact hv _
            · rw [walkL_item k n _ k0' k1' hn2 hlong] at hw
              have hlong' : ¬ (s.size : Int) - (p : Int) < (n.toNat : Int) := by omega
              have wp2 : IntKind.i64.wrap ((p : Int) + 2) = ((p + 2 : Nat) : Int) := IntWalk.i64_in _ (by omega)
              have wpn : IntKind.i64.wrap ((p : Int) + (n.toNat : Int)) = ((p + n.toNat : Nat) : Int) := IntWalk.i64_in _ (by omega)
              have zs := sliceS_mid s .i64 .i64 (p + 2) (p + n.toNat) (by omega) (by omega)
              rw [show p + n.toNat - (p + 2) = n.toNat - 2 by omega] at zs
              rw [show p + 1 + 1 = p + 2 by omega] at hw
              generalize hb : (⟨⟨(s.data.toList.drop (p + 2)).take (n.toNat - 2)⟩⟩ : ByteArray) = body at zs hw
              push_cast at wp2 wpn zs
              simp [r0, r1, r3, x2, hp, hg, kn0, kn1, idxA, wk, ws', e1, nx, i1, i2, hp1', hg1, hn2', wn, wsub, hlong', wp2, wpn, zs]
              generalize hH : AHeap.set (AHeap.set (AHeap.alloc A1 _) A1.size _) A1.size _ = H
              have eH : Ext NoB A1 H := ⟨by rw [← hH]; simp, fun j hj _ => by rw [← hH]; simp [show j ≠ A1.size by omega]⟩
              have zH : H.size = A1.size + 1 := by rw [← hH]; rfl
              have gx : H.get A1.size = some (.cells [.int .i64 (k.toNat : Int), .int .i64 0, .string body] false 0) := by rw [← hH]; simp
              refine yield_ok l t u d e sv its _ body H _ (eH.get g1 fun q => q) he (eH.get g2 fun q => q) (g3.ext eH fun _ _ q => q) (by omega) hlt ol ot fun A2 sv2 y1 y2 y3 y4 y5 => ?_
              have gx2 := y4.get gx (fun q => by
                rcases q with q | q | q
                · omega
                · omega
                · have := g3.own_lt q; omega)
              simp [r3, gx2, wpn]
              have hdd : (s.data.toList.drop (p + 2)).drop (n.toNat - 2) = s.data.toList.drop (p + n.toNat) := by
                rw [List.drop_drop]; congr 1; omega
              rw [hdd] at hw
              refine ⟨m - n.toNat, by omega, p + n.toNat, its ++ [(⟨(k.toNat : Int), body⟩ : It)], sv2, by omega, rfl, rfl, by simp [r0], by simp [r1], by simp, y1, y2, y3, (g4.trans2 eH fun _ _ q => q.elim).trans2 y4 fun j hj q => ?_, fun j hj => ?_, by simp; omega, ?_⟩
              · rcases q with q | q | q
                · exact .inl q
                · exact .inr q
                · have := g5 j q; omega
              · rcases y5 j hj with q | q
                · exact g5 j q
                · omega
              · rw [hw]; simp
  · have hnil : s.data.toList.drop p = [] := List.drop_of_length_le (by omega)
    rw [hnil, walkL_nil, List.append_nil] at hw
    simp [r0, r1, r3, x2, hp]
    exact hq1 (by rw [hw]) A1 sv _ g1 g2 (by rw [hw]; exact g3) g4 g5
end Go.Proofs.Ytkojapepiojnjaa
