/- One thing taken out of a row. -/
import Derived.Test.YtidgbapgedegbaaCd
import Derived.KernelRfl
namespace Go.Proofs.Ytidgbapgedegbaa.Fw
open Go Go.AS Ou
set_option maxRecDepth 100000
set_option linter.unusedSimpArgs false
set_option linter.unusedVariables false
attribute [local irreducible] Trie.set Trie.get Env.rd
attribute [local simp] Nat.add_assoc wD_cons'' wD_nil' wC_seq wC_ops wC_opsD_nil wC_cond wC_skip wC_ret wC_exit wC_block wO_cons' wO_nil wantedA wV_eq lop qop ev wL_some wL_none wPut envOf rd_set rd_leaf eqA thenC blockC wB_true wB_false endF unwindA resultsA resA tupleA rdCell rdCells wrCells cl fillP lay rep binA unA get_set' AHeap.get_alloc oneCell beqd bned idxA

theorem sliceVA_same {A A' : AHeap} {sz : Nat} {v : Value} {lo hi mx : Option Value} (h : ∀ j, Own v j → A'.get j = A.get j) : sliceVA A' sz v lo hi mx = sliceVA A sz v lo hi mx := by
  unfold sliceVA
  split
  · rfl
  · rename_i b o len cap
    rw [h b ⟨_, _, _, rfl⟩]
  · rfl
theorem slice_to {A : AHeap} {sz n l : Nat} {v : Value} {cs : List Value} {k1 : IntKind} (h : SliceAt A sz v n cs) (hsz : sz ≠ 0) (hl : l ≤ n) :
    ∃ v', sliceVA A sz v none (some (.int k1 (l : Int))) none = some v' ∧ ReadAt A sz v' l (cs.take (l * sz)) ∧ ∀ j, Own v' j → Own v j := by
  have hb : ∀ cap, n ≤ cap → bndsA n cap none (some (.int k1 (l : Int))) none = some (0, l, cap) := fun cap hc => by
    delta bndsA; simp [bnd_nat k1 l cap (by omega)]
  have hm : l * sz ≤ n * sz := Nat.mul_le_mul_right _ hl
  rcases h with ⟨h1, h2, h3⟩ | ⟨d, o, c, bs, opn, h1, h2, h3, h4, h5⟩
  · subst h1; subst h2; subst h3
    have : l = 0 := by omega
    subst this
    exact ⟨_, by simp only [sliceVA, hb 0 (Nat.le_refl _)], .inl ⟨rfl, rfl, by simp⟩, fun j hj => hj⟩
  · subst h1
    rcases h5 with ⟨q1, q2, q3⟩ | ⟨q1, q2⟩ | ⟨q1, q2, q3, q4⟩
    · subst q1; subst q2
      refine ⟨.slice (some ⟨d, o, none⟩) l OPEN, ?_, .inr (.inl ⟨d, o, OPEN, bs, false, opn, rfl, h2, by omega, ?_, fun q => absurd q (by decide)⟩), ?_⟩
      · simp only [sliceVA, if_true, h2, hb n (Nat.le_refl _)]
        rw [if_neg (by simp [hsz])]; simp
      · rw [h4, List.take_take, Nat.min_eq_left hm]
      · rintro j ⟨o', n', c', q⟩; cases q; exact ⟨_, _, _, rfl⟩
    · subst q1
      have c1 : c ≠ OPEN := by omega
      have c2 : c ≠ ENDCAP := fun q => by rw [q] at q2; exact absurd q2 (by decide)
      refine ⟨.slice (some ⟨d, o, none⟩) l c, ?_, .inr (.inl ⟨d, o, c, bs, false, opn, rfl, h2, by omega, ?_, fun q => absurd q c2⟩), ?_⟩
      · simp only [sliceVA, if_neg c1, if_neg c2, if_neg (show ¬ OPEN ≤ c by omega), hb c (Nat.le_refl _), Nat.sub_zero]; simp
      · rw [h4, List.take_take, Nat.min_eq_left hm]
      · rintro j ⟨o', n', c', q⟩; cases q; exact ⟨_, _, _, rfl⟩
    · subst q1; subst q2
      have : l = 0 := by omega
      subst this
      refine ⟨.slice (some ⟨d, o, none⟩) 0 ENDCAP, ?_, .inr (.inr ⟨d, o, ENDCAP, rfl, rfl, by simp⟩), ?_⟩
      · have e1 : ENDCAP ≠ OPEN := by decide
        have hb0 := hb 0 (Nat.le_refl _)
        simp only [sliceVA, if_neg e1, if_true, hb0]
      · rintro j ⟨o', n', c', q⟩; cases q; exact ⟨_, _, _, rfl⟩
theorem encs_len {α : Type} {enc : α → List Value} {sz : Nat} (hz : ∀ x, (enc x).length = sz) : ∀ l : List α, (encs enc l).length = l.length * sz
  | [] => by simp [encs]
  | x :: l => by
    have := encs_len hz l
    simp only [encs, List.flatMap_cons, List.length_append, List.length_cons] at this ⊢
    rw [this, hz, Nat.add_mul, Nat.one_mul, Nat.add_comm]
theorem encs_take {α : Type} {enc : α → List Value} {sz : Nat} (hz : ∀ x, (enc x).length = sz) (l : List α) (k : Nat) (hk : k ≤ l.length) : (encs enc l).take (k * sz) = encs enc (l.take k) := by
  have h := encs_append enc (l.take k) (l.drop k)
  rw [List.take_append_drop] at h
  rw [h, List.take_left']
  rw [encs_len hz, List.length_take, Nat.min_eq_left hk]
theorem encs_drop {α : Type} {enc : α → List Value} {sz : Nat} (hz : ∀ x, (enc x).length = sz) (l : List α) (k : Nat) (hk : k ≤ l.length) : (encs enc l).drop (k * sz) = encs enc (l.drop k) := by
  have h := encs_append enc (l.take k) (l.drop k)
  rw [List.take_append_drop] at h
  rw [h, List.drop_left']
  rw [encs_len hz, List.length_take, Nat.min_eq_left hk]
theorem sgc1 (l : List Sg) : (encs sgc l).all oneCell = true := by
  induction l with
  | nil => rfl
  | cons x l ih => simp only [encs, List.flatMap_cons, List.all_append] at ih ⊢; rw [ih, sgco]; rfl

/-- append(append([]T{}, v[:k]...), v[k+1:]...) -/
theorem slice_out {A : AHeap} {v : Value} {l : List Sg} {k : Nat} {k1 k2 : IntKind} (h : SliceAt A 12 v l.length (encs sgc l)) (hk : k < l.length) (hn : l.length < 1000000) :
    ∃ v1 v2 A2 v3 v4 A4, sliceVA A 12 v none (some (.int k1 (k : Int))) none = some v1 ∧ sliceVA (A.alloc (.cells [] false 0)) 12 v none (some (.int k1 (k : Int))) none = some v1 ∧
      appA (A.alloc (.cells [] false 0)) 12 64 (.slice (some ⟨A.size, 0, none⟩) 0 0) v1 = some (v2, A2) ∧
      sliceVA A 12 v (some (.int k2 ((k + 1 : Nat) : Int))) none none = some v3 ∧ sliceVA (A.alloc (.cells [] false 0)) 12 v (some (.int k2 ((k + 1 : Nat) : Int))) none none = some v3 ∧ sliceVA A2 12 v (some (.int k2 ((k + 1 : Nat) : Int))) none none = some v3 ∧
      appA A2 12 64 v2 v3 = some (v4, A4) ∧ SliceAt A4 12 v4 (l.take k ++ l.drop (k + 1)).length (encs sgc (l.take k ++ l.drop (k + 1))) ∧ Ext NoB A (A.alloc (.cells [] false 0)) ∧ Ext NoB A A2 ∧ Ext NoB A A4 ∧ ∀ j, Own v4 j → A.size ≤ j := by
  obtain ⟨v1, a1, a2, a3⟩ := slice_to (k1 := k1) h (by decide) (Nat.le_of_lt hk)
  obtain ⟨v3, b1, b2, b3⟩ := h.from (k1 := k2) (l := k + 1) (by decide) (by omega)
  generalize hA1 : A.alloc (.cells [] false 0) = A1
  obtain ⟨g1, e1, z1⟩ := alloc_facts hA1
  have ow : ∀ j, Own v j → j < A.size := fun j hj => h.own_lt hj
  have a2' := a2.ext e1 fun _ _ => id
  have s0 : SliceAt A1 12 (.slice (some ⟨A.size, 0, none⟩) 0 0) 0 [] := .inr ⟨A.size, 0, 0, [], 0, rfl, g1, by simp, by simp, .inr (.inl ⟨rfl, by decide⟩)⟩
  have h1 : SliceAt A1 12 v l.length (encs sgc l) := h.ext e1 fun _ _ => id
  rw [encs_take sgcz l k (Nat.le_of_lt hk)] at a2'
  have tl : (l.take k).length = k := by rw [List.length_take, Nat.min_eq_left (Nat.le_of_lt hk)]
  obtain ⟨v2, A2, c1, c2, c3, c4⟩ := s0.append (bytes := 64) (x := v1) (m := k) (new := encs sgc (l.take k)) (by decide) a2'.lenA (by rw [a2'.firstA (Nat.le_refl _), List.take_of_length_le]; rw [encs_len sgcz, tl]; exact Nat.le_refl _) (sgc1 _) (by rw [encs_len sgcz, tl]) (by omega) (by decide) (by intro q; obtain ⟨a, c, e⟩ := a2'.val; rw [e] at q; cases q)
  rw [List.nil_append, Nat.zero_add] at c2
  have own0 : ∀ j, Own (.slice (some ⟨A.size, 0, none⟩) 0 0) j → j = A.size := by rintro j ⟨o, n, c, q⟩; cases q; rfl
  have e2 : Ext NoB A A2 := e1.trans2 c3 fun j hj q => by have := own0 j q; omega
  have b1' : sliceVA A1 12 v (some (.int k2 ((k + 1 : Nat) : Int))) none none = some v3 := by rw [sliceVA_same fun j hj => e1.keep j (ow j hj) id]; exact b1
  have b1'' : sliceVA A2 12 v (some (.int k2 ((k + 1 : Nat) : Int))) none none = some v3 := by rw [sliceVA_same fun j hj => e2.keep j (ow j hj) id]; exact b1
  have b2' := b2.ext e2 fun _ _ => id
  rw [encs_drop sgcz l (k + 1) hk] at b2'
  have dl : (l.drop (k + 1)).length = l.length - (k + 1) := List.length_drop
  obtain ⟨v4, A4, d1, d2, d3, d4⟩ := c2.append (bytes := 64) (x := v3) (m := l.length - (k + 1)) (new := encs sgc (l.drop (k + 1))) (by decide) b2'.read.lenA (by rw [b2'.read.firstA (Nat.le_refl _), List.take_of_length_le]; rw [encs_len sgcz, dl]; exact Nat.le_refl _) (sgc1 _) (by rw [encs_len sgcz, dl]) (by omega) (by decide) (by intro q; obtain ⟨a, c, e⟩ := b2'.read.val; rw [e] at q; cases q)
  have own2 : ∀ j, Own v2 j → A.size ≤ j := fun j hj => by
    rcases c4 j hj with q | q
    · have := own0 j q; omega
    · have := e1.size; omega
  refine ⟨v1, v2, A2, v3, v4, A4, a1, by rw [sliceVA_same fun j hj => e1.keep j (ow j hj) id]; exact a1, c1, b1, b1', b1'', d1, ?_, e1, e2, e2.trans2 d3 fun j hj q => ?_, fun j hj => ?_⟩
  · rw [encs_append, List.length_append, tl, dl]; exact d2
  · have := own2 j q; omega
  · rcases d4 j hj with q | q
    · exact own2 j q
    · have := e2.size; omega
end Go.Proofs.Ytidgbapgedegbaa.Fw
