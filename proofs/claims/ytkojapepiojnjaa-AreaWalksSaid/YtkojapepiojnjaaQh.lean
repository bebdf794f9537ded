/- Plain laws of stage 4: what is laid is walked through again. -/
import Derived.Test.YtkojapepiojnjaaQg
import Derived.KernelRfl
namespace Go.Proofs.Ytkojapepiojnjaa
open Go Go.AS
set_option maxRecDepth 100000
set_option linter.unusedSimpArgs false
set_option linter.unusedVariables false
attribute [local irreducible] Trie.set Trie.get Env.rd
attribute [local simp] Nat.add_assoc wD_cons'' wD_nil' wC_seq wC_ops wC_opsD_nil wC_cond wC_skip wC_ret wC_exit wC_block wO_cons' wO_nil wantedA wV_eq lop qop ev wL_some wL_none wPut envOf rd_set rd_leaf eqA thenC blockC wB_true wB_false endF unwindA resultsA resA tupleA rdCell rdCells wrCells cl fillP lay rep binA unA get_set' AHeap.get_alloc oneCell

theorem walk_raw (t : List UInt8) : ∀ (its : List It), (∀ x ∈ its, x.ok) → walkL (raw its ++ t) = (its ++ (walkL t).1, (walkL t).2)
  | [], _ => by simp [raw]
  | x :: its, h => by
    obtain ⟨x1, x2, x3⟩ := h x (by simp)
    have ih := walk_raw t its fun y hy => h y (by simp [hy])
    have k1 : (UInt8.ofNat x.kind.toNat).toNat = x.kind.toNat := by rw [UInt8.toNat_ofNat']; exact Nat.mod_eq_of_lt (by omega)
    have n1 : (UInt8.ofNat (2 + x.body.size)).toNat = 2 + x.body.size := by rw [UInt8.toNat_ofNat']; exact Nat.mod_eq_of_lt (by omega)
    have bl : x.body.data.toList.length = x.body.size := rfl
    have h0 : UInt8.ofNat x.kind.toNat ≠ 0 := fun q => by rw [q] at k1; have : (0 : UInt8).toNat = 0 := rfl; omega
    have h1 : UInt8.ofNat x.kind.toNat ≠ 1 := fun q => by rw [q] at k1; have : (1 : UInt8).toNat = 1 := rfl; omega
    have e : raw (x :: its) ++ t = UInt8.ofNat x.kind.toNat :: UInt8.ofNat (2 + x.body.size) :: (x.body.data.toList ++ (raw its ++ t)) := by simp [raw, It.raw]
    rw [e, walkL_item _ _ _ h0 h1 (by rw [n1]; omega) (by rw [n1, List.length_append, bl]; omega), n1, k1]
    have d1 : (x.body.data.toList ++ (raw its ++ t)).take (2 + x.body.size - 2) = x.body.data.toList := by
      rw [show 2 + x.body.size - 2 = x.body.data.toList.length by omega]; exact List.take_left
    have d2 : (x.body.data.toList ++ (raw its ++ t)).drop (2 + x.body.size - 2) = raw its ++ t := by
      rw [show 2 + x.body.size - 2 = x.body.data.toList.length by omega]; exact List.drop_left
    rw [d1, d2, ih, show ((x.kind.toNat : Nat) : Int) = x.kind by omega]
    rfl

theorem walk_zeros : ∀ (n : Nat), walkL (List.replicate n 0) = ([], 0)
  | 0 => walkL_nil
  | n + 1 => by rw [List.replicate_succ, walkL_zero]

theorem pad_len (l : List UInt8) : (pad l).length = l.length + (4 - l.length % 4) % 4 := by simp [pad]

theorem walkR_pad (its : List It) (h : ∀ x ∈ its, x.ok) (hn : (raw its).length ≤ 40) : walkR (pad (raw its)) = (its, 0) := by
  have e : walkL (pad (raw its)) = (its, 0) := by
    unfold pad
    rw [walk_raw _ its h, walk_zeros]; simp
  unfold walkR
  rw [if_neg (by rw [pad_len]; omega), if_neg (by rw [pad_len]; omega), if_pos (by rw [e]), e]

theorem layR_ok (its : List It) (n : Nat) (h : itemsP its n) : layR its = (⟨⟨pad (raw its)⟩⟩, 0) := by
  obtain ⟨h1, h2, h3, _⟩ := h
  unfold layR
  rw [if_pos (by rw [List.all_eq_true]; intro x hx; simp [h1 x hx]), if_pos (by omega)]

theorem raw_split (its : List It) (k : Nat) : raw its = raw (its.take k) ++ raw (its.drop k) := by
  unfold raw
  rw [← List.flatMap_append, List.take_append_drop]

theorem walkR_between (its : List It) (k : Nat) (h : ∀ x ∈ its, x.ok) (hn : (pad (raw its)).length < 40) :
    walkR ((pad (raw its)).take (raw (its.take k)).length ++ [1] ++ (pad (raw its)).drop (raw (its.take k)).length ++ [0, 0, 0]) = (its, 0) := by
  have e0 : pad (raw its) = raw (its.take k) ++ (raw (its.drop k) ++ List.replicate ((4 - (raw its).length % 4) % 4) 0) := by
    unfold pad
    conv => lhs; lhs; rw [raw_split its k]
    rw [List.append_assoc]
  have e1 : (pad (raw its)).take (raw (its.take k)).length = raw (its.take k) := by rw [e0]; exact List.take_left
  have e2 : (pad (raw its)).drop (raw (its.take k)).length = raw (its.drop k) ++ List.replicate ((4 - (raw its).length % 4) % 4) 0 := by rw [e0]; exact List.drop_left
  have pl := pad_len (raw its)
  have hl : ((pad (raw its)).take (raw (its.take k)).length ++ [1] ++ (pad (raw its)).drop (raw (its.take k)).length ++ [0, 0, 0]).length = (pad (raw its)).length + 4 := by
    have : (pad (raw its)).length = ((pad (raw its)).take (raw (its.take k)).length).length + ((pad (raw its)).drop (raw (its.take k)).length).length := by
      rw [← List.length_append, List.take_append_drop]
    simp only [List.length_append, List.length_cons, List.length_nil] at this ⊢; omega
  have hw : walkL ((pad (raw its)).take (raw (its.take k)).length ++ [1] ++ (pad (raw its)).drop (raw (its.take k)).length ++ [0, 0, 0]) = (its, 0) := by
    rw [e1, e2]
    have : raw (its.take k) ++ [1] ++ (raw (its.drop k) ++ List.replicate ((4 - (raw its).length % 4) % 4) 0) ++ [0, 0, 0] = raw (its.take k) ++ (1 :: (raw (its.drop k) ++ List.replicate ((4 - (raw its).length % 4) % 4 + 3) 0)) := by
      rw [show List.replicate ((4 - (raw its).length % 4) % 4 + 3) (0 : UInt8) = List.replicate ((4 - (raw its).length % 4) % 4) 0 ++ [0, 0, 0] by rw [← List.replicate_append_replicate]; rfl]
      simp
    rw [this, walk_raw _ _ fun x hx => h x (List.mem_of_mem_take hx), walkL_one, walk_raw _ _ fun x hx => h x (List.mem_of_mem_drop hx), walk_zeros]
    simp
  unfold walkR
  rw [hl, if_neg (by omega), if_neg (by omega), if_pos (by rw [hw]), hw]

theorem sliceS_from (s : ByteArray) (k : IntKind) (j : Nat) (h : j ≤ s.size) : sliceSA (.string s) (some (.int k (j : Int))) none = some (.string ⟨⟨s.data.toList.drop j⟩⟩) := by
  have hb : bnd (.int k (j : Int)) s.size = some j := bnd_nat k j s.size h
  unfold sliceSA
  delta bndsA
  simp [hb]
  rw [List.take_of_length_le (by rw [List.length_drop]; exact Nat.le_refl _)]

/-- A slice's front. -/
theorem front {A : AHeap} {sz n l : Nat} {v : Value} {cs : List Value} {k2 : IntKind} (h : SliceAt A sz v n cs) (hsz : sz ≠ 0) (hl : l ≤ n) (hn : n < 1000000) :
    ∃ v', sliceVA A sz v none (some (.int k2 (l : Int))) none = some v' ∧ ReadAt A sz v' l (cs.take (l * sz)) ∧ ∀ j, Own v' j → Own v j := by
  have hb : ∀ cap, l ≤ cap → bndsA n cap none (some (.int k2 (l : Int))) none = some (0, l, cap) := fun cap hc => by
    delta bndsA; simp [bnd_nat, hc]
  have hm : l * sz ≤ n * sz := Nat.mul_le_mul_right _ hl
  rcases h with ⟨h1, h2, h3⟩ | ⟨d, o, c, bs, opn, h1, h2, h3, h4, h5⟩
  · subst h1; subst h2; subst h3
    have : l = 0 := by omega
    subst this
    exact ⟨_, by simp only [sliceVA, hb 0 (Nat.le_refl _)], .inl ⟨rfl, rfl, by simp⟩, fun j hj => hj⟩
  · subst h1
    rcases h5 with ⟨q1, q2, q3⟩ | ⟨q1, q2⟩ | ⟨q1, q2, q3, q4⟩
    · subst q1; subst q2
      refine ⟨.slice (some ⟨d, o, none⟩) l OPEN, ?_, .inr (.inl ⟨d, o, OPEN, bs, false, opn, rfl, h2, by omega, ?_, fun q => absurd q (by decide)⟩), ?_⟩
      · simp only [sliceVA, if_true, h2, hb n hl]
        rw [if_neg (by simp [hsz])]
        simp
      · rw [h4, List.take_take, Nat.min_eq_left hm]
      · rintro j ⟨o', n', c', q⟩; cases q; exact ⟨_, _, _, rfl⟩
    · subst q1
      have c1 : c ≠ OPEN := by omega
      have c2 : c ≠ ENDCAP := fun q => by rw [q] at q2; exact absurd q2 (by decide)
      refine ⟨.slice (some ⟨d, o, none⟩) l c, ?_, .inr (.inl ⟨d, o, c, bs, false, opn, rfl, h2, by omega, ?_, fun q => absurd q c2⟩), ?_⟩
      · simp only [sliceVA, if_neg c1, if_neg c2, if_neg (show ¬ OPEN ≤ c by omega), hb c hl, Nat.sub_zero]
        simp
      · rw [h4, List.take_take, Nat.min_eq_left hm]
      · rintro j ⟨o', n', c', q⟩; cases q; exact ⟨_, _, _, rfl⟩
    · subst q1; subst q2
      have : l = 0 := by omega
      subst this
      refine ⟨.slice (some ⟨d, o, none⟩) 0 ENDCAP, ?_, .inr (.inr ⟨d, o, ENDCAP, rfl, rfl, by simp⟩), fun j hj => hj⟩
      simp only [sliceVA, if_neg (show ¬ ENDCAP = OPEN by decide), if_true, hb 0 (Nat.le_refl _)]
end Go.Proofs.Ytkojapepiojnjaa
