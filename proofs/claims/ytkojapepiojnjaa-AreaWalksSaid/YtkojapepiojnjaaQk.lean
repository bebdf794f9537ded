/- AreaCanon of stage 4. -/
import Derived.Test.YtkojapepiojnjaaQj
import Derived.KernelRfl
namespace Go.Proofs.Ytkojapepiojnjaa
open Go Go.AS
set_option maxRecDepth 100000
set_option linter.unusedSimpArgs false
set_option linter.unusedVariables false
attribute [local irreducible] Trie.set Trie.get Env.rd
attribute [local simp] Nat.add_assoc wD_cons'' wD_nil' wC_seq wC_ops wC_opsD_nil wC_cond wC_skip wC_ret wC_exit wC_block wO_cons' wO_nil wantedA wV_eq lop qop ev wL_some wL_none wPut envOf rd_set rd_leaf eqA thenC blockC wB_true wB_false endF unwindA resultsA resA tupleA rdCell rdCells wrCells cl fillP lay rep binA unA get_set' AHeap.get_alloc oneCell

/-- What a text is walked through as may be laid, no longer than it. -/
theorem walk_items : ∀ (n : Nat) (l : List UInt8), l.length ≤ n → ((∀ x ∈ (walkL l).1, x.ok) ∧ (raw (walkL l).1).length ≤ l.length) ∧ ((walkL l).2 = 0 ∨ (walkL l).2 = 4 ∨ (walkL l).2 = 5) := by
  intro n
  induction n with
  | zero => intro l h; have : l = [] := List.length_eq_zero_iff.1 (by omega); subst this; rw [walkL_nil]; simp [raw]
  | succ n ih =>
    intro l h
    cases l with
    | nil => rw [walkL_nil]; simp [raw]
    | cons k r =>
      by_cases h0 : k = 0
      · rw [h0, walkL_zero]; simp [raw]
      · by_cases h1 : k = 1
        · rw [h1, walkL_one]
          obtain ⟨⟨a, b⟩, c⟩ := ih r (by simpa using h)
          exact ⟨⟨a, by simp; omega⟩, c⟩
        · cases r with
          | nil => rw [walkL_short k h0 h1]; simp [raw]
          | cons m r =>
            by_cases h2 : m.toNat < 2
            · rw [walkL_form k m r h0 h1 h2]; simp [raw]
            · by_cases h3 : r.length + 2 < m.toNat
              · rw [walkL_long k m r h0 h1 h2 h3]; simp [raw]
              · rw [walkL_item k m r h0 h1 h2 h3]
                obtain ⟨⟨a, b⟩, c⟩ := ih (r.drop (m.toNat - 2)) (by simp at h ⊢; omega)
                have kl := k.toNat_lt
                have ml := m.toNat_lt
                have k0 : k.toNat ≠ 0 := fun q => h0 (UInt8.toNat_inj.1 (by rw [q]; rfl))
                have k1 : k.toNat ≠ 1 := fun q => h1 (UInt8.toNat_inj.1 (by rw [q]; rfl))
                have bs : (⟨⟨r.take (m.toNat - 2)⟩⟩ : ByteArray).size = m.toNat - 2 := by
                  rw [size_mk, List.length_take]; omega
                refine ⟨⟨fun x hx => ?_, ?_⟩, c⟩
                · rcases List.mem_cons.1 hx with q | q
                  · subst q; exact ⟨by simp only; omega, by simp only; omega, by simp only [bs]; omega⟩
                  · exact a x q
                · have : raw ((⟨(k.toNat : Int), ⟨⟨r.take (m.toNat - 2)⟩⟩⟩ : It) :: (walkL (r.drop (m.toNat - 2))).1) = It.raw ⟨(k.toNat : Int), ⟨⟨r.take (m.toNat - 2)⟩⟩⟩ ++ raw (walkL (r.drop (m.toNat - 2))).1 := rfl
                  rw [this, List.length_append, It.raw_len]
                  simp only [bs]
                  rw [List.length_drop] at b
                  simp only [List.length_cons]
                  omega

theorem raw_ge (its : List It) : its.length * 2 ≤ (raw its).length := by
  induction its with
  | nil => simp
  | cons x l ih =>
    have : raw (x :: l) = x.raw ++ raw l := rfl
    rw [this, List.length_append, It.raw_len]; simp; omega

def CI (A : AHeap) (lv : Value) (sp tp : ByteArray) (its : List It) (m : Nat) (st : St) : Prop := ∃ i, m + i = its.length ∧ st.n = 110 ∧ st.dfs = [] ∧ st.A = A ∧ st.env.rd 0 = .string sp ∧ st.env.rd 3 = lv ∧ st.env.rd 5 = .string tp ∧ st.env.rd 6 = .int .i64 0 ∧ st.env.rd 7 = .int .i64 ((raw (its.take i)).length : Nat) ∧ st.env.rd 8 = .int .i64 (i : Nat)

def DI (A : AHeap) (tp : ByteArray) (n0 : Nat) (m : Nat) (st : St) : Prop := ∃ i, m + i = tp.size ∧ n0 ≤ i ∧ st.n = 110 ∧ st.dfs = [] ∧ st.A = A ∧ st.env.rd 5 = .string tp ∧ st.env.rd 9 = .int .i64 (i : Nat)

theorem canon_ok (s : ByteArray) (hs : s.size < 9000000000000000000) (A0 : AHeap) : wF T (.func (.func 6) #[] #[]) [.string s] A0 (fun v _ => v = .bool true) := by
  refine wF_func (first := []) (captured := []) t6 ⟨rfl, by decide⟩ ?_
  dsimp only [c6]; simp
  refine yes_ok _ _ ?_
  have m1 : ∃ z : Nat, z ≤ s.size ∧ z ≤ 40 ∧ (if (40 : Int) < s.size then 40 else (s.size : Int)) = (z : Int) := by
    split
    · exact ⟨40, by omega, by omega, rfl⟩
    · exact ⟨s.size, by omega, by omega, rfl⟩
  obtain ⟨z, z0, z1, z3⟩ := m1
  have q1 : IntKind.i64.wrap ((z : Int) / 4) = ((z / 4 : Nat) : Int) := by
    rw [IntWalk.i64_in _ (by omega)]; omega
  have q2 : IntKind.i64.wrap (((z / 4 : Nat) : Int) * 4) = ((z / 4 * 4 : Nat) : Int) := by
    rw [IntWalk.i64_in _ (by omega)]; omega
  have zs := sliceS_to s .i64 ((z / 4 * 4 : Nat) : Int) (by omega) (by omega)
  simp only [Int.toNat_natCast] at zs
  have ll : (s.data.toList.take (z / 4 * 4)).length = z / 4 * 4 := by rw [List.length_take]; have : s.data.toList.length = s.size := rfl; omega
  generalize s.data.toList.take (z / 4 * 4) = l at zs ll
  have h40 : z / 4 * 4 ≤ 40 := by omega
  have hm4 : z / 4 * 4 % 4 = 0 := by omega
  generalize hz : z / 4 * 4 = zz at q2 zs ll h40 hm4
  generalize z / 4 = z4 at q1 q2 hz
  simp [foldV, minV, z3, q1, q2, zs]
  refine walk_ok ⟨⟨l⟩⟩ _ _ (by rw [size_mk]; omega) fun A1 sv s1 e1 o1 => ?_
  have hR : walkR l = if (walkL l).2 = 0 then walkL l else ([], (walkL l).2) := by
    unfold walkR; rw [if_neg (by omega), if_neg (by omega)]
  simp only at s1
  rw [hR] at s1 ⊢
  obtain ⟨⟨hok, hlen⟩, herr⟩ := walk_items l.length l (Nat.le_refl _)
  by_cases he : (walkL l).2 = 0
  · rw [if_pos he] at s1 ⊢
    rw [he]
    generalize (walkL l).1 = its at s1 hok hlen
    obtain ⟨av, cv, hv⟩ := s1.read.val
    subst hv
    have hge := raw_ge its
    have hp : itemsP its (raw its).length := ⟨hok, rfl, by omega, by omega⟩
    have hL := layR_ok its _ hp
    have pl := pad_len (raw its)
    simp
    refine lay_ok its _ A1 _ s1.read (by omega) fun A2 e2 => ?_
    rw [hL]
    have s2 := s1.ext e2 fun _ _ q => q
    simp
    refine wC_loop_inv (CI A2 (.slice av its.length cv) ⟨⟨l⟩⟩ ⟨⟨pad (raw its)⟩⟩ its) ?_ its.length _ ⟨0, by omega, rfl, rfl, rfl, by simp, by simp, by simp, by simp, by simp [raw], by simp⟩
    rintro m ⟨env, nn, dfs, A⟩ ⟨i, k0, k1, k2, k3, r0, r3, r5, r6, r7, r8⟩
    simp only at k1 k2 k3 r0 r3 r5 r6 r7 r8
    subst k1; subst k2; subst k3
    have hrl := raw_take_le its i
    by_cases hi : i < its.length
    · obtain ⟨d1, x1, cc1, bs1, ro1, opn1, y1, y2, y3, y4⟩ := s2.read.elem2 hi
      cases y1
      rw [icells_at its i hi] at y4
      obtain ⟨b1, b2⟩ := take2 y4
      rw [Nat.add_assoc] at b2
      have hrs := raw_take_succ its i hi
      have hrl2 := raw_take_le its (i + 1)
      have ws := wrap_succ i (by omega)
      obtain ⟨u1, u2, u3⟩ := hok _ (List.getElem_mem hi)
      generalize its[i]'hi = u at b1 b2 hrs u1 u2 u3
      have v1 : ¬ u.kind < 2 := by omega
      have v2 : ¬ 255 < u.kind := by omega
      have w5 : IntKind.i64.wrap (((raw (its.take i)).length : Int) + 2) = ((raw (its.take i)).length : Int) + 2 := IntWalk.i64_in _ (by omega)
      have w6 : IntKind.i64.wrap (((raw (its.take i)).length : Int) + 2 + (u.body.size : Int)) = ((raw (its.take (i + 1))).length : Nat) := by rw [IntWalk.i64_in _ (by omega)]; omega
      simp [r0, r3, r5, r6, r7, r8, hi, idxA, y2, b1, b2, w5, w6, v1, v2]
      exact ⟨m - 1, by omega, i + 1, by omega, rfl, rfl, rfl, by simp [r0], by simp [r3], by simp [r5], by simp [r6], by simp, by simpa using ws⟩
    · have hxi : its.take i = its := List.take_of_length_le (by omega)
      rw [hxi] at r7
      have g1 : ¬ (l.length : Int) < ((pad (raw its)).length : Int) := by omega
      simp [r0, r3, r5, r6, r7, r8, hi, size_mk, g1]
      refine walked_ok ⟨⟨pad (raw its)⟩⟩ its _ A _ s2.read (fun j hj => s2.own_lt hj) (by rw [size_mk]; omega) fun A3 e3 => ?_
      rw [decide_eq_true (walkR_pad its hok (by omega))]
      have w7 : IntKind.i64.wrap (((pad (raw its)).length : Int) - ((raw its).length : Int)) = ((pad (raw its)).length : Int) - ((raw its).length : Int) := IntWalk.i64_in _ (by omega)
      have g2 : ¬ (3 : Int) < ((pad (raw its)).length : Int) - ((raw its).length : Int) := by omega
      have g3 : ¬ ((pad (raw its)).length : Int) < ((raw its).length : Int) := by omega
      simp [r0, r3, r5, r6, r7, r8, size_mk, w7, g2, g3]
      have hz0 : ∀ j, (raw its).length ≤ j → (hj : j < (pad (raw its)).length) → (pad (raw its))[j] = 0 := fun j h1 h2 => by
        have : (pad (raw its))[j]? = some 0 := by
          show (raw its ++ List.replicate ((4 - (raw its).length % 4) % 4) 0)[j]? = _
          rw [List.getElem?_append_right h1, List.getElem?_replicate, if_pos (by omega)]
        rw [List.getElem?_eq_getElem h2] at this
        exact Option.some.inj this
      refine wC_loop_inv (DI A3 ⟨⟨pad (raw its)⟩⟩ (raw its).length) ?_ ((pad (raw its)).length - (raw its).length) _ ⟨(raw its).length, by rw [size_mk]; omega, by omega, rfl, rfl, rfl, by simp [r5], by simp⟩
      rintro m ⟨env, nn, dfs, A'⟩ ⟨j, k0, k9, k1, k2, k3, r5, r9⟩
      simp only at k1 k2 k3 r5 r9
      subst k1; subst k2; subst k3
      rw [size_mk] at k0
      by_cases hj : j < (pad (raw its)).length
      · have hzz := hz0 j k9 hj
        have hg : (pad (raw its))[j]? = some 0 := by rw [List.getElem?_eq_getElem hj, hzz]
        have ws := wrap_succ j (by omega)
        simp [r5, r9, size_mk, hj, idxA, hzz]
        exact ⟨m - 1, by omega, j + 1, by rw [size_mk]; omega, by omega, rfl, rfl, rfl, by simp [r5], by simpa using ws⟩
      · simp [r5, r9, size_mk, hj]
  · rw [if_neg he] at s1 ⊢
    obtain ⟨av, cv, hv⟩ := s1.read.val
    subst hv
    rcases herr with q | q | q
    · exact absurd q he
    · rw [q]; simp
    · rw [q]; simp
end Go.Proofs.Ytkojapepiojnjaa
