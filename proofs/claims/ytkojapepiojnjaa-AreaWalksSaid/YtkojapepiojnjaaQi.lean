/- AreaBack of stage 4. -/
import Derived.Test.YtkojapepiojnjaaQh
import Derived.KernelRfl
namespace Go.Proofs.Ytkojapepiojnjaa
open Go Go.AS
set_option maxRecDepth 100000
set_option linter.unusedSimpArgs false
set_option linter.unusedVariables false
attribute [local irreducible] Trie.set Trie.get Env.rd
attribute [local simp] Nat.add_assoc wD_cons'' wD_nil' wC_seq wC_ops wC_opsD_nil wC_cond wC_skip wC_ret wC_exit wC_block wO_cons' wO_nil wantedA wV_eq lop qop ev wL_some wL_none wPut envOf rd_set rd_leaf eqA thenC blockC wB_true wB_false endF unwindA resultsA resA tupleA rdCell rdCells wrCells cl fillP lay rep binA unA get_set' AHeap.get_alloc oneCell

def NI (A : AHeap) (lv : Value) (sp ax : ByteArray) (its : List It) (k : Nat) (m : Nat) (st : St) : Prop := ∃ i, m + i = k ∧ st.n = 103 ∧ st.dfs = [] ∧ st.A = A ∧ st.env.rd 5 = lv ∧ st.env.rd 6 = .string sp ∧ st.env.rd 8 = .int .i64 (k : Nat) ∧ st.env.rd 9 = .string ax ∧ st.env.rd 11 = .int .i64 ((raw (its.take i)).length : Nat) ∧ st.env.rd 12 = .int .i64 (i : Nat)

theorem raw_take_succ (its : List It) (i : Nat) (hi : i < its.length) : (raw (its.take (i + 1))).length = (raw (its.take i)).length + (2 + its[i].body.size) := by
  have : its.take (i + 1) = its.take i ++ [its[i]] := by rw [List.take_add_one, List.getElem?_eq_getElem hi]; rfl
  rw [this, raw_app, List.length_append, It.raw_len]
theorem raw_take_le (its : List It) (i : Nat) : (raw (its.take i)).length ≤ (raw its).length := by
  rw [raw_split its i, List.length_append]; omega

theorem back_ok (ds : List Dr) (at_ : Nat) (ha : at_ < 256) (lv : Value) (A0 : AHeap) (h : ReadAt A0 2 lv ds.length (dcells ds)) (hk : ∀ x ∈ ds, x.kind < 256) : wF T (.func (.func 5) #[] #[]) [lv, .int .u8 (at_ : Int)] A0 (fun v _ => v = .bool true) := by
  obtain ⟨a1, c1, rfl⟩ := h.val
  refine wF_func (first := []) (captured := []) t5 ⟨rfl, by decide⟩ ?_
  dsimp only [c5]; simp
  refine yes_ok _ _ ?_
  simp
  refine items_ok ds _ A0 _ h hk fun A1 v its n e1 s1 o1 hp => ?_
  obtain ⟨av, cv, hv⟩ := s1.read.val
  subst hv
  have hR := layR_ok its n hp
  obtain ⟨p1, p2, p3, p4⟩ := id hp
  have pl := pad_len (raw its)
  have hpad : (⟨⟨pad (raw its)⟩⟩ : ByteArray).size = (pad (raw its)).length := rfl
  simp
  refine lay_ok its _ A1 _ s1.read (by omega) fun A2 e2 => ?_
  rw [hR]
  have m4 : (((pad (raw its)).length : Int).tmod 4) = 0 := by rw [rem4]; omega
  have m40 : ¬ (40 : Int) < ((pad (raw its)).length : Int) := by omega
  simp [size_mk, m4, m40]
  have s2 := s1.ext e2 fun _ _ q => q
  refine size_ok its _ A2 _ s2.read (by omega) fun A3 e3 => ?_
  rw [hR]
  simp [size_mk, m4, m40]
  have s3 := s2.ext e3 fun _ _ q => q
  refine walked_ok _ its _ A3 _ s3.read (fun j hj => s3.own_lt hj) (by rw [size_mk]; omega) fun A4 e4 => ?_
  have s4 := s3.ext e4 fun _ _ q => q
  rw [decide_eq_true (walkR_pad its p1 (by omega))]
  have w1 : IntKind.i64.wrap (at_ : Int) = (at_ : Int) := IntWalk.i64_in _ (by omega)
  have w2 : IntKind.i64.wrap ((its.length : Int) + 1) = (its.length : Int) + 1 := IntWalk.i64_in _ (by omega)
  have w3 : ¬ (its.length : Int) + 1 = 0 := by omega
  have f0 : 0 ≤ (at_ : Int).tmod ((its.length : Int) + 1) := Int.tmod_nonneg _ (by omega)
  have f1 : (at_ : Int).tmod ((its.length : Int) + 1) < (its.length : Int) + 1 := Int.tmod_lt_of_pos _ (by omega)
  obtain ⟨k, hkk⟩ : ∃ k : Nat, (at_ : Int).tmod ((its.length : Int) + 1) = (k : Int) := ⟨((at_ : Int).tmod ((its.length : Int) + 1)).toNat, by omega⟩
  rw [hkk] at f0 f1
  obtain ⟨v', q1, q2, q3⟩ := front (k2 := .i64) s4 (by decide) (show k ≤ its.length by omega) (by omega)
  rw [icells_take] at q2
  simp [size_mk, m4, m40, w1, w2, w3, hkk, q1]
  have tl : (its.take k).length = k := by rw [List.length_take]; omega
  refine lay_ok (its.take k) _ A4 _ (by rw [tl]; exact q2) (by omega) fun A5 e5 => ?_
  have s5 := s4.ext e5 fun _ _ q => q
  simp
  generalize (layR (its.take k)).1 = ax
  refine wC_loop_inv (NI A5 (.slice av its.length cv) ⟨⟨pad (raw its)⟩⟩ ax its k) ?_ k _ ⟨0, by omega, rfl, rfl, rfl, by simp, by simp, by simp, by simp, by simp [raw], by simp⟩
  rintro m ⟨env, nn, dfs, A⟩ ⟨i, k0, k1, k2, k3, r5, r6, r8, r9, r11, r12⟩
  simp only at k1 k2 k3 r5 r6 r8 r9 r11 r12
  subst k1; subst k2; subst k3
  have hrl := raw_take_le its i
  by_cases hi : i < k
  · obtain ⟨d1, x1, cc1, bs1, ro1, opn1, y1, y2, y3, y4⟩ := s5.read.elem2 (show i < its.length by omega)
    cases y1
    rw [icells_at its i (by omega)] at y4
    obtain ⟨b1, b2⟩ := take2 y4
    rw [Nat.add_assoc] at b2
    have hrs := raw_take_succ its i (by omega)
    have hrl2 := raw_take_le its (i + 1)
    have ws := wrap_succ i (by omega)
    have hil : i < its.length := by omega
    generalize its[i]'hil = x at b1 b2 hrs
    have w5 : IntKind.i64.wrap (((raw (its.take i)).length : Int) + 2) = ((raw (its.take i)).length : Int) + 2 := IntWalk.i64_in _ (by omega)
    have w6 : IntKind.i64.wrap (((raw (its.take i)).length : Int) + 2 + (x.body.size : Int)) = ((raw (its.take (i + 1))).length : Nat) := by rw [IntWalk.i64_in _ (by omega)]; omega
    simp [r5, r6, r8, r9, r11, r12, hi, hil, idxA, y2, b1, b2, w5, w6]
    exact ⟨m - 1, by omega, i + 1, by omega, rfl, rfl, rfl, by simp [r5], by simp [r6], by simp [r8], by simp [r9], by simp, by simpa using ws⟩
  · have hik : i = k := by omega
    subst hik
    by_cases g1 : (ax.size : Int) < ((raw (its.take i)).length : Int)
    · simp [r5, r6, r8, r9, r11, r12, hi, g1]
    · by_cases g2 : (40 : Int) ≤ ((pad (raw its)).length : Int)
      · simp [r5, r6, r8, r9, r11, r12, hi, g1, g2, size_mk]
      · have g3 : ¬ ((pad (raw its)).length : Int) < ((raw (its.take i)).length : Int) := by omega
        have z1 := sliceS_to ⟨⟨pad (raw its)⟩⟩ .i64 ((raw (its.take i)).length : Nat) (by omega) (by rw [size_mk]; omega)
        have z2 := sliceS_from ⟨⟨pad (raw its)⟩⟩ .i64 (raw (its.take i)).length (by rw [size_mk]; omega)
        have hb := walkR_between its i p1 (by omega)
        simp only [Int.toNat_natCast] at z1
        have l1 : ((pad (raw its)).take (raw (its.take i)).length).length ≤ 40 := by rw [List.length_take]; omega
        have l2 : ((pad (raw its)).drop (raw (its.take i)).length).length ≤ 40 := by rw [List.length_drop]; omega
        generalize (pad (raw its)).take (raw (its.take i)).length = fa at z1 hb l1
        generalize (pad (raw its)).drop (raw (its.take i)).length = fb at z2 hb l2
        have i1 : ¬ (9223372036854775807 : Int) < (fa.length : Int) + 1 := by omega
        have i2 : ¬ (9223372036854775807 : Int) < (fa.length : Int) + (1 + (fb.length : Int)) := by omega
        have i3 : ¬ (9223372036854775807 : Int) < (fa.length : Int) + ((fb.length : Int) + 4) := by omega
        simp [r5, r6, r8, r9, r11, r12, hi, g1, g2, g3, size_mk, z1, z2, i1, i2, i3]
        refine walked_ok ⟨⟨fa ++ 1 :: (fb ++ [0, 0, 0])⟩⟩ its _ A _ s5.read (fun j hj => s5.own_lt hj) (by rw [size_mk]; simp; omega) fun A6 e6 => ?_
        have hb' : walkR (fa ++ 1 :: (fb ++ [0, 0, 0])) = (its, 0) := by simpa using hb
        rw [decide_eq_true hb']
        simp
end Go.Proofs.Ytkojapepiojnjaa
