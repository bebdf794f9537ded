/- AreaWalks of stage 4. -/
import Derived.Test.YtkojapepiojnjaaQn
import Derived.Test.YtkojapepiojnjaaAsZG
import Derived.Test.YtkojapepiojnjaaQm
import Derived.KernelRfl
namespace Go.Proofs.Ytkojapepiojnjaa
open Go Go.AS
set_option maxRecDepth 100000
set_option linter.unusedSimpArgs false
set_option linter.unusedVariables false
attribute [local irreducible] Trie.set Trie.get Env.rd
attribute [local simp] Nat.add_assoc wD_cons'' wD_nil' wC_seq wC_ops wC_opsD_nil wC_cond wC_skip wC_ret wC_exit wC_block wO_cons' wO_nil wantedA wV_eq lop qop ev wL_some wL_none wPut envOf rd_set rd_leaf eqA thenC blockC wB_true wB_false endF unwindA resultsA resA tupleA rdCell rdCells wrCells cl fillP lay rep binA unA get_set' AHeap.get_alloc oneCell

theorem wV_b2s'' {e : Env} {A : AHeap} {x : Operand} {Q : Value → AHeap → Prop} : wV T e A (.cvB2S x) Q ↔ wL ((b2s A (ev e x)).map fun v => (v, A)) Q := by rw [wV_eq]; rfl
attribute [local simp ↓] wV_b2s''

theorem layR_size (l : List It) : (layR l).1.size ≤ 40 := by
  unfold layR
  split
  · split
    · rename_i h
      show (pad (raw l)).length ≤ 40
      rw [pad_len]; omega
    · simp [size_mk]
  · simp [size_mk]

theorem bcells_set (l : List UInt8) (q : Nat) (b : Nat) (hb : b < 256) : (bcells l).set q (.int .u8 (b : Int)) = bcells (l.set q (UInt8.ofNat b)) := by
  have : ((UInt8.ofNat b).toNat : Int) = (b : Int) := by rw [UInt8.toNat_ofNat', Nat.mod_eq_of_lt (by omega)]
  simp only [bcells, List.map_set, this]

def HI (ts : List ByteArray) (m : Nat) (st : St) : Prop := ∃ i, m + i = 5 ∧ st.n = 90 ∧ st.dfs = [] ∧ st.env.rd 65 = .agg ⟨ts.map .string⟩ ∧ st.env.rd 66 = .int .i64 (i : Nat)

theorem walks_ok (s : ByteArray) (hs : s.size < 9000000000000000000) (its : List It) (b0 b1 : Nat) (hb0 : b0 < 256) (hb1 : b1 < 256) (lv : Value) (A0 : AHeap) (h : ReadAt A0 2 lv its.length (icells its)) (hv : ArgV lv its.length) :
    wF T (.func (.func 4) #[] #[]) [.string s, lv, .agg ⟨[.int .u8 (b0 : Int), .int .u8 (b1 : Int)]⟩] A0 (fun v _ => v = .bool true) := by
  have m1 : ∃ z : Nat, z ≤ its.length ∧ z ≤ 10 ∧ (if (10 : Int) < its.length then 10 else (its.length : Int)) = (z : Int) := by
    split
    · exact ⟨10, by omega, by omega, rfl⟩
    · exact ⟨its.length, by omega, by omega, rfl⟩
  obtain ⟨z, z0, z1, z3⟩ := m1
  have m2 : ∃ y : Nat, y ≤ s.size ∧ y ≤ 60 ∧ (if (60 : Int) < s.size then 60 else (s.size : Int)) = (y : Int) := by
    split
    · exact ⟨60, by omega, by omega, rfl⟩
    · exact ⟨s.size, by omega, by omega, rfl⟩
  obtain ⟨y, y0, y1, y3⟩ := m2
  have zs := sliceS_to s .i64 (y : Int) (by omega) (by omega)
  simp only [Int.toNat_natCast] at zs
  have l1 : (s.data.toList.take y).length = y := by rw [List.length_take]; have : s.data.toList.length = s.size := rfl; omega
  generalize s.data.toList.take y = sl at zs l1
  have e0 : Ext NoB A0 (A0.alloc (.cells [.int .u8 (b0 : Int), .int .u8 (b1 : Int)] false 0)) := Ext.alloc
  obtain ⟨v', f1, f2, f3⟩ := hv.front (k2 := .i64) (h.ext e0 fun _ _ q => q) z0
  have fl : (its.take z).length = z := by rw [List.length_take]; omega
  rw [icells_take] at f2
  have gb : (A0.alloc (.cells [.int .u8 (b0 : Int), .int .u8 (b1 : Int)] false 0)).get A0.size = some (.cells [.int .u8 (b0 : Int), .int .u8 (b1 : Int)] false 0) := by rw [AHeap.get_alloc, if_pos rfl]
  obtain ⟨a1, c1, rfl⟩ := h.val
  refine wF_func (first := []) (captured := []) t4 ⟨rfl, by decide⟩ ?_
  dsimp only [c4]
  simp [foldV, minV, z3, y3, zs, f1]
  refine reflay_ok (its.take z) _ _ _ (by rw [fl]; exact f2) (by omega) fun A1 e1 => ?_
  have hL := layR_size (its.take z)
  generalize (layR (its.take z)).1 = L at hL
  generalize (layR (its.take z)).2 = Le
  have gb1 := e1.get gb fun q => q
  have z4 : A0.size < A1.size := AHeap.get_lt gb1
  have z5 : A0.size ≠ A1.size := by omega
  have Ls : L.data.toList.length = L.size := rfl
  have q1 : IntKind.i64.wrap ((y : Int) / 4) = ((y / 4 : Nat) : Int) := by rw [IntWalk.i64_in _ (by omega)]; omega
  have q2 : IntKind.i64.wrap (((y / 4 : Nat) : Int) * 4) = ((y / 4 * 4 : Nat) : Int) := by rw [IntWalk.i64_in _ (by omega)]; omega
  have q3 := sliceS_to ⟨⟨sl⟩⟩ .i64 ((y / 4 * 4 : Nat) : Int) (by omega) (by rw [size_mk]; omega)
  simp only [Int.toNat_natCast] at q3
  have q4 : (sl.take (y / 4 * 4)).length ≤ 60 := by rw [List.length_take]; omega
  generalize sl.take (y / 4 * 4) = t1 at q3 q4
  generalize y / 4 * 4 = zz at q2 q3
  generalize y / 4 = w4 at q1 q2
  have q5 : IntKind.i64.wrap (b0 : Int) = (b0 : Int) := IntWalk.i64_in _ (by omega)
  have q6 : IntKind.i64.wrap ((y : Int) + 1) = (y : Int) + 1 := IntWalk.i64_in _ (by omega)
  have q7 : ¬ (y : Int) + 1 = 0 := by omega
  have f0 : 0 ≤ (b0 : Int).tmod ((y : Int) + 1) := Int.tmod_nonneg _ (by omega)
  have f1' : (b0 : Int).tmod ((y : Int) + 1) < (y : Int) + 1 := Int.tmod_lt_of_pos _ (by omega)
  have q8 := sliceS_to ⟨⟨sl⟩⟩ .i64 ((b0 : Int).tmod ((y : Int) + 1)) f0 (by rw [size_mk]; omega)
  have q9 : (sl.take ((b0 : Int).tmod ((y : Int) + 1)).toNat).length ≤ 60 := by rw [List.length_take]; omega
  simp only at q8
  generalize sl.take ((b0 : Int).tmod ((y : Int) + 1)).toNat = t4 at q8 q9
  have hb1' := b2s_ok (A := A1.alloc (.cells (bcells L.data.toList) false 1)) (v := .slice (some ⟨A1.size, 0, none⟩) L.data.toList.length OPEN) (l := L.data.toList) (.inr (.inl ⟨A1.size, 0, OPEN, _, false, 1, rfl, by rw [AHeap.get_alloc, if_pos rfl], by simp [bcells], by rw [List.drop_zero, List.take_of_length_le]; simp [bcells], fun q => absurd q (by decide)⟩))
  rw [Ls] at hb1'
  by_cases hL0 : 0 < L.size
  case' neg =>
    simp only [bcells] at hb1'
    simp [hL0, gb1, z5, y3, zs, idxA, l1, size_mk, q1, q2, q3, q5, q6, q7, q8, hb1']
    have hlen2 : (⟨L.data⟩ : ByteArray).size ≤ 60 := by show L.size ≤ 60; omega
    generalize (⟨L.data⟩ : ByteArray) = t3 at hlen2 ⊢
  case' pos =>
    have q10 : ¬ L = ByteArray.empty := fun w => by rw [w] at hL0; exact absurd hL0 (by decide)
    have f2' : 0 ≤ (b0 : Int).tmod (L.size : Int) := Int.tmod_nonneg _ (by omega)
    have f3' : (b0 : Int).tmod (L.size : Int) < (L.size : Int) := Int.tmod_lt_of_pos _ (by omega)
    obtain ⟨q, hqq⟩ : ∃ q : Nat, (b0 : Int).tmod (L.size : Int) = (q : Int) := ⟨((b0 : Int).tmod (L.size : Int)).toNat, by omega⟩
    rw [hqq] at f2' f3'
    have hq : q < L.size := by omega
    have hb2 := b2s_ok (A := (A1.alloc (.cells (bcells L.data.toList) false 1)).set A1.size (.cells ((bcells L.data.toList).set q (.int .u8 (b1 : Int))) false 1)) (v := .slice (some ⟨A1.size, 0, none⟩) (L.data.toList.set q (UInt8.ofNat b1)).length OPEN) (l := L.data.toList.set q (UInt8.ofNat b1)) (.inr (.inl ⟨A1.size, 0, OPEN, _, false, 1, rfl, by rw [get_set', if_pos rfl, if_pos (by simp)], by simp [bcells], by rw [bcells_set _ _ _ hb1, List.drop_zero, List.take_of_length_le]; simp [bcells], fun q => absurd q (by decide)⟩))
    rw [List.length_set, Ls] at hb2
    simp only [bcells] at hb2
    simp [hL0, gb1, z5, z5.symm, y3, zs, idxA, l1, size_mk, q1, q2, q3, q5, q6, q7, q8, q10, hqq, hq, hb2, show q + 1 ≤ L.size by omega]
    have hlen2 : (⟨⟨L.data.toList.set q (UInt8.ofNat b1)⟩⟩ : ByteArray).size ≤ 60 := by rw [size_mk, List.length_set]; omega
    generalize (⟨⟨L.data.toList.set q (UInt8.ofNat b1)⟩⟩ : ByteArray) = t3 at hlen2 ⊢
  all_goals
    have hall : ∀ t ∈ [(⟨⟨sl⟩⟩ : ByteArray), ⟨⟨t1⟩⟩, L, t3, ⟨⟨t4⟩⟩], t.size ≤ 60 := by
      intro t ht
      simp only [List.mem_cons, List.not_mem_nil, or_false] at ht
      rcases ht with ht | ht | ht | ht | ht
      · rw [ht, size_mk]; omega
      · rw [ht, size_mk]; omega
      · rw [ht]; omega
      · rw [ht]; exact hlen2
      · rw [ht, size_mk]; omega
    have hlen5 : [(⟨⟨sl⟩⟩ : ByteArray), ⟨⟨t1⟩⟩, L, t3, ⟨⟨t4⟩⟩].length = 5 := rfl
    refine wC_loop_inv (HI [(⟨⟨sl⟩⟩ : ByteArray), ⟨⟨t1⟩⟩, L, t3, ⟨⟨t4⟩⟩]) ?_ 5 _ ⟨0, by omega, rfl, rfl, by simp, by simp⟩
    generalize [(⟨⟨sl⟩⟩ : ByteArray), ⟨⟨t1⟩⟩, L, t3, ⟨⟨t4⟩⟩] = ts at hall hlen5
    rintro m ⟨env, nn, dfs, A⟩ ⟨i, k0, k1, k2, r65, r66⟩
    simp only at k1 k2 r65 r66
    subst k1; subst k2
    by_cases hi : i < 5
    · have hti : ts[i]? = some ts[i] := List.getElem?_eq_getElem (by omega)
      have hsz := hall ts[i] (List.getElem_mem (by omega))
      generalize ts[i] = t at hti hsz
      have hi' : (i : Int) < 5 := by omega
      have ws := wrap_succ i (by omega)
      simp [r65, r66, hi, hi', idxA, hti]
      refine walk_ok t A _ (by omega) fun A3 sv s3 e3 o3 => ?_
      simp
      refine refwalk_ok t A3 _ (by omega) fun A4 sw s4 e4 o4 => ?_
      have wl := walkR_len t.data.toList
      rw [show t.data.toList.length = t.size from rfl] at wl
      simp
      refine same_ok _ _ _ _ A4 _ (s3.ext e4 fun _ _ q => q).read s4.read (by omega) ?_
      simp [r65, r66]
      exact ⟨m - 1, by omega, i + 1, by omega, rfl, rfl, by simp [r65], by simpa using ws⟩
    · have hi' : ¬ (i : Int) < 5 := by omega
      simp [r65, r66, hi, hi']
      refine yes_ok _ _ ?_
      simp
end Go.Proofs.Ytkojapepiojnjaa
