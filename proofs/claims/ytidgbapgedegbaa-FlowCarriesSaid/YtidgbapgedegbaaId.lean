/- InletFirst: the law. -/
import Derived.Test.YtidgbapgedegbaaIc
import Derived.Test.YtidgbapgedegbaaKg
import Derived.KernelRfl
namespace Go.Proofs.Ytidgbapgedegbaa
open Go Go.AS
set_option maxRecDepth 100000
set_option linter.unusedSimpArgs false
set_option linter.unusedVariables false
attribute [local irreducible] Trie.set Trie.get Env.rd
attribute [local simp] Nat.add_assoc wD_cons'' wD_nil' wC_seq wC_ops wC_opsD_nil wC_cond wC_skip wC_ret wC_exit wC_block wO_cons' wO_nil wantedA wV_eq lop qop ev wL_some wL_none wPut envOf rd_set rd_leaf eqA thenC blockC wB_true wB_false endF unwindA resultsA resA tupleA rdCell rdCells wrCells cl fillP lay rep binA unA get_set' AHeap.get_alloc oneCell beqd bned idxA

/-- The bytes of a text, from 0 on. -/
def strB (l : List UInt8) : Bytes := fun j => if 0 ≤ j then l[j.toNat]? else none
theorem strB_nat (l : List UInt8) (k : Nat) : strB l (k : Int) = l[k]? := by simp [strB]
theorem strB_put (room : Nat) (a b : List UInt8) (k : Nat) (hk : k ≤ a.length) (hr : k + b.length ≤ room) (f : Bytes) (hf : f = strB a) (ha : a.length ≤ room) : putB room 0 (k : Int) b f = strB (a ++ b.drop (a.length - k)) := funext fun j => by
  subst hf
  unfold putB strB
  by_cases hj : 0 ≤ j
  · obtain ⟨n, rfl⟩ : ∃ n : Nat, j = (n : Int) := ⟨j.toNat, by omega⟩
    simp only [if_pos hj, Int.toNat_natCast]
    by_cases c : n < a.length
    · rw [List.getElem?_eq_getElem c, List.getElem?_append_left c, List.getElem?_eq_getElem c]
    · rw [List.getElem?_eq_none (by omega), List.getElem?_append_right (by omega), List.getElem?_drop]
      simp only
      have e : ((n : Int) - (k : Int)).toNat = n - k := by omega
      rw [e, show a.length - k + (n - a.length) = n - k by omega]
      by_cases c2 : n < room
      · rw [if_pos (by omega)]
      · rw [if_neg (by omega), List.getElem?_eq_none (by omega)]
  · rw [if_neg hj]
    simp only
    rw [if_neg (by omega), if_neg hj]
theorem strB_cnt (room : Nat) (a : List UInt8) : ∀ (b : List UInt8) (k : Nat), k ≤ a.length ∨ True → k + b.length ≤ room → cntB room 0 (strB a) (k : Int) b = b.length - (a.length - k)
  | [], k, _, _ => by simp [cntB]
  | c :: b, k, _, h => by
    simp only [List.length_cons] at h
    have ih := strB_cnt room a b (k + 1) (.inr trivial) (by omega)
    rw [cntB, show (k : Int) + 1 = ((k + 1 : Nat) : Int) by omega, ih, strB_nat]
    by_cases q : k < a.length
    · rw [if_neg (by rw [List.getElem?_eq_getElem q]; simp)]
      simp only [List.length_cons]; omega
    · rw [if_pos ⟨by omega, by omega, List.getElem?_eq_none (by omega)⟩]
      simp only [List.length_cons]; omega
theorem strB_next (l : List UInt8) : NextIs 0 (strB l) l.length := ⟨Nat.zero_le _, by rw [strB_nat]; exact List.getElem?_eq_none (Nat.le_refl _), fun k _ hk => by rw [strB_nat, List.getElem?_eq_getElem hk]; rfl⟩
theorem strB_pre {l t : List UInt8} {n : Nat} (hn : t.length = n) (h : Pre (strB l) ((0 : Nat) : Int) t) : t = l.take n := by
  apply List.ext_getElem?
  intro i
  by_cases hi : i < t.length
  · have := h i hi
    rw [show ((0 : Nat) : Int) + (i : Int) = (i : Int) by omega, strB_nat] at this
    rw [List.getElem?_eq_getElem hi, List.getElem?_take, if_pos (by omega), this]
  · rw [List.getElem?_eq_none (by omega), List.getElem?_take, if_neg (by omega)]
theorem strB_gather (l : List UInt8) (n : Nat) (h : n ≤ l.length) : gatherB (strB l) ((0 : Nat) : Int) n = some (l.take n) := by
  have := gatherB_pre (strB l) (l.take n) ((0 : Nat) : Int) fun i hi => by
    rw [List.length_take] at hi
    rw [show ((0 : Nat) : Int) + (i : Int) = (i : Int) by omega, strB_nat, List.getElem_take, List.getElem?_eq_getElem (by omega)]
  rwa [List.length_take, Nat.min_eq_left h] at this
theorem strB_nil : strB [] = fun _ => none := funext fun j => by unfold strB; split <;> simp
def noRt : Mp → List UInt8 → Bool := fun _ _ => true
theorem noR {s : IS} (h : s.sums = false) : RightOk s noRt := fun q => by rw [h] at q; cases q

set_option maxHeartbeats 2000000 in
theorem first_ok (la lb : List UInt8) (at_ : Nat) (hat : at_ < 256) (hla : la.length ≤ 140737488351232) (hlb : lb.length ≤ 140737488351232) (A : AHeap) : wF T (.func (.func 8) #[] #[]) [.string ⟨⟨la⟩⟩, .string ⟨⟨lb⟩⟩, .int .u8 (at_ : Nat)] A (fun v _ => v = .bool true) := by
  refine wF_func (first := []) (captured := []) t8 ⟨rfl, by decide⟩ ?_
  dsimp only [c8]
  simp
  refine yes20 _ _ ?_
  have f1 : ¬ ((9223372036854775807 : Int) < (la.length : Int) + 1) := by omega
  have w1 : IntKind.i64.wrap ((la.length : Int) + 1) = ((la.length + 1 : Nat) : Int) := by rw [IntWalk.i64_in _ (by omega)]; omega
  have m1 : foldV minV (.int .i64 ((la.length + 1 : Nat) : Int)) [.int .i64 40] = some (.int .i64 ((min (la.length + 1) 40 : Nat) : Int)) := by
    simp only [foldV, minV]; congr 2; omega
  have m2 : foldV minV (.int .i64 (lb.length : Int)) [.int .i64 40] = some (.int .i64 ((min lb.length 40 : Nat) : Int)) := by
    simp only [foldV, minV]; congr 2; omega
  obtain ⟨z, hz⟩ : ∃ z, z = min (la.length + 1) 40 := ⟨_, rfl⟩
  obtain ⟨y, hy⟩ : ∃ y, y = min lb.length 40 := ⟨_, rfl⟩
  rw [← hz] at m1
  rw [← hy] at m2
  have s1 := sl_to (la ++ [97]) .i64 z (by simp; omega)
  have s2 := sl_to lb .i64 y (by omega)
  have tl : ((la ++ [97]).take z).length = z := by rw [List.length_take, List.length_append, List.length_singleton]; omega
  have tl2 : (lb.take y).length = y := by rw [List.length_take]; omega
  simp [f1, w1] at m1 ⊢
  simp [m1, m2, s1, s2]
  generalize (la ++ [97]).take z = a at *
  generalize lb.take y = b at *
  refine inew_ok 100 false 0 (by decide) (by decide) A _ fun A1 i e1 b1 h1 => ?_
  simp
  have rt : ∀ s : IS, s.sums = false → RightOk s noRt := fun s => noR
  refine iput_ok A1 i _ _ _ 0 a (by omega) (by omega) h1 fun A2 h2 e2 => ?_
  have p2 := strB_put 100 [] a 0 (by simp) (by omega) _ strB_nil.symm (by simp)
  have c2 := strB_cnt 100 [] a 0 (.inr trivial) (by omega)
  simp only [List.nil_append, List.length_nil, Nat.zero_sub, List.drop_zero, Nat.sub_zero, strB_nil] at p2 c2
  rw [show ((0 : Nat) : Int) = 0 from rfl] at p2 c2
  simp only [c2]
  simp only [p2] at h2
  have w2 : IntKind.i64.wrap ((a.length : Int) + 1) = ((a.length + 1 : Nat) : Int) := by rw [IntWalk.i64_in _ (by omega)]; omega
  have w3 : IntKind.i64.wrap (at_ : Int) = at_ := wn at_ (by omega)
  obtain ⟨k, hk⟩ : ∃ k : Nat, ((at_ : Int).tmod ((a.length : Int) + 1)) = (k : Int) ∧ k < a.length + 1 := by
    refine ⟨at_ % (a.length + 1), ?_, Nat.mod_lt _ (by omega)⟩
    rw [Int.tmod_eq_emod_of_nonneg (by omega)]; simp
  have ne0 : ¬ ((a.length : Int) + 1 = 0) := by omega
  obtain ⟨d, hd⟩ : ∃ d, d = b.length - (a.length - k) := ⟨_, rfl⟩
  have w4 : IntKind.i64.wrap ((k : Int) + (b.length : Int)) = (k : Int) + (b.length : Int) := IntWalk.i64_in _ (by omega)
  have w5 : IntKind.i64.wrap ((k : Int) + (b.length : Int) - (a.length : Int)) = (k : Int) + (b.length : Int) - (a.length : Int) := IntWalk.i64_in _ (by omega)
  have m3 : foldV maxV (.int .i64 0) [.int .i64 ((k : Int) + (b.length : Int) - (a.length : Int))] = some (.int .i64 (d : Int)) := by
    simp only [foldV, maxV]; congr 2; omega
  simp [w2, w3, hk.1, ne0, w4, w5, m3]
  refine iput_ok A2 i _ _ _ k b (by omega) (by omega) h2 fun A3 h3 e3 => ?_
  have p3 := strB_put 100 a b k (by omega) (by omega) _ rfl (by omega)
  have c3 := strB_cnt 100 a b k (.inr trivial) (by omega)
  simp only [p3] at h3
  simp only [c3, ← hd]
  simp
  refine iput_ok A3 i _ _ _ 0 a (by omega) (by omega) h3 fun A4 h4 e4 => ?_
  generalize hall : a ++ b.drop (a.length - k) = all at *
  have la_ : all.length = a.length + d := by rw [← hall, List.length_append, List.length_drop]; omega
  have ta : all.take a.length = a := by rw [← hall, List.take_left]
  have p4 := strB_put 100 all a 0 (by omega) (by omega) _ rfl (by omega)
  have c4 := strB_cnt 100 all a 0 (.inr trivial) (by omega)
  have q4 : all ++ a.drop (all.length - 0) = all := by rw [List.drop_eq_nil_of_le (by omega), List.append_nil]
  rw [q4] at p4
  rw [show a.length - (all.length - 0) = 0 by omega] at c4
  rw [show ((0 : Nat) : Int) = 0 from rfl] at p4 c4
  simp only [p4] at h4
  simp only [c4]
  have w6 : IntKind.i64.wrap ((b.length : Int) - (d : Int)) = ((b.length - d : Nat) : Int) := by rw [IntWalk.i64_in _ (by omega)]; omega
  have s3 := sl_from b .i64 (b.length - d) (by omega)
  have e5 : b.drop (b.length - d) = b.drop (a.length - k) := by
    by_cases c : d = 0
    · rw [c, Nat.sub_zero, List.drop_length, List.drop_eq_nil_of_le (by omega)]
    · congr 1; omega
  have f2 : ¬ ((9223372036854775807 : Int) < (a.length : Int) + ((b.length - (a.length - k) : Nat) : Int)) := by omega
  rw [e5] at s3
  simp [w6, s3, f2, hall]
  generalize hAm : AHeap.set (AHeap.alloc A4 _) _ _ = Am
  have em : Ext NoB A4 Am := ⟨by rw [← hAm]; simp, fun j hj _ => by rw [← hAm]; simp [show j ≠ A4.size by omega]⟩
  have gm : Am.get A4.size = some (.cells (mpc ⟨0, 5, a.length, 0⟩) false 0) := by rw [← hAm]; simp [mpc]
  have nm : ¬ (A.size ≤ A4.size ∧ A4.size < A1.size) := fun q => by
    have := e2.size; have := e3.size; have := e4.size; omega
  have h4 := h4.extN em
  clear hAm
  refine imap_ok Am i _ _ _ ⟨0, 5, a.length, 0⟩ (by show (0 : Int) < _; decide) h4 (fun A5 hn e5 => ?_) fun A5 j S' may fn pl h5 e5 hs' => ?_
  · exfalso
    exact hn ⟨⟨by simp only; omega, by simp only; omega, by simp only; omega, by simp, by simp⟩, rfl⟩
  · have hj : j = 0 := by have := pl.1; simpa using this
    subst hj
    simp only [List.take_nil, List.drop_nil, List.nil_append] at h5
    have gm5 := e5.get gm nm
    simp
    refine imap_ok A5 i _ _ _ ⟨0, 9, 1, 0⟩ (by show (0 : Int) < _; decide) h5 (fun A6 hn e6 => ?_) fun A6 j S'' may fn2 pl h6 e6 hs'' => ?_
    · have nv : nextV ⟨100, 0, strB all, [⟨0, 5, a.length, 0⟩], false, 0⟩ noRt = (1, ⟨0, 5, a.length, 0⟩, a) := by
        have := strB_gather all a.length (by omega)
        rw [ta] at this
        rw [show ((0 : Nat) : Int) = 0 from rfl] at this
        simp [nextV, findM, this]
      have bq : (⟨0, 5, a.length, 0⟩ : Mp).beq ⟨0, 5, a.length, 0⟩ = true := (Mp.beq_iff _ _).2 rfl
      have h6 := h5.extN e6
      have gm6 := e6.get gm5 id
      simp [gm6, mpc]
      refine lnext_ok A6 i _ _ noRt 1 ⟨0, 5, a.length, 0⟩ a _ h6 (rt _ rfl) fun A7 e7 => ?_
      rw [nv]
      have gm7 := e7.get gm6 id
      simp [bq, gm7, mpc]
      refine lnext_ok A7 i _ _ noRt 1 ⟨0, 5, a.length, 0⟩ a _ (h6.extN e7) (rt _ rfl) fun A8 e8 => ?_
      rw [nv]
      simp [bq]
      have h8 := (h6.extN e7).extN e8
      have rw_ : ∀ (n : Int) (l : List UInt8), (∀ nx : Nat, NextIs 0 (strB all) nx → (l.length : Int) = max 0 (min n (nx - ((0 : Nat) : Int)))) → Pre (strB all) ((0 : Nat) : Int) l → l = all.take n.toNat := fun n l hl hp => by
        have := hl all.length (strB_next all)
        rw [strB_pre rfl hp]
        by_cases c : n.toNat ≤ all.length
        · rw [show l.length = n.toNat by omega]
        · rw [List.take_of_length_le (by omega), List.take_of_length_le (by omega)]
      refine iraw_ok A8 i _ _ _ 100 h8 fun A9 l9 e9 k9 pr9 => ?_
      have r9 := rw_ 100 l9 k9 pr9
      rw [List.take_of_length_le (by simp; omega)] at r9
      subst r9
      simp
      refine iN_ok A9 i _ _ _ (h8.extN e9) ?_
      simp
      refine iraw_ok A9 i _ _ _ 1 (h8.extN e9) fun A10 l10 e10 k10 pr10 => ?_
      have r10 := rw_ 1 l10 k10 pr10
      have s4 := sl_to l9 .i64 1 (by omega)
      rw [show ((1 : Nat) : Int) = 1 from rfl] at s4
      simp [s4, r10]
      refine iraw_ok A10 i _ _ _ 0 ((h8.extN e9).extN e10) fun A11 l11 e11 k11 pr11 => ?_
      have r11 := rw_ 0 l11 k11 pr11
      simp at r11
      subst r11
      simp
      refine iraw_ok A11 i _ _ _ (-4) (((h8.extN e9).extN e10).extN e11) fun A12 l12 e12 k12 pr12 => ?_
      have r12 := rw_ (-4) l12 k12 pr12
      simp at r12
      subst r12
      simp
    · simp [findM] at fn2
end Go.Proofs.Ytidgbapgedegbaa
