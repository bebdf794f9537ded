/- The sum of a mapping. -/
import Derived.Test.YtidgbapgedegbaaDg
import Derived.Test.YtidgbapgedegbaaIb
import Derived.KernelRfl
namespace Go.Proofs.Ytidgbapgedegbaa
open Go Go.AS
set_option maxRecDepth 100000
set_option linter.unusedSimpArgs false
set_option linter.unusedVariables false
attribute [local irreducible] Trie.set Trie.get Env.rd
attribute [local simp ↓] wV_b2s
attribute [local simp] Nat.add_assoc wD_cons'' wD_nil' wC_seq wC_ops wC_opsD_nil wC_cond wC_skip wC_ret wC_exit wC_block wO_cons' wO_nil wantedA wV_eq lop qop ev wL_some wL_none wPut envOf rd_set rd_leaf eqA thenC blockC wB_true wB_false endF unwindA resultsA resA tupleA rdCell rdCells wrCells cl fillP lay rep binA unA get_set' AHeap.get_alloc oneCell beqd bned idxA

theorem sumOf_ok (A : AHeap) (v : Value) (ss : List (List UInt8)) (Q : Value → AHeap → Prop) (hv : ReadAt A 1 v ss.length (strB ss)) (hvl : ∀ j, Own v j → j < A.size) (hlen : ss.length < 1000000) (htot : ss.flatten.length < 10000000)
    (hq : ∀ A', Ext NoB A A' → Q (.int .u16 ((foldN (wsum ss.flatten) : Nat) : Int)) A') : wF T (.func (.func 92) #[] #[]) [v] A Q := by
  obtain ⟨va, vc, rfl⟩ := hv.val
  refine wF_func (first := []) (captured := []) t92 ⟨rfl, by decide⟩ ?_
  dsimp only [c92]
  simp
  refine wF_func (first := []) (captured := []) t127 ⟨rfl, by decide⟩ ?_
  dsimp only [c127]
  simp
  generalize hA1 : AHeap.alloc (AHeap.set (AHeap.alloc A _) A.size _) _ = A1
  have e1 : Ext NoB A A1 := by rw [← hA1]; exact ⟨by simp, fun b hb _ => by simp [show b ≠ A.size by omega, show b ≠ A.size + 1 by omega]⟩
  have z1 : A1.size = A.size + 2 := by rw [← hA1]; rfl
  have g3 : A1.get A.size = some (.cells [.int .u64 ((0 : Nat) : Int)] false 0) := by rw [← hA1]; simp
  have gp : A1.get (A.size + 1) = some (.cells [.slice va ss.length vc] false 0) := by rw [← hA1]; simp
  clear hA1
  refine wC_range ?_
  dsimp only
  generalize hL : ABlk.loop _ _ _ _ _ _ _ _ _ = L
  generalize hA2 : AHeap.alloc (AHeap.alloc A1 _) L = A2
  have e2 : Ext NoB A1 A2 := ⟨by rw [← hA2]; simp, fun j hj _ => by rw [← hA2]; simp [show j ≠ A1.size by omega, show j ≠ A1.size + 1 by omega]⟩
  have z2 : A2.size = A1.size + 2 := by rw [← hA2]; rfl
  have gl := get_alloc_top (A := AHeap.alloc A1 (.dfr false)) (x := L) (l := A1.size + 1) (by simp)
  rw [hA2, ← hL] at gl
  have gd : A2.get A1.size = some (.dfr false) := by rw [← hA2]; simp
  clear hA2 hL
  simp
  refine words_ok A2 (A1.size + 1) A.size A1.size (A.size + 1) _ ss _ ⟨_, gl, by simp, e2.get g3 id⟩ (by omega) (e2.get gp id) ⟨by omega, by omega⟩ ((hv.ext e1 fun _ _ => id).ext e2 fun _ _ => id) (fun j hj => by have := hvl j hj; omega) (fun j hj => by have := hvl j hj; omega) hlen htot fun w A3 rg e3 => ?_
  obtain ⟨e', l3, h3, q3⟩ := rg
  have b3 := AHeap.get_lt l3
  have gd3 := e3.get gd (by omega)
  have bd3 := AHeap.get_lt gd3
  have bq3 := AHeap.get_lt q3
  simp [endR, l3]
  refine ⟨_, rfl, ?_⟩
  simp [q3, show A.size ≠ A1.size + 1 by omega]
  have hw : wsum ss.flatten < 18446744073709551616 := by have := wsum_le ss.flatten; omega
  refine fold_ok _ (wsum ss.flatten) hw _ ?_
  simp [gd3, show A1.size ≠ A1.size + 1 by omega, bd3]
  refine hq _ ⟨?_, fun j hj hn => ?_⟩
  · have := e3.size; simp; omega
  · have h1 := e1.keep j hj id
    have h2 := e2.keep j (by omega) id
    have h3' := e3.keep j (by omega) (by omega)
    simp [show j ≠ A1.size by omega, show j ≠ A1.size + 1 by omega, h3', h2, h1]
theorem whole_ok (A : AHeap) (v : Value) (ss : List (List UInt8)) (Q : Value → AHeap → Prop) (hv : ReadAt A 1 v ss.length (strB ss)) (hvl : ∀ j, Own v j → j < A.size) (hlen : ss.length < 1000000) (htot : ss.flatten.length < 10000000)
    (hq : ∀ A', Ext NoB A A' → Q (.bool (decide (foldN (wsum ss.flatten) = 65535))) A') : wF T (.func (.func 151) #[] #[]) [v] A Q := by
  refine wF_func (first := []) (captured := []) t151 ⟨rfl, by decide⟩ ?_
  dsimp only [c151]
  simp
  refine sumOf_ok A v ss _ hv hvl hlen htot fun A1 e1 => ?_
  simp
  have := hq A1 e1
  rwa [show (decide (foldN (wsum ss.flatten) = 65535)) = decide (((foldN (wsum ss.flatten) : Nat) : Int) = 65535) by rw [decide_eq_decide]; omega] at this
theorem u16_nat (n : Int) : IntKind.u16.wrap n = (((IntKind.u16.wrap n).toNat : Nat) : Int) ∧ (IntKind.u16.wrap n).toNat < 65536 := by
  have h : 0 ≤ IntKind.u16.wrap n ∧ IntKind.u16.wrap n < 65536 := by
    unfold IntKind.wrap
    simp only [IntKind.signed, IntKind.bits]
    have := Int.emod_nonneg n (show (2 : Int) ^ 16 ≠ 0 by decide)
    have := Int.emod_lt_of_pos n (show (0 : Int) < 2 ^ 16 by decide)
    simp_all
  omega
theorem parts_ok (A : AHeap) (dsn ssn told q : Nat) (n : Int) (t : List UInt8) (hd : dsn < 256 ^ 8) (hs : ssn < 256 ^ 4) (ht : told < 256 ^ 2) (hq0 : A.get q = some (.cells [.string ⟨⟨t⟩⟩] false 0)) (Q : Value → AHeap → Prop)
    (hq : ∀ A' v, Ext NoB A A' → ReadAt A' 1 v 5 (strB [be dsn 8, be ssn 4, be (IntKind.u16.wrap n).toNat 2, be told 2, t]) → (∀ j, Own v j → j < A'.size) → Q v A') :
    wF T (.func (.func 93) #[] #[]) [.int .u64 (dsn : Nat), .int .u32 (ssn : Nat), .int .i64 n, .int .u16 (told : Nat), .slice (some ⟨q, 0, none⟩) 1 1] A Q := by
  obtain ⟨n1, n2⟩ := u16_nat n
  refine wF_func (first := []) (captured := []) t93 ⟨rfl, by decide⟩ ?_
  dsimp only [c93]
  simp
  refine Put64_ok A dsn hd _ fun A1 e1 => ?_
  simp
  refine Put32_ok A1 ssn hs _ fun A2 e2 => ?_
  simp
  rw [n1]
  refine Put16_ok A2 _ n2 _ fun A3 e3 => ?_
  simp
  refine Put16_ok A3 told ht _ fun A4 e4 => ?_
  simp
  generalize hA5 : AHeap.set (AHeap.alloc A4 _) A4.size _ = A5
  have e5 : Ext NoB A4 A5 := by rw [← hA5]; exact ⟨by simp, fun b hb _ => by simp [show b ≠ A4.size by omega]⟩
  have g5 : A5.get A4.size = some (.cells (strB [be dsn 8, be ssn 4, be (IntKind.u16.wrap n).toNat 2, be told 2]) false 0) := by rw [← hA5]; simp [strB]
  clear hA5
  have ex := (((e1.trans e2).trans e3).trans e4).trans e5
  have hsl : sliceAA 4 1 (.pointer (some ⟨A4.size, 0, none⟩)) none none none = some (.slice (some ⟨A4.size, 0, none⟩) 4 4) := by rfl
  have s4 : SliceAt A5 1 (.slice (some ⟨A4.size, 0, none⟩) 4 4) 4 (strB [be dsn 8, be ssn 4, be (IntKind.u16.wrap n).toNat 2, be told 2]) := .inr ⟨A4.size, 0, 4, _, 0, rfl, g5, by simp [strB], rfl, .inr (.inl ⟨rfl, by decide⟩)⟩
  have gq := ex.get hq0 id
  obtain ⟨v', A6, a1, a2, a3, a4⟩ := s4.append (x := .slice (some ⟨q, 0, none⟩) 1 1) (m := 1) (new := [.string ⟨⟨t⟩⟩]) (bytes := 16) (by decide) rfl (by simp [firstA, ENDCAP, gq]) rfl rfl (by decide) (by decide) (fun q => by cases q)
  simp [hsl, a1]
  refine hq A6 v' (ex.trans2 a3 fun b hb ⟨o', n', c', z⟩ => ?_) a2.read fun j hj => a2.own_lt hj
  cases z
  have := e1.size; have := e2.size; have := e3.size; have := e4.size; omega
theorem dof_ok (A : AHeap) (dsn ssn : Nat) (n : Int) (t : List UInt8) (hd : dsn < 256 ^ 8) (hs : ssn < 256 ^ 4) (ht : t.length < 1000000) (Q : Value → AHeap → Prop) (hq : ∀ A', Ext NoB A A' → Q (.int .u16 ((ofN dsn ssn n t : Nat) : Int)) A') :
    wF T (.func (.func 39) #[] #[]) [.int .u64 (dsn : Nat), .int .u32 (ssn : Nat), .int .i64 n, .string ⟨⟨t⟩⟩] A Q := by
  refine wF_func (first := []) (captured := []) t39 ⟨rfl, by decide⟩ ?_
  dsimp only [c39]
  simp
  refine parts_ok _ dsn ssn 0 A.size n t hd hs (by decide) (by simp) _ fun A1 v e1 hv hvl => ?_
  simp
  have hfl : ([be dsn 8, be ssn 4, be (IntKind.u16.wrap n).toNat 2, be 0 2, t] : List (List UInt8)).flatten = ahead dsn ssn n 0 ++ t := by simp [ahead]
  refine sumOf_ok A1 v [be dsn 8, be ssn 4, be (IntKind.u16.wrap n).toNat 2, be 0 2, t] _ hv hvl (by show (5 : Nat) < 1000000; decide) (by rw [hfl, List.length_append, ahead_len]; omega) fun A2 e2 => ?_
  rw [hfl]
  simp
  refine not_ok A2 _ (foldN_le _) _ ?_
  simp
  exact hq A2 ((Ext.alloc.trans e1).trans e2)
theorem dright_ok (A : AHeap) (dsn ssn told : Nat) (n : Int) (t : List UInt8) (hd : dsn < 256 ^ 8) (hs : ssn < 256 ^ 4) (ht2 : told < 256 ^ 2) (ht : t.length < 1000000) (Q : Value → AHeap → Prop) (hq : ∀ A', Ext NoB A A' → Q (.bool (rightN dsn ssn n t told)) A') :
    wF T (.func (.func 121) #[] #[]) [.int .u64 (dsn : Nat), .int .u32 (ssn : Nat), .int .i64 n, .string ⟨⟨t⟩⟩, .int .u16 (told : Nat)] A Q := by
  refine wF_func (first := []) (captured := []) t121 ⟨rfl, by decide⟩ ?_
  dsimp only [c121]
  simp
  refine parts_ok _ dsn ssn told A.size n t hd hs ht2 (by simp) _ fun A1 v e1 hv hvl => ?_
  simp
  have hfl : ([be dsn 8, be ssn 4, be (IntKind.u16.wrap n).toNat 2, be told 2, t] : List (List UInt8)).flatten = ahead dsn ssn n told ++ t := by simp [ahead]
  refine whole_ok A1 v [be dsn 8, be ssn 4, be (IntKind.u16.wrap n).toNat 2, be told 2, t] _ hv hvl (by show (5 : Nat) < 1000000; decide) (by rw [hfl, List.length_append, ahead_len]; omega) fun A2 e2 => ?_
  rw [hfl]
  simp
  exact hq A2 ((Ext.alloc.trans e1).trans e2)
end Go.Proofs.Ytidgbapgedegbaa
