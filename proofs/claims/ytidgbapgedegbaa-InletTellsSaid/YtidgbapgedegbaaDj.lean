/- A path's chunks, all of them. -/
import Derived.Test.YtidgbapgedegbaaDi
import Derived.KernelRfl
namespace Go.Proofs.Ytidgbapgedegbaa
open Go Go.AS
set_option maxRecDepth 100000
set_option linter.unusedSimpArgs false
set_option linter.unusedVariables false
attribute [local irreducible] Trie.set Trie.get Env.rd
attribute [local simp ↓] wV_b2s
attribute [local simp] Nat.add_assoc wD_cons'' wD_nil' wC_seq wC_ops wC_opsD_nil wC_cond wC_skip wC_ret wC_exit wC_block wO_cons' wO_nil wantedA wV_eq lop qop ev wL_some wL_none wPut envOf rd_set rd_leaf eqA thenC blockC wB_true wB_false endF unwindA resultsA resA tupleA rdCell rdCells wrCells cl fillP lay rep binA unA get_set' AHeap.get_alloc oneCell beqd bned idxA

theorem u64_nat (n : Int) : ∃ k : Nat, IntKind.u64.wrap n = k ∧ k < 256 ^ 8 := by
  have h : 0 ≤ IntKind.u64.wrap n ∧ IntKind.u64.wrap n < 18446744073709551616 := by
    unfold IntKind.wrap
    simp only [IntKind.signed, IntKind.bits]
    have := Int.emod_nonneg n (show (2 : Int) ^ 64 ≠ 0 by decide)
    have := Int.emod_lt_of_pos n (show (0 : Int) < 2 ^ 64 by decide)
    simp_all
  exact ⟨(IntKind.u64.wrap n).toNat, by omega, by omega⟩
theorem u32_nat (n : Int) : ∃ k : Nat, IntKind.u32.wrap n = k ∧ k < 256 ^ 4 := by
  have h : 0 ≤ IntKind.u32.wrap n ∧ IntKind.u32.wrap n < 4294967296 := by
    unfold IntKind.wrap
    simp only [IntKind.signed, IntKind.bits]
    have := Int.emod_nonneg n (show (2 : Int) ^ 32 ≠ 0 by decide)
    have := Int.emod_lt_of_pos n (show (0 : Int) < 2 ^ 32 by decide)
    simp_all
  exact ⟨(IntKind.u32.wrap n).toNat, by omega, by omega⟩
theorem sum_lt (idsn : Int) (m : Mp) (l : List UInt8) : sumF idsn m l < 65536 := ofN_lt _ _ _ _

set_option maxHeartbeats 1600000 in
theorem chunk_t (A0 A : AHeap) (q1 at_ k n0 : Nat) (s0 s : List UInt8) (bv : Value) (idsn : Int) (sums : Bool) (vm vt : Value) (cs : List Ck) (env : Env) (Q : AExit → St → Prop) (h : ChF A0 q1 [.string ⟨⟨s0⟩⟩, bv, .int .u64 idsn, .bool sums] vm vt cs A) (hcs : cs.length < 10000) (hk : k < 10000) (hn : 1 ≤ n0 ∧ n0 ≤ 40) (hat : at_ < s.length) (hs : s.length ≤ 600)
    (r1 : env.rd 1 = .pointer (some ⟨q1, 0, none⟩)) (r4 : env.rd 4 = .string ⟨⟨s⟩⟩) (r5 : env.rd 5 = vm) (r6 : env.rd 6 = vt) (r7 : env.rd 7 = .int .i64 at_) (r8 : env.rd 8 = .int .i64 k) (r9 : env.rd 9 = .int .i64 n0)
    (hq : ∀ env' A' vm' vt' c, CkOk sums idsn at_ c → c.t = (s.drop at_).take (min n0 (s.length - at_)) → ChF A0 q1 [.string ⟨⟨s0⟩⟩, bv, .int .u64 idsn, .bool sums] vm' vt' (cs ++ [c]) A' → env'.rd 1 = .pointer (some ⟨q1, 0, none⟩) → env'.rd 4 = .string ⟨⟨s⟩⟩ → env'.rd 5 = vm' → env'.rd 6 = vt' → env'.rd 7 = .int .i64 ((at_ + min n0 (s.length - at_) : Nat) : Int) → env'.rd 8 = .int .i64 k → Q .normal { env := env', n := 94, dfs := [], A := A' }) :
    wC T 36 none d36t { env := env, n := 94, dfs := [], A := A } Q := by
  obtain ⟨o, ho, ho2⟩ : ∃ o : Nat, IntKind.i64.wrap ((IntKind.i64.wrap (IntKind.i64.wrap ((k : Int) * 7) + 3)).tmod 50 * 40) = o ∧ o ≤ 2000 := by
    rw [IntWalk.i64_in ((k : Int) * 7) (by omega), IntWalk.i64_in ((k : Int) * 7 + 3) (by omega)]
    have h1 := Int.tmod_nonneg (b := 50) (show (0 : Int) ≤ (k : Int) * 7 + 3 by omega)
    have h2 := Int.tmod_lt_of_pos ((k : Int) * 7 + 3) (show (0 : Int) < 50 by decide)
    rw [IntWalk.i64_in _ (by omega)]
    exact ⟨(((k : Int) * 7 + 3).tmod 50 * 40).toNat, by omega, by omega⟩
  have w1 : IntKind.i64.wrap ((s.length : Int) - (at_ : Int)) = ((s.length - at_ : Nat) : Int) := by rw [IntWalk.i64_in _ (by omega)]; omega
  have hmin : (if ((s.length - at_ : Nat) : Int) < (n0 : Int) then ((s.length - at_ : Nat) : Int) else (n0 : Int)) = ((min n0 (s.length - at_) : Nat) : Int) := by split <;> omega
  have hnl : (min n0 (s.length - at_) : Nat) ≤ 40 ∧ 1 ≤ (min n0 (s.length - at_) : Nat) ∧ at_ + min n0 (s.length - at_) ≤ s.length := by omega
  have htl : ((s.drop at_).take (min n0 (s.length - at_))).length = min n0 (s.length - at_) := by rw [List.length_take, List.length_drop]; omega
  generalize hL : s.length - at_ = L at w1 hmin hnl htl hq
  generalize hN : min n0 L = n at hmin hnl htl hq
  have hmin' : (if L < n0 then (L : Int) else (n0 : Int)) = (n : Int) := by split <;> omega
  have w2 : IntKind.i64.wrap ((at_ : Int) + (n : Int)) = (at_ : Int) + (n : Int) := IntWalk.i64_in _ (by omega)
  have hsl := sl_mid s .i64 .i64 at_ (at_ + n) (by omega) hnl.2.2
  rw [show at_ + n - at_ = n by omega, show ((at_ + n : Nat) : Int) = (at_ : Int) + (n : Int) by omega] at hsl
  obtain ⟨dn, hd1, hd2⟩ := u64_nat (IntKind.u64.wrap (idsn + 1) + IntKind.u64.wrap (o : Int))
  obtain ⟨sn, hs1, hs2⟩ := u32_nat (IntKind.i64.wrap (1 + (at_ : Int)))
  have gq := h.gq
  have lq := AHeap.get_lt gq
  unfold d36t
  simp [r1, r4, r7, r8, r9, foldV, minV, w1, hmin', ho, gq, show q1 ≠ A.size by omega]
  generalize hA1 : AHeap.set (AHeap.alloc A _) A.size _ = A1
  have e1 : Ext NoB A A1 := by rw [← hA1]; exact ⟨by simp, fun b hb _ => by simp [show b ≠ A.size by omega]⟩
  have g10 : A1.get A.size = some (.cells (mpc ⟨at_, o, n, 0⟩) false 0) := by rw [← hA1]; simp [mpc]
  clear hA1
  have gq1 := e1.get gq id
  have l10 := AHeap.get_lt g10
  cases sums with
  | false =>
    simp
    refine chunk_u A0 A1 q1 A.size at_ k n _ vm vt cs ⟨at_, o, n, 0⟩ s _ _ (h.extN e1) (by omega) hnl.2.2 hs (by simp [r1]) (by simp [r4]) (by simp [r5]) (by simp [r6]) (by simp [r7]) (by simp [r8]) (by simp) (by simp) g10 fun env' A' vm' vt' hF t1 t4 t5 t6 t7 t8 => ?_
    exact hq env' A' vm' vt' ⟨⟨at_, o, n, 0⟩, (s.drop at_).take n⟩ ⟨rfl, by simp [htl], by simp only; omega, by simp only; omega, by simp, by simp only; omega, by simp⟩ rfl hF t1 t4 t5 t6 t7 t8
  | true =>
    simp [mpc] at g10
    simp [r1, r4, r7, gq1, g10, w2, hsl, hd1, hs1]
    have htl2 : ((s.drop at_).take n).length < 1000000 := by omega
    refine dof_ok A1 dn sn n ((s.drop at_).take n) hd2 hs2 htl2 _ fun A2 e2 => ?_
    have g10' := e2.get g10 id
    have l10' := AHeap.get_lt g10'
    simp [g10', l10']
    generalize hA3 : AHeap.set A2 A.size _ = A3
    obtain ⟨k10, e3, z3⟩ := set_facts l10' hA3
    have e13 : Ext NoB A A3 := (e1.trans e2).trans2 e3 fun b hb q => by omega
    have hof : ofN dn sn n ((s.drop at_).take n) = sumF idsn ⟨at_, o, n, ((ofN dn sn n ((s.drop at_).take n) : Nat) : Int)⟩ ((s.drop at_).take n) := by
      unfold sumF dsnF ssnF
      simp only
      rw [hd1, hs1]
    refine chunk_u A0 A3 q1 A.size at_ k n _ vm vt cs ⟨at_, o, n, ((ofN dn sn n ((s.drop at_).take n) : Nat) : Int)⟩ s _ _ (h.extN e13) (by omega) hnl.2.2 hs (by simp [r1]) (by simp [r4]) (by simp [r5]) (by simp [r6]) (by simp [r7]) (by simp [r8]) (by simp) (by simp) (by simpa [mpc] using k10) fun env' A' vm' vt' hF t1 t4 t5 t6 t7 t8 => ?_
    exact hq env' A' vm' vt' ⟨⟨at_, o, n, ((ofN dn sn n ((s.drop at_).take n) : Nat) : Int)⟩, (s.drop at_).take n⟩ ⟨rfl, by simp [htl], by simp only; omega, by simp only; omega, by simp, by simp only; omega, by simp only [if_true]; rw [← hof]⟩ rfl hF t1 t4 t5 t6 t7 t8
end Go.Proofs.Ytidgbapgedegbaa
