/- The option by which a path joins, read. -/
import Derived.Test.YtigknpfjhegkgaaGreatDoorVc
import Derived.KernelRfl
namespace Go.Proofs.YtigknpfjhegkgaaGreatDoor
open Go Go.AS
set_option maxRecDepth 100000
set_option linter.unusedSimpArgs false
set_option linter.unusedVariables false
attribute [local irreducible] Trie.set Trie.get Env.rd
attribute [local simp ↓] wV_b2s
attribute [local simp] Nat.add_assoc wD_cons'' wD_nil' wC_seq wC_ops wC_opsD_nil wC_cond wC_skip wC_ret wC_exit wC_block wO_cons' wO_nil wantedA wV_eq lop qop ev wL_some wL_none wPut envOf rd_set rd_leaf eqA thenC blockC wB_true wB_false endF unwindA resultsA resA tupleA rdCell rdCells wrCells cl fillP lay rep bi_eql bi_neq bi_lss bi_leq bi_gtr bi_geq bi_add bi_sub bs_eql bs_neq bi_shr4 unA get_set' AHeap.get_alloc oneCell beqd bned idxA

def jz : List Value := [.int .i64 0, .bool false, .int .i64 0, .int .u32 0, .int .u32 0, .string ⟨⟨[]⟩⟩]
theorem seg2 (a b : UInt8) (r : List UInt8) (i n : Nat) : seg (a :: b :: r) (2 + i) n = seg r i n := by simp only [seg]; rw [Nat.add_comm]; rfl
theorem go2 (a b : UInt8) (r : List UInt8) (i n : Nat) (h : i + n ≤ r.length) : (⟨a :: b :: r, 2 + i, false⟩ : Cur).go n = ⟨a :: b :: r, 2 + (i + n), false⟩ ∧ (⟨a :: b :: r, 2 + i, false⟩ : Cur).got n = seg r i n := by
  have := Cur.go_ok (c := ⟨a :: b :: r, 2 + i, false⟩) (n := n) rfl (by simp; omega)
  rw [seg2, Nat.add_assoc] at this
  exact this
theorem jdec_ok (A : AHeap) (s : List UInt8) (hs : s.length < 1000000) (Q : Value → AHeap → Prop) (hq : ∀ A', Ext NoB A A' → Q (resD Jn.cells jz (Jn.dec s)) A') : wF T (.func (.func 79) #[] #[]) [.string ⟨⟨s⟩⟩] A Q := by
  refine wF_func (first := []) (captured := []) t79 ⟨rfl, by decide⟩ ?_
  dsimp only [c79]
  match s, hs, hq with
  | [], hs, hq =>
    simp
    exact hq _ (by (repeat first | exact Ext.refl | assumption | refine Ext.allocN ?_ | refine Ext.setN ?_ (by first | omega | (simp; done) | (simp; omega))))
  | a :: t, hs, hq =>
    have ht : t.length < 999999 := by simp at hs; omega
    by_cases h0 : a.toNat / 16 ≠ 1
    · have hd : Jn.dec (a :: t) = .error 7 := by simp only [Jn.dec, if_pos h0]
      rw [hd] at hq
      have y0 : ¬ (a.toNat : Int) / 16 = 1 := by omega
      simp [y0]
      exact hq _ (by (repeat first | exact Ext.refl | assumption | refine Ext.allocN ?_ | refine Ext.setN ?_ (by first | omega | (simp; done) | (simp; omega))))
    have y0 : (a.toNat : Int) / 16 = 1 := by omega
    simp [y0]
    generalize hB : AHeap.alloc _ _ = B
    have b0 : B.get A.size = some (.cells jz false 0) := by subst hB; simp [jz]
    have zB : B.size = A.size + 1 := by subst hB; simp
    have eB : Ext NoB A B := by subst hB; (repeat first | exact Ext.refl | assumption | refine Ext.allocN ?_ | refine Ext.setN ?_ (by first | omega | (simp; done) | (simp; omega)))
    refine Read_ok B (a :: t) hs _ fun D p hp eD lp => ?_
    have d0 := eD.get b0 id
    have zD := eD.size
    simp
    refine U8_ok D p _ hp _ fun F fc eF => ?_
    have f0 := eF.get d0 (by omega)
    have eeF := (eB.trans eD).past eF (by omega)
    simp
    refine U8_ok F p _ fc _ fun G gc eG => ?_
    have g0 := eG.get f0 (by omega)
    have eeG := eeF.past eG (by omega)
    have l0 := AHeap.get_lt g0
    have m1 := bm1 a
    have k1 : (⟨a :: t, 0, false⟩ : Cur).go 1 = ⟨a :: t, 1, false⟩ := (Cur.go_ok (c := ⟨a :: t, 0, false⟩) (n := 1) rfl (by simp)).1
    have k2 : (⟨a :: t, 0, false⟩ : Cur).got 1 = [a] := (Cur.go_ok (c := ⟨a :: t, 0, false⟩) (n := 1) rfl (by simp)).2
    rw [k1] at gc
    rw [k1, k2]
    simp only [val_one]
    simp only [Nat.div_one] at m1
    obtain ⟨bk, hbk⟩ : ∃ x, x = decide (a.toNat % 2 = 1) := ⟨_, rfl⟩
    rw [← hbk] at m1
    have w1 : IntKind.i64.wrap ((val ((⟨a :: t, 1, false⟩ : Cur).got 1) : Nat) : Int) = (val ((⟨a :: t, 1, false⟩ : Cur).got 1) : Nat) := by
      refine IntWalk.i64_in _ ?_
      have : val ((⟨a :: t, 1, false⟩ : Cur).got 1) < 256 := by
        have := val_p ((⟨a :: t, 1, false⟩ : Cur).got 1) 0 1
        have h2 : seg ((⟨a :: t, 1, false⟩ : Cur).got 1) 0 1 = (⟨a :: t, 1, false⟩ : Cur).got 1 := List.take_of_length_le (by unfold Cur.got; split <;> simp; omega)
        rw [h2] at this; exact this
      omega
    simp [m1, bitI_z, w1, g0, l0, jz]
    generalize hH : AHeap.set _ _ _ = H
    have hE : Ext NoB A H := by subst hH; have := eeG.size; (repeat first | exact Ext.refl | assumption | refine Ext.allocN ?_ | refine Ext.setN ?_ (by first | omega | (simp; done) | (simp; omega)))
    have h0' : H.get A.size = some (.cells [.int .i64 0, .bool bk, .int .i64 (val ((⟨a :: t, 1, false⟩ : Cur).got 1) : Nat), .int .u32 0, .int .u32 0, .string ⟨⟨[]⟩⟩] false 0) := by subst hH; simp [l0]
    have hc := gc.ext (A' := H) (S := fun j => j = A.size) (by subst hH; exact (Ext.set (S := fun j => j = A.size) rfl).trans (Ext.set rfl)) (by omega)
    have lH := AHeap.get_lt h0'
    refine bytes_ok H 0 _ ?_
    match t, ht, hs, hq, hH, h0', hc with
    | [], ht, hs, hq, hH, h0', hc =>
      have hd : Jn.dec [a] = .error 5 := by simp only [Jn.dec, if_neg h0]
      rw [hd] at hq
      simp [Jn.bytes]
      refine bytes_ok H 1 _ ?_
      simp [Jn.bytes]
      refine bytes_ok H 2 _ ?_
      simp [Jn.bytes, h0', lH]
      exact hq _ (by (repeat first | exact Ext.refl | assumption | refine Ext.allocN ?_ | refine Ext.setN ?_ (by first | omega | (simp; done) | (simp; omega))))
    | b :: r, ht, hs, hq, hH, h0', hc =>
      obtain ⟨_, _, k3, k4⟩ := first2 _ a b r rfl
      rw [k3] at hc
      rw [k4] at h0'
      simp only [val_one] at h0'
      by_cases hl1 : r.length = 8
      · have hd : Jn.dec (a :: b :: r) = .ok ⟨0, bk, (b.toNat : Nat), val (seg r 0 4), val (seg r 4 4), []⟩ := by simp only [Jn.dec, if_neg h0]; rw [if_pos hl1, ← hbk]
        rw [hd] at hq
        have z1 : ((r.length : Int) + 1 + 1) = 10 := by omega
        simp [Jn.bytes, z1, h0', lH]
        generalize hI : AHeap.set _ _ _ = I
        have i0 : I.get A.size = some (.cells [.int .i64 0, .bool bk, .int .i64 (b.toNat : Nat), .int .u32 0, .int .u32 0, .string ⟨⟨[]⟩⟩] false 0) := by subst hI; simp [lH]
        have ei : Ext (fun j => j = A.size) H I := by subst hI; exact Ext.set rfl
        have ic := hc.ext ei (by omega)
        refine U32_ok I p _ ic _ fun J jc eJ => ?_
        have j0 := eJ.get i0 (by omega)
        have lJ := AHeap.get_lt j0
        have eeJ := (hE.past ei (Nat.le_refl _)).past eJ (by omega)
        obtain ⟨q1, q2⟩ := go2 a b r 0 4 (by omega)
        simp only [Nat.add_zero, Nat.zero_add] at q1 q2
        rw [q1] at jc
        rw [q2]
        simp [j0, lJ]
        generalize hK : AHeap.set _ _ _ = K
        have n0 : K.get A.size = some (.cells [.int .i64 0, .bool bk, .int .i64 (b.toNat : Nat), .int .u32 (val (seg r 0 4) : Nat), .int .u32 0, .string ⟨⟨[]⟩⟩] false 0) := by subst hK; simp [lJ]
        have ek : Ext (fun j => j = A.size) J K := by subst hK; exact Ext.set rfl
        have kc := jc.ext ek (by omega)
        refine U32_ok K p _ kc _ fun L lc eL => ?_
        have o0 := eL.get n0 (by omega)
        have lL := AHeap.get_lt o0
        have eeL := (eeJ.past ek (Nat.le_refl _)).past eL (by omega)
        obtain ⟨q3, q4⟩ := go2 a b r 4 4 (by omega)
        rw [show 2 + 4 = 6 from rfl] at q4
        rw [q4]
        simp [o0, lL]
        exact hq _ (by have := eeL.size; (repeat first | exact Ext.refl | assumption | refine Ext.allocN ?_ | refine Ext.setN ?_ (by first | omega | (simp; done) | (simp; omega))))
      by_cases hl2 : r.length = 12
      · have hd : Jn.dec (a :: b :: r) = .ok ⟨1, bk, (b.toNat : Nat), 0, val (seg r 8 4), seg r 0 8⟩ := by simp only [Jn.dec, if_neg h0]; rw [if_neg hl1, if_pos hl2, ← hbk]
        rw [hd] at hq
        have z1 : ((r.length : Int) + 1 + 1) = 14 := by omega
        simp [Jn.bytes, z1]
        refine bytes_ok H 1 _ ?_
        simp [Jn.bytes, z1, h0', lH]
        generalize hI : AHeap.set _ _ _ = I
        have i0 : I.get A.size = some (.cells [.int .i64 1, .bool bk, .int .i64 (b.toNat : Nat), .int .u32 0, .int .u32 0, .string ⟨⟨[]⟩⟩] false 0) := by subst hI; simp [lH]
        have ei : Ext (fun j => j = A.size) H I := by subst hI; exact Ext.set rfl
        have ic := hc.ext ei (by omega)
        refine Take_ok I p _ 8 ic (by omega) _ fun J jc eJ => ?_
        have j0 := eJ.get i0 (by omega)
        have lJ := AHeap.get_lt j0
        have eeJ := (hE.past ei (Nat.le_refl _)).past eJ (by omega)
        obtain ⟨q1, q2⟩ := go2 a b r 0 8 (by omega)
        simp only [Nat.add_zero, Nat.zero_add] at q1 q2
        rw [q1] at jc
        rw [q2]
        simp [j0, lJ]
        generalize hK : AHeap.set _ _ _ = K
        have n0 : K.get A.size = some (.cells [.int .i64 1, .bool bk, .int .i64 (b.toNat : Nat), .int .u32 0, .int .u32 0, .string ⟨⟨seg r 0 8⟩⟩] false 0) := by subst hK; simp [lJ]
        have ek : Ext (fun j => j = A.size) J K := by subst hK; exact Ext.set rfl
        have kc := jc.ext ek (by omega)
        refine U32_ok K p _ kc _ fun L lc eL => ?_
        have o0 := eL.get n0 (by omega)
        have lL := AHeap.get_lt o0
        have eeL := (eeJ.past ek (Nat.le_refl _)).past eL (by omega)
        obtain ⟨q3, q4⟩ := go2 a b r 8 4 (by omega)
        rw [show 2 + 8 = 10 from rfl] at q4
        rw [q4]
        simp [o0, lL]
        exact hq _ (by have := eeL.size; (repeat first | exact Ext.refl | assumption | refine Ext.allocN ?_ | refine Ext.setN ?_ (by first | omega | (simp; done) | (simp; omega))))
      by_cases hl3 : r.length = 20
      · have hd : Jn.dec (a :: b :: r) = .ok ⟨2, false, 0, 0, 0, r⟩ := by simp only [Jn.dec, if_neg h0]; rw [if_neg hl1, if_neg hl2, if_pos hl3]
        rw [hd] at hq
        have z1 : ((r.length : Int) + 1 + 1) = 22 := by omega
        simp [Jn.bytes, z1]
        refine bytes_ok H 1 _ ?_
        simp [Jn.bytes, z1]
        refine bytes_ok H 2 _ ?_
        simp [Jn.bytes, z1]
        refine Take_ok H p _ 20 hc (by omega) _ fun J jc eJ => ?_
        have j0 := eJ.get h0' (by omega)
        have lJ := AHeap.get_lt j0
        have eeJ := hE.past eJ (by omega)
        obtain ⟨q1, q2⟩ := go2 a b r 0 20 (by omega)
        simp only [Nat.add_zero, Nat.zero_add] at q1 q2
        rw [q2, seg_all r 20 hl3]
        simp [j0, lJ]
        exact hq _ (by have := eeJ.size; (repeat first | exact Ext.refl | assumption | refine Ext.allocN ?_ | refine Ext.setN ?_ (by first | omega | (simp; done) | (simp; omega))))
      · have hd : Jn.dec (a :: b :: r) = .error 5 := by simp only [Jn.dec, if_neg h0]; rw [if_neg hl1, if_neg hl2, if_neg hl3]
        rw [hd] at hq
        have z1 : ¬ ((r.length : Int) + 1 + 1) = 10 := by omega
        have z2 : ¬ ((r.length : Int) + 1 + 1) = 14 := by omega
        have z3 : ¬ ((r.length : Int) + 1 + 1) = 22 := by omega
        simp [Jn.bytes, z1]
        refine bytes_ok H 1 _ ?_
        simp [Jn.bytes, z2]
        refine bytes_ok H 2 _ ?_
        simp [Jn.bytes, z3, h0', lH]
        exact hq _ (by (repeat first | exact Ext.refl | assumption | refine Ext.allocN ?_ | refine Ext.setN ?_ (by first | omega | (simp; done) | (simp; omega))))
end Go.Proofs.YtigknpfjhegkgaaGreatDoor
