/- Signals, read: the walk. -/
import Derived.Test.YtigknpfjhegkgaaGreatDoorVe
import Derived.Test.YtigknpfjhegkgaaGreatDoorKe
import Derived.KernelRfl
namespace Go.Proofs.YtigknpfjhegkgaaGreatDoor
open Go Go.AS
set_option maxRecDepth 100000
set_option linter.unusedSimpArgs false
set_option linter.unusedVariables false
attribute [local irreducible] Trie.set Trie.get Env.rd
attribute [local simp ↓] wV_b2s
attribute [local simp] Nat.add_assoc wD_cons'' wD_nil' wC_seq wC_ops wC_opsD_nil wC_cond wC_skip wC_ret wC_exit wC_block wO_cons' wO_nil wantedA wV_eq lop qop ev wL_some wL_none wPut envOf rd_set rd_leaf eqA thenC blockC wB_true wB_false endF unwindA resultsA resA tupleA rdCell rdCells wrCells cl fillP lay rep bi_eql bi_neq bi_lss bi_leq bi_gtr bi_geq bi_add bi_sub bs_eql bs_neq bi_shr4 unA get_set' AHeap.get_alloc oneCell beqd bned idxA

structure DS (A0 A : AHeap) (q2 q4 q6 p : Nat) (l : Bool) (x : List Value) (c : Cur) : Prop where
  g2 : A.get q2 = some (.cells dz false 0)
  g4 : A.get q4 = some (.cells [.pointer (some ⟨p, 0, none⟩), .bool l] false 0)
  g6 : A.get q6 = some (.cells x false 0)
  hc : CurAt A p c
  n24 : q2 ≠ q4
  n26 : q2 ≠ q6
  n46 : q4 ≠ q6
  n2p : q2 ≠ p
  n4p : q4 ≠ p
  n6p : q6 ≠ p
  ex : Ext NoB A0 A
  l2 : A0.size ≤ q2
  l4 : A0.size ≤ q4
  l6 : A0.size ≤ q6
  lp : A0.size ≤ p
theorem DS.cur {A0 A A' : AHeap} {q2 q4 q6 p : Nat} {l : Bool} {x : List Value} {c c' : Cur} (h : DS A0 A q2 q4 q6 p l x c) (hc : CurAt A' p c') (e : Ext (fun j => j = p) A A') : DS A0 A' q2 q4 q6 p l x c' :=
  ⟨e.get h.g2 h.n2p, e.get h.g4 h.n4p, e.get h.g6 h.n6p, hc, h.n24, h.n26, h.n46, h.n2p, h.n4p, h.n6p, h.ex.past e h.lp, h.l2, h.l4, h.l6, h.lp⟩
theorem DS.put6 {A0 A : AHeap} {q2 q4 q6 p : Nat} {l : Bool} {x : List Value} {c : Cur} (h : DS A0 A q2 q4 q6 p l x c) (y : List Value) : DS A0 (A.set q6 (.cells y false 0)) q2 q4 q6 p l y c :=
  have e : Ext (fun j => j = q6) A (A.set q6 (.cells y false 0)) := Ext.set rfl
  ⟨e.get h.g2 h.n26, e.get h.g4 h.n46, by simp [AHeap.get_lt h.g6], h.hc.ext e (Ne.symm h.n6p), h.n24, h.n26, h.n46, h.n2p, h.n4p, h.n6p, h.ex.past e h.l6, h.l2, h.l4, h.l6, h.lp⟩
theorem DS.put4 {A0 A : AHeap} {q2 q4 q6 p : Nat} {l : Bool} {x : List Value} {c : Cur} (h : DS A0 A q2 q4 q6 p l x c) (k : Bool) : DS A0 (A.set q4 (.cells [.pointer (some ⟨p, 0, none⟩), .bool k] false 0)) q2 q4 q6 p k x c :=
  have e : Ext (fun j => j = q4) A (A.set q4 (.cells [.pointer (some ⟨p, 0, none⟩), .bool k] false 0)) := Ext.set rfl
  ⟨e.get h.g2 h.n24, by simp [AHeap.get_lt h.g4], e.get h.g6 (Ne.symm h.n46), h.hc.ext e (Ne.symm h.n4p), h.n24, h.n26, h.n46, h.n2p, h.n4p, h.n6p, h.ex.past e h.l4, h.l2, h.l4, h.l6, h.lp⟩
theorem got_lt (c : Cur) (n : Nat) : val (c.got n) < 256 ^ n := by
  have := val_p (c.got n) 0 n
  have h2 : seg (c.got n) 0 n = c.got n := List.take_of_length_le (by unfold Cur.got; split <;> simp; omega)
  rwa [h2] at this
theorem Cur.on_t (c : Cur) (n : Nat) : c.on true n = c.go n := rfl
theorem Cur.on_f (c : Cur) (n : Nat) : c.on false n = c := rfl
theorem Cur.num_t (c : Cur) (n : Nat) : c.num true n = val (c.got n) := rfl
theorem Cur.num_f (c : Cur) (n : Nat) : c.num false n = 0 := rfl
theorem end_cases (c : Cur) : c.end_ = 0 ∨ c.end_ = 4 ∨ c.end_ = 5 := by
  unfold Cur.end_; split
  · exact .inr (.inl rfl)
  split
  · exact .inr (.inr rfl)
  · exact .inl rfl
theorem dv_ok (A0 A : AHeap) (q2 q4 q6 p : Nat) (l : Bool) (x : Ds) (c : Cur) (S : DS A0 A q2 q4 q6 p l x.cells c) (env : Env) (Q : Value → AHeap → Prop) (r2 : env.rd 2 = .pointer (some ⟨q2, 0, none⟩)) (r4 : env.rd 4 = .pointer (some ⟨q4, 0, none⟩)) (r6 : env.rd 6 = .pointer (some ⟨q6, 0, none⟩))
    (hq : ∀ A', Ext NoB A0 A' → Q (resD Ds.cells dz (Ds.res (x, c))) A') : wC T 83 none c83v { env := env, n := 128, dfs := [], A := A } (endF [.inr (2, 11, true), .inl 3] Q) := by
  dsimp only [c83v]
  simp [r4, S.g4]
  refine End_ok A p c S.hc _ ?_
  have lA := AHeap.get_lt S.g2
  rcases end_cases c with h | h | h
  · have hr : Ds.res (x, c) = .ok x := if_pos h
    rw [hr] at hq
    have hl : x.cells.length = 11 := rfl
    have ht : x.cells.take 11 = x.cells := rfl
    have h1 : x.cells.all oneCell = true := rfl
    have ly : AS.lay dz 0 x.cells = x.cells := rfl
    have dl : dz.length = 11 := rfl
    simp [h, r2, r6, S.g6, S.g2, lA, hl, ht, h1, ly, dl]
    refine hq _ ?_
    have := S.l2
    have := S.ex
    (repeat first | exact Ext.refl | assumption | refine Ext.allocN ?_ | refine Ext.setN ?_ (by first | omega | (simp; done) | (simp; omega)))
  all_goals
    have hr : Ds.res (x, c) = .error c.end_ := if_neg (by show ¬ c.end_ = 0; omega)
    rw [hr] at hq
    rw [h] at hq ⊢
    simp [r2]
    refine none_ok A _ fun B eB => ?_
    have b2 := eB.get S.g2 id
    have lB := AHeap.get_lt b2
    simp [b2, lB, dz, r2]
    refine hq _ ?_
    have := S.l2
    have := S.ex.trans eB
    (repeat first | exact Ext.refl | assumption | refine Ext.allocN ?_ | refine Ext.setN ?_ (by first | omega | (simp; done) | (simp; omega)))
theorem du_ok (A0 A : AHeap) (q2 q4 q6 p : Nat) (l ha la : Bool) (ak : Nat) (b : UInt8) (c : Cur) (S : DS A0 A q2 q4 q6 p l (⟨false, ha, la, ak, decide (b.toNat / 4 % 2 = 1), false, 0, 0, 0, false, 0⟩ : Ds).cells c) (env : Env) (Q : Value → AHeap → Prop) (r2 : env.rd 2 = .pointer (some ⟨q2, 0, none⟩)) (r4 : env.rd 4 = .pointer (some ⟨q4, 0, none⟩)) (r5 : env.rd 5 = .int .u8 (b.toNat : Nat)) (r6 : env.rd 6 = .pointer (some ⟨q6, 0, none⟩))
    (r7 : env.rd 7 = .func (.func 142) ⟨[.pointer (some ⟨q4, 0, none⟩)]⟩ ⟨[]⟩)
    (hq : ∀ A', Ext NoB A0 A' → Q (resD Ds.cells dz (Ds.res (let hm := decide (b.toNat / 4 % 2 = 1); let ld := hm && decide (b.toNat / 8 % 2 = 1); let c2 := c.on hm (wide ld); let c3 := c2.on hm 4; let c4 := c3.on hm 2; let hs := hm && decide (c4.left = 2); (⟨hm && decide (b.toNat / 16 % 2 = 1), ha, la, ak, hm, ld, c.num hm (wide ld), c2.num hm 4, (c3.num hm 2 : Nat), hs, c4.num hs 2⟩, c4.on hs 2)))) A') :
    wC T 83 none c83u { env := env, n := 128, dfs := [], A := A } (endF [.inr (2, 11, true), .inl 3] Q) := by
  dsimp only [c83u]
  have m8 := bm8 b
  have m16 := bm16 b
  generalize decide (b.toNat / 8 % 2 = 1) = ld at hq m8
  generalize decide (b.toNat / 16 % 2 = 1) = fin at hq m16
  generalize decide (b.toNat / 4 % 2 = 1) = hm at hq S
  cases hm with
  | false =>
    simp only [Bool.false_and, Cur.on_f, Cur.num_f] at hq
    have g6 := S.g6
    simp only [Ds.cells] at g6
    simp [r6, g6]
    exact dv_ok A0 A q2 q4 q6 p l _ c S _ Q (by simp [r2]) (by simp [r4]) (by simp [r6]) hq
  | true =>
    simp only [Bool.true_and, Cur.on_t, Cur.num_t] at hq
    have g6 := S.g6
    have l6 := AHeap.get_lt g6
    simp only [Ds.cells] at g6
    have l4 := AHeap.get_lt S.g4
    simp [r4, r5, r6, r7, g6, l6, l4, S.g4, S.n46, S.n46.symm, m8, m16, bitI_z]
    generalize hC : AHeap.set _ _ _ = C
    have SC : DS A0 C q2 q4 q6 p ld (⟨fin, ha, la, ak, true, ld, 0, 0, 0, false, 0⟩ : Ds).cells c := by subst hC; exact ((S.put6 (⟨false, ha, la, ak, true, ld, 0, 0, 0, false, 0⟩ : Ds).cells).put6 (⟨fin, ha, la, ak, true, ld, 0, 0, 0, false, 0⟩ : Ds).cells).put4 ld
    refine rnum_ok C q4 p c ld SC.g4 SC.hc _ fun D dc eD => ?_
    have SD := SC.cur dc eD
    have d6 := SD.g6
    have w6 := AHeap.get_lt d6
    simp only [Ds.cells] at d6
    generalize val (c.got (wide ld)) = dsn at hq ⊢
    generalize c.go (wide ld) = c2 at hq SD dc
    simp [r4, r6, d6, w6, SD.g4, SD.n46]
    generalize hE : AHeap.set _ _ _ = E
    have SE : DS A0 E q2 q4 q6 p ld (⟨fin, ha, la, ak, true, ld, dsn, 0, 0, false, 0⟩ : Ds).cells c2 := by subst hE; exact SD.put6 (⟨fin, ha, la, ak, true, ld, dsn, 0, 0, false, 0⟩ : Ds).cells
    refine U32_ok E p c2 SE.hc _ fun F fc eF => ?_
    have SF := SE.cur fc eF
    have f6 := SF.g6
    have v6 := AHeap.get_lt f6
    simp only [Ds.cells] at f6
    generalize val (c2.got 4) = ssn at hq ⊢
    generalize c2.go 4 = c3 at hq SF fc
    simp [r4, r6, f6, v6, SF.g4, SF.n46]
    generalize hG : AHeap.set _ _ _ = G
    have SG : DS A0 G q2 q4 q6 p ld (⟨fin, ha, la, ak, true, ld, dsn, ssn, 0, false, 0⟩ : Ds).cells c3 := by subst hG; exact SF.put6 (⟨fin, ha, la, ak, true, ld, dsn, ssn, 0, false, 0⟩ : Ds).cells
    refine U16_ok G p c3 SG.hc _ fun H hc eH => ?_
    have SH := SG.cur hc eH
    have h6 := SH.g6
    have u6 := AHeap.get_lt h6
    simp only [Ds.cells] at h6
    have hw := got_lt c3 2
    generalize val (c3.got 2) = len at hq hw ⊢
    generalize c3.go 2 = c4 at hq SH hc
    have wl : IntKind.i64.wrap (len : Int) = len := IntWalk.i64_in _ (by omega)
    simp [r4, r6, h6, u6, wl, SH.g4, SH.n46]
    generalize hI : AHeap.set _ _ _ = I
    have SI : DS A0 I q2 q4 q6 p ld (⟨fin, ha, la, ak, true, ld, dsn, ssn, len, false, 0⟩ : Ds).cells c4 := by subst hI; exact SH.put6 (⟨fin, ha, la, ak, true, ld, dsn, ssn, len, false, 0⟩ : Ds).cells
    refine Left_ok I p c4 SI.hc _ ?_
    have i6 := SI.g6
    have t6 := AHeap.get_lt i6
    simp only [Ds.cells] at i6
    by_cases h2 : c4.left = 2
    · have h2i : ((c4.left : Nat) : Int) = 2 := by omega
      simp only [decide_eq_true h2, Cur.on_t, Cur.num_t] at hq
      simp [r4, r6, i6, t6, h2i, SI.g4, SI.n46]
      generalize hJ : AHeap.set _ _ _ = J
      have SJ : DS A0 J q2 q4 q6 p ld (⟨fin, ha, la, ak, true, ld, dsn, ssn, len, true, 0⟩ : Ds).cells c4 := by subst hJ; exact SI.put6 (⟨fin, ha, la, ak, true, ld, dsn, ssn, len, true, 0⟩ : Ds).cells
      refine U16_ok J p c4 SJ.hc _ fun K kc eK => ?_
      have SK := SJ.cur kc eK
      have kk := SK.g6
      have s6 := AHeap.get_lt kk
      simp only [Ds.cells] at kk
      simp [r6, kk, s6]
      generalize hL : AHeap.set _ _ _ = L
      have SL : DS A0 L q2 q4 q6 p ld (⟨fin, ha, la, ak, true, ld, dsn, ssn, len, true, val (c4.got 2)⟩ : Ds).cells (c4.go 2) := by subst hL; exact SK.put6 (⟨fin, ha, la, ak, true, ld, dsn, ssn, len, true, val (c4.got 2)⟩ : Ds).cells
      exact dv_ok A0 L q2 q4 q6 p ld _ _ SL _ Q (by simp [r2]) (by simp [r4]) (by simp [r6]) hq
    · have h2i : ¬ ((c4.left : Nat) : Int) = 2 := by omega
      simp only [decide_eq_false h2, Cur.on_f, Cur.num_f] at hq
      simp [r6, i6, t6, h2i]
      generalize hJ : AHeap.set _ _ _ = J
      have SJ : DS A0 J q2 q4 q6 p ld (⟨fin, ha, la, ak, true, ld, dsn, ssn, len, false, 0⟩ : Ds).cells c4 := by subst hJ; exact SI.put6 (⟨fin, ha, la, ak, true, ld, dsn, ssn, len, false, 0⟩ : Ds).cells
      exact dv_ok A0 J q2 q4 q6 p ld _ _ SJ _ Q (by simp [r2]) (by simp [r4]) (by simp [r6]) hq
end Go.Proofs.YtigknpfjhegkgaaGreatDoor
