/- The small options, read: each. -/
import Derived.Test.YtigknpfjhegkgaaGreatDoorVi
import Derived.KernelRfl
namespace Go.Proofs.YtigknpfjhegkgaaGreatDoor
open Go Go.AS
set_option maxRecDepth 100000
set_option linter.unusedSimpArgs false
set_option linter.unusedVariables false
attribute [local irreducible] Trie.set Trie.get Env.rd
attribute [local simp ↓] wV_b2s
attribute [local simp] Nat.add_assoc wD_cons'' wD_nil' wC_seq wC_ops wC_opsD_nil wC_cond wC_skip wC_ret wC_exit wC_block wO_cons' wO_nil wantedA wV_eq lop qop ev wL_some wL_none wPut envOf rd_set rd_leaf eqA thenC blockC wB_true wB_false endF unwindA resultsA resA tupleA rdCell rdCells wrCells cl fillP lay rep bi_eql bi_neq bi_lss bi_leq bi_gtr bi_geq bi_add bi_sub bs_eql bs_neq bi_shr4 unA get_set' AHeap.get_alloc oneCell beqd bned idxA

def fP (m : Nat) (c : Cur) : List Value × Cur := ([.bool (decide (m % 2 = 1))], c)
def fB (m : Nat) (c : Cur) : List Value × Cur := ([.int .u64 (val ((c.go 1).got 8) : Nat)], (c.go 1).go 8)
def fR (m : Nat) (c : Cur) : List Value × Cur := ([.int .i64 (m : Nat), .int .i64 (val (c.got 1) : Nat)], c.go 1)
theorem smallP (s : List UInt8) : smallR 5 [.bool false] fP s = resD (fun b => [.bool b]) [.bool false] (prioD s) := by
  match s with
  | [] => rfl
  | a :: t =>
    by_cases h0 : a.toNat / 16 ≠ 5
    · simp only [smallR, prioD, if_pos h0]; rfl
    · simp only [smallR, prioD, if_neg h0, fP]
      have e : a.toNat % 16 % 2 = a.toNat % 2 := by omega
      rw [e]
      match t with
      | [] => simp [Cur.end_, resD]
      | b :: r => simp [Cur.end_, resD]
theorem smallB (k : Nat) (s : List UInt8) : smallR k [.int .u64 0] fB s = resD (fun n => [.int .u64 (n : Nat)]) [.int .u64 0] (bigD k s) := by
  match s with
  | [] => rfl
  | a :: t =>
    by_cases h0 : a.toNat / 16 ≠ k
    · simp only [smallR, bigD, if_pos h0]; rfl
    · simp only [smallR, bigD, if_neg h0, fB]
      by_cases h1 : 1 ≤ t.length
      · have g1 := (Cur.go_ok (c := ⟨a :: t, 1, false⟩) (n := 1) rfl (by simp; omega)).1
        simp only [g1]
        by_cases h9 : t.length < 9
        · have g2 := (Cur.go_no (c := ⟨a :: t, 2, false⟩) (n := 8) (.inr (by simp; omega))).1
          simp only [g2, if_pos h9]
          simp [Cur.end_, resD]
        · have g2 := Cur.go_ok (c := ⟨a :: t, 2, false⟩) (n := 8) rfl (by simp; omega)
          have g2' : (⟨a :: t, 1 + 1, false⟩ : Cur).go 8 = ⟨a :: t, 10, false⟩ := g2.1
          have g3' : (⟨a :: t, 1 + 1, false⟩ : Cur).got 8 = seg t 1 8 := g2.2
          simp only [g2', g3', if_neg h9]
          by_cases h10 : t.length = 9
          · simp [Cur.end_, resD, h10]
          · simp [h10, Cur.end_, resD, show 9 < t.length by omega, show ¬ t.length ≤ 9 by omega]
      · have g1 := (Cur.go_no (c := ⟨a :: t, 1, false⟩) (n := 1) (.inr (by simp; omega))).1
        simp only [g1, Cur.go_br, if_pos (show t.length < 9 by omega)]
        simp [Cur.end_, resD]
theorem smallT (s : List UInt8) : smallR 8 [.int .i64 0, .int .i64 0] fR s = resD (fun x => [.int .i64 x.1, .int .i64 x.2]) [.int .i64 0, .int .i64 0] (rstD s) := by
  match s with
  | [] => rfl
  | a :: t =>
    by_cases h0 : a.toNat / 16 ≠ 8
    · simp only [smallR, rstD, if_pos h0]; rfl
    · simp only [smallR, rstD, if_neg h0, fR]
      match t with
      | [] =>
        have g1 := (Cur.go_no (c := ⟨[a], 1, false⟩) (n := 1) (.inr (by simp))).1
        simp only [g1]
        simp [Cur.end_, resD]
      | b :: r =>
        have g1 := Cur.go_ok (c := ⟨a :: b :: r, 1, false⟩) (n := 1) rfl (by simp)
        simp only [g1.1, g1.2]
        match r with
        | [] => simp [Cur.end_, resD, seg, val_one]
        | c :: r => simp [Cur.end_, resD]
theorem prest_ok (B : AHeap) (m p : Nat) (c : Cur) (hm : m < 16) (hc : CurAt B p c) (R : Value → AHeap → Prop) (hr : ∀ B', CurAt B' p (fP m c).2 → Ext (fun j => j = p) B B' → R (.agg ⟨(fP m c).1⟩) B') : wF T (.func (.func 150) #[] #[]) [.int .u8 (m : Nat), .pointer (some ⟨p, 0, none⟩)] B R := by
  refine wF_func (first := []) (captured := []) t150 ⟨rfl, by decide⟩ ?_
  dsimp only [c150]
  have lp := AHeap.get_lt hc.g
  have m1 := bm1 (UInt8.ofNat m)
  rw [ofNat_toNat (by omega)] at m1
  simp only [Nat.div_one] at m1
  simp only [fP] at hr
  generalize decide (m % 2 = 1) = bb at hr m1
  simp [m1, bitI_z]
  have e2 : ∀ x y, Ext (fun j => j = p) B ((B.alloc x).set B.size y) := fun x y => ⟨by simp, fun j hj hn => by simp [show j ≠ B.size by omega]⟩
  refine hr _ (hc.ext (S := NoB) ?_ id) (e2 _ _)
  (repeat first | exact Ext.refl | assumption | refine Ext.allocN ?_ | refine Ext.setN ?_ (by first | omega | (simp; done) | (simp; omega)))
theorem frest_ok (B : AHeap) (m p : Nat) (c : Cur) (hm : m < 16) (hc : CurAt B p c) (R : Value → AHeap → Prop) (hr : ∀ B', CurAt B' p (fB m c).2 → Ext (fun j => j = p) B B' → R (.agg ⟨(fB m c).1⟩) B') : wF T (.func (.func 153) #[] #[]) [.int .u8 (m : Nat), .pointer (some ⟨p, 0, none⟩)] B R := by
  refine wF_func (first := []) (captured := []) t153 ⟨rfl, by decide⟩ ?_
  dsimp only [c153]
  have lp := AHeap.get_lt hc.g
  simp
  generalize hC : AHeap.alloc _ _ = C
  have c0 : C.get B.size = some (.cells [.int .u64 0] false 0) := by subst hC; simp
  have eC : Ext NoB B C := by subst hC; (repeat first | exact Ext.refl | assumption | refine Ext.allocN ?_ | refine Ext.setN ?_ (by first | omega | (simp; done) | (simp; omega)))
  refine U8_ok C p c (hc.ext eC id) _ fun D dc eD => ?_
  have d0 := eD.get c0 (by omega)
  simp
  refine U64_ok D p _ dc _ fun E ec eE => ?_
  have e0 := eE.get d0 (by omega)
  have lE := AHeap.get_lt e0
  simp [e0, lE]
  have key : Ext (fun j => j = p) B (E.set B.size (.cells [.int .u64 (val ((c.go 1).got 8) : Nat)] false 0)) :=
    ((((eC.mono fun _ _ z => z.elim).trans eD).trans eE)).trans2 (Ext.set (S := fun j => j = B.size) rfl) fun j hj hs => absurd hs (by omega)
  exact hr _ (ec.ext (Ext.set (S := fun j => j = B.size) rfl) (by omega)) key
theorem krest_ok (B : AHeap) (m p : Nat) (c : Cur) (hm : m < 16) (hc : CurAt B p c) (R : Value → AHeap → Prop) (hr : ∀ B', CurAt B' p (fB m c).2 → Ext (fun j => j = p) B B' → R (.agg ⟨(fB m c).1⟩) B') : wF T (.func (.func 155) #[] #[]) [.int .u8 (m : Nat), .pointer (some ⟨p, 0, none⟩)] B R := by
  refine wF_func (first := []) (captured := []) t155 ⟨rfl, by decide⟩ ?_
  dsimp only [c155]
  have lp := AHeap.get_lt hc.g
  simp
  generalize hC : AHeap.alloc _ _ = C
  have c0 : C.get B.size = some (.cells [.int .u64 0] false 0) := by subst hC; simp
  have eC : Ext NoB B C := by subst hC; (repeat first | exact Ext.refl | assumption | refine Ext.allocN ?_ | refine Ext.setN ?_ (by first | omega | (simp; done) | (simp; omega)))
  refine U8_ok C p c (hc.ext eC id) _ fun D dc eD => ?_
  have d0 := eD.get c0 (by omega)
  simp
  refine U64_ok D p _ dc _ fun E ec eE => ?_
  have e0 := eE.get d0 (by omega)
  have lE := AHeap.get_lt e0
  simp [e0, lE]
  have key : Ext (fun j => j = p) B (E.set B.size (.cells [.int .u64 (val ((c.go 1).got 8) : Nat)] false 0)) :=
    ((((eC.mono fun _ _ z => z.elim).trans eD).trans eE)).trans2 (Ext.set (S := fun j => j = B.size) rfl) fun j hj hs => absurd hs (by omega)
  exact hr _ (ec.ext (Ext.set (S := fun j => j = B.size) rfl) (by omega)) key
theorem trest_ok (B : AHeap) (m p : Nat) (c : Cur) (hm : m < 16) (hc : CurAt B p c) (R : Value → AHeap → Prop) (hr : ∀ B', CurAt B' p (fR m c).2 → Ext (fun j => j = p) B B' → R (.agg ⟨(fR m c).1⟩) B') : wF T (.func (.func 157) #[] #[]) [.int .u8 (m : Nat), .pointer (some ⟨p, 0, none⟩)] B R := by
  refine wF_func (first := []) (captured := []) t157 ⟨rfl, by decide⟩ ?_
  dsimp only [c157]
  have lp := AHeap.get_lt hc.g
  have wm : IntKind.i64.wrap (m : Int) = m := IntWalk.i64_in _ (by omega)
  have hg := got_lt c 1
  have wv : IntKind.i64.wrap ((val (c.got 1) : Nat) : Int) = (val (c.got 1) : Nat) := IntWalk.i64_in _ (by omega)
  simp [wm]
  generalize hC : AHeap.alloc _ _ = C
  have c0 : C.get B.size = some (.cells [.int .i64 0, .int .i64 0] false 0) := by subst hC; simp
  have eC : Ext NoB B C := by subst hC; (repeat first | exact Ext.refl | assumption | refine Ext.allocN ?_ | refine Ext.setN ?_ (by first | omega | (simp; done) | (simp; omega)))
  refine U8_ok C p c (hc.ext eC id) _ fun D dc eD => ?_
  have d0 := eD.get c0 (by omega)
  have lD := AHeap.get_lt d0
  simp [d0, lD, wv]
  generalize hE : AHeap.set _ _ _ = E
  have eDE : Ext (fun j => j = B.size) D E := by subst hE; exact Ext.set rfl
  have key : Ext (fun j => j = p) B E := ((eC.mono fun _ _ z => z.elim).trans eD).trans2 eDE fun j hj hs => absurd hs (by omega)
  exact hr _ (dc.ext eDE (by omega)) key
theorem pdec_ok (A : AHeap) (s : List UInt8) (hs : s.length < 1000000) (Q : Value → AHeap → Prop) (hq : ∀ A', Ext NoB A A' → Q (resD (fun b => [.bool b]) [.bool false] (prioD s)) A') : wF T (.func (.func 95) #[] #[]) [.string ⟨⟨s⟩⟩] A Q := by
  refine wF_func (first := []) (captured := []) t95 ⟨rfl, by decide⟩ ?_
  dsimp only [c95]
  simp
  generalize hC : AHeap.alloc _ _ = C
  have c0 : C.get A.size = some (.cells [.bool false] false 0) := by subst hC; simp
  have eC : Ext NoB A C := by subst hC; (repeat first | exact Ext.refl | assumption | refine Ext.allocN ?_ | refine Ext.setN ?_ (by first | omega | (simp; done) | (simp; omega)))
  refine small149_ok C s 5 (by decide) _ fP (fun m c => ⟨rfl, rfl⟩) (fun B m p c hm hc R hr => prest_ok B m p c hm hc R hr) hs _ fun D eD => ?_
  have d0 := eD.get c0 id
  have lD := AHeap.get_lt d0
  have eeD := eC.trans eD
  rw [smallP s]
  cases hx : prioD s <;> rw [hx] at hq <;> simp [resD, d0, lD] <;> exact hq _ (by have := eeD.size; (repeat first | exact Ext.refl | assumption | refine Ext.allocN ?_ | refine Ext.setN ?_ (by first | omega | (simp; done) | (simp; omega))))
theorem fdec_ok (A : AHeap) (s : List UInt8) (hs : s.length < 1000000) (Q : Value → AHeap → Prop) (hq : ∀ A', Ext NoB A A' → Q (resD (fun n => [.int .u64 ((n : Nat) : Int)]) [.int .u64 0] (bigD 6 s)) A') : wF T (.func (.func 99) #[] #[]) [.string ⟨⟨s⟩⟩] A Q := by
  refine wF_func (first := []) (captured := []) t99 ⟨rfl, by decide⟩ ?_
  dsimp only [c99]
  simp
  generalize hC : AHeap.alloc _ _ = C
  have c0 : C.get A.size = some (.cells [.int .u64 0] false 0) := by subst hC; simp
  have eC : Ext NoB A C := by subst hC; (repeat first | exact Ext.refl | assumption | refine Ext.allocN ?_ | refine Ext.setN ?_ (by first | omega | (simp; done) | (simp; omega)))
  refine small152_ok C s 6 (by decide) _ fB (fun m c => ⟨rfl, rfl⟩) (fun B m p c hm hc R hr => frest_ok B m p c hm hc R hr) hs _ fun D eD => ?_
  have d0 := eD.get c0 id
  have lD := AHeap.get_lt d0
  have eeD := eC.trans eD
  rw [smallB 6 s]
  cases hx : bigD 6 s <;> rw [hx] at hq <;> simp [resD, d0, lD] <;> exact hq _ (by have := eeD.size; (repeat first | exact Ext.refl | assumption | refine Ext.allocN ?_ | refine Ext.setN ?_ (by first | omega | (simp; done) | (simp; omega))))
theorem kdec_ok (A : AHeap) (s : List UInt8) (hs : s.length < 1000000) (Q : Value → AHeap → Prop) (hq : ∀ A', Ext NoB A A' → Q (resD (fun n => [.int .u64 ((n : Nat) : Int)]) [.int .u64 0] (bigD 7 s)) A') : wF T (.func (.func 103) #[] #[]) [.string ⟨⟨s⟩⟩] A Q := by
  refine wF_func (first := []) (captured := []) t103 ⟨rfl, by decide⟩ ?_
  dsimp only [c103]
  simp
  generalize hC : AHeap.alloc _ _ = C
  have c0 : C.get A.size = some (.cells [.int .u64 0] false 0) := by subst hC; simp
  have eC : Ext NoB A C := by subst hC; (repeat first | exact Ext.refl | assumption | refine Ext.allocN ?_ | refine Ext.setN ?_ (by first | omega | (simp; done) | (simp; omega)))
  refine small154_ok C s 7 (by decide) _ fB (fun m c => ⟨rfl, rfl⟩) (fun B m p c hm hc R hr => krest_ok B m p c hm hc R hr) hs _ fun D eD => ?_
  have d0 := eD.get c0 id
  have lD := AHeap.get_lt d0
  have eeD := eC.trans eD
  rw [smallB 7 s]
  cases hx : bigD 7 s <;> rw [hx] at hq <;> simp [resD, d0, lD] <;> exact hq _ (by have := eeD.size; (repeat first | exact Ext.refl | assumption | refine Ext.allocN ?_ | refine Ext.setN ?_ (by first | omega | (simp; done) | (simp; omega))))
theorem tdec_ok (A : AHeap) (s : List UInt8) (hs : s.length < 1000000) (Q : Value → AHeap → Prop) (hq : ∀ A', Ext NoB A A' → Q (resD (fun x => [.int .i64 x.1, .int .i64 x.2]) [.int .i64 0, .int .i64 0] (rstD s)) A') : wF T (.func (.func 107) #[] #[]) [.string ⟨⟨s⟩⟩] A Q := by
  refine wF_func (first := []) (captured := []) t107 ⟨rfl, by decide⟩ ?_
  dsimp only [c107]
  simp
  generalize hC : AHeap.alloc _ _ = C
  have c0 : C.get A.size = some (.cells [.int .i64 0, .int .i64 0] false 0) := by subst hC; simp
  have eC : Ext NoB A C := by subst hC; (repeat first | exact Ext.refl | assumption | refine Ext.allocN ?_ | refine Ext.setN ?_ (by first | omega | (simp; done) | (simp; omega)))
  refine small156_ok C s 8 (by decide) _ fR (fun m c => ⟨rfl, rfl⟩) (fun B m p c hm hc R hr => trest_ok B m p c hm hc R hr) hs _ fun D eD => ?_
  have d0 := eD.get c0 id
  have lD := AHeap.get_lt d0
  have eeD := eC.trans eD
  rw [smallT s]
  cases hx : rstD s <;> rw [hx] at hq <;> simp [resD, d0, lD] <;> exact hq _ (by have := eeD.size; (repeat first | exact Ext.refl | assumption | refine Ext.allocN ?_ | refine Ext.setN ?_ (by first | omega | (simp; done) | (simp; omega))))
end Go.Proofs.YtigknpfjhegkgaaGreatDoor
