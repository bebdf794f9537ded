/- The reference's data sequence signals, laid. -/
import Derived.Test.YtigknpfjhegkgaaGreatRe
import Derived.Test.YtigknpfjhegkgaaGreatZp
import Derived.KernelRfl
namespace Go.Proofs.YtigknpfjhegkgaaGreat
open Go Go.AS
set_option maxRecDepth 100000
set_option linter.unusedSimpArgs false
set_option linter.unusedVariables false
attribute [local irreducible] Trie.set Trie.get Env.rd
attribute [local simp ↓] wV_b2s
attribute [local simp] Nat.add_assoc wD_cons'' wD_nil' wC_seq wC_ops wC_opsD_nil wC_cond wC_skip wC_ret wC_exit wC_block wO_cons' wO_nil wantedA wV_eq lop qop ev wL_some wL_none wPut envOf rd_set rd_leaf eqA thenC blockC wB_true wB_false endF unwindA resultsA resA tupleA rdCell rdCells wrCells cl fillP lay rep binA unA get_set' AHeap.get_alloc oneCell beqd bned idxA

def Ds.bare (x : Ds) : Ds := ⟨x.hasMap && x.fin, x.hasAck, x.hasAck && x.longAck, if x.hasAck then x.ack else 0, x.hasMap, x.hasMap && x.longDsn, if x.hasMap then x.dsn else 0, if x.hasMap then x.ssn else 0, if x.hasMap then x.len else 0, x.hasMap && x.hasSum, if x.hasMap && x.hasSum then x.sum else 0⟩
theorem bare_ok (A : AHeap) (x : Ds) (Q : Value → AHeap → Prop) (hq : ∀ A', Ext NoB A A' → Q (.agg ⟨x.bare.cells⟩) A') : wF T (.func (.func 144) #[] #[]) [.agg ⟨x.cells⟩] A Q := by
  refine wF_func (first := []) (captured := []) t144 ⟨rfl, by decide⟩ ?_
  dsimp only [c144]
  have hc := Ds.cells_eq x
  simp [hc]
  generalize hA3 : AHeap.set _ _ _ = A3
  have g1 : A3.get A.size = some (.cells [.bool x.fin, .bool x.hasAck, .bool x.longAck, .int .u64 (x.ack : Nat), .bool x.hasMap, .bool x.longDsn, .int .u64 (x.dsn : Nat), .int .u32 (x.ssn : Nat), .int .i64 x.len, .bool x.hasSum, .int .u16 (x.sum : Nat)] false 0) := by subst hA3; simp
  have g2 : A3.get (A.size + 1) = some (.cells [.bool false, .bool false, .bool false, .int .u64 0, .bool false, .bool false, .int .u64 0, .int .u32 0, .int .i64 0, .bool false, .int .u16 0] false 0) := by subst hA3; simp
  have g3 : A3.get (A.size + 2) = some (.cells [.bool false, .bool x.hasAck, .bool false, .int .u64 0, .bool x.hasMap, .bool false, .int .u64 0, .int .u32 0, .int .i64 0, .bool false, .int .u16 0] false 0) := by subst hA3; simp
  have e3 : Ext NoB A A3 := by subst hA3; (repeat first | exact Ext.refl | assumption | refine Ext.allocN ?_ | refine Ext.setN ?_ (by first | omega | (simp; done) | (simp; omega)))
  have l3 := AHeap.get_lt g3
  have step2 : ∀ (B : AHeap) (env : Env) (la : Bool) (ak : Nat), B.get A.size = some (.cells [.bool x.fin, .bool x.hasAck, .bool x.longAck, .int .u64 (x.ack : Nat), .bool x.hasMap, .bool x.longDsn, .int .u64 (x.dsn : Nat), .int .u32 (x.ssn : Nat), .int .i64 x.len, .bool x.hasSum, .int .u16 (x.sum : Nat)] false 0) → B.get (A.size + 1) = some (.cells [.bool false, .bool false, .bool false, .int .u64 0, .bool false, .bool false, .int .u64 0, .int .u32 0, .int .i64 0, .bool false, .int .u16 0] false 0) → B.get (A.size + 2) = some (.cells [.bool false, .bool x.hasAck, .bool la, .int .u64 (ak : Nat), .bool x.hasMap, .bool false, .int .u64 0, .int .u32 0, .int .i64 0, .bool false, .int .u16 0] false 0) → Ext NoB A B →
      env.rd 1 = .pointer (some ⟨A.size, 0, none⟩) → env.rd 2 = .pointer (some ⟨A.size + 1, 0, none⟩) → env.rd 3 = .pointer (some ⟨A.size + 2, 0, none⟩) → la = (x.hasAck && x.longAck) → ak = (if x.hasAck then x.ack else 0) →
      wC T 144 none c144t { env := env, n := 43, dfs := [], A := B } (endF [.inr (2, 11, true)] Q) := by
    intro B env la ak b1 b2 b3 eb r1 r2 r3 hla hak
    have l1 := AHeap.get_lt b2
    have l2 := AHeap.get_lt b3
    dsimp only [c144t]
    cases hm : x.hasMap
    · have hb : x.bare = ⟨false, x.hasAck, la, ak, false, false, 0, 0, 0, false, 0⟩ := by simp [Ds.bare, hm, hla, hak]
      rw [hb, Ds.cells_eq] at hq
      simp [r1, r2, r3, b1, b2, b3, hm, l1, l2]
      exact hq _ (by (repeat first | exact Ext.refl | assumption | refine Ext.allocN ?_ | refine Ext.setN ?_ (by first | omega | (simp; done) | (simp; omega))))
    · cases hs : x.hasSum
      · have hb : x.bare = ⟨x.fin, x.hasAck, la, ak, true, x.longDsn, x.dsn, x.ssn, x.len, false, 0⟩ := by simp [Ds.bare, hm, hs, hla, hak]
        rw [hb, Ds.cells_eq] at hq
        simp [r1, r2, r3, b1, b2, b3, hm, l1, l2]
        refine wC_opsD_chk ?_
        simp [r1, r2, r3, b1, b2, b3, hm, hs, l1, l2]
        refine wE_intro ?_ ?_
        · simp only [List.all_cons, List.all_nil, chkOk, List.nil_append, List.cons_append, List.getElem?_cons_succ, List.getElem?_cons_zero]
          simp [Bx, b1, b2, b3, vbeq, hs, hm, l1, l2, r1, r2, r3]
        · generalize hC : AHeap.set _ _ _ = C
          have c2 : C.get (A.size + 1) = some (.cells [.bool false, .bool false, .bool false, .int .u64 0, .bool false, .bool false, .int .u64 0, .int .u32 0, .int .i64 0, .bool false, .int .u16 0] false 0) := by subst hC; simp [b2]
          have c3 : C.get (A.size + 2) = some (.cells [.bool x.fin, .bool x.hasAck, .bool la, .int .u64 (ak : Nat), .bool true, .bool x.longDsn, .int .u64 (x.dsn : Nat), .int .u32 (x.ssn : Nat), .int .i64 x.len, .bool false, .int .u16 0] false 0) := by subst hC; simp [l2]
          have ec : Ext NoB A C := by subst hC; (repeat first | exact Ext.refl | assumption | refine Ext.allocN ?_ | refine Ext.setN ?_ (by first | omega | (simp; done) | (simp; omega)))
          have lc := AHeap.get_lt c2
          simp [c2, c3, lc, r1, r2, r3]
          exact hq _ (by (repeat first | exact Ext.refl | assumption | refine Ext.allocN ?_ | refine Ext.setN ?_ (by first | omega | (simp; done) | (simp; omega))))
      · have hb : x.bare = ⟨x.fin, x.hasAck, la, ak, true, x.longDsn, x.dsn, x.ssn, x.len, true, x.sum⟩ := by simp [Ds.bare, hm, hs, hla, hak]
        rw [hb, Ds.cells_eq] at hq
        simp [r1, r2, r3, b1, b2, b3, hm, l1, l2]
        refine wC_opsD_chk ?_
        simp [r1, r2, r3, b1, b2, b3, hm, hs, l1, l2]
        refine wE_intro ?_ ?_
        · simp only [List.all_cons, List.all_nil, chkOk, List.nil_append, List.cons_append, List.getElem?_cons_succ, List.getElem?_cons_zero]
          simp [Bx, b1, b2, b3, vbeq, hs, hm, l1, l2, r1, r2, r3]
        · generalize hC : AHeap.set _ _ _ = C
          have c1 : C.get A.size = some (.cells [.bool x.fin, .bool x.hasAck, .bool x.longAck, .int .u64 (x.ack : Nat), .bool x.hasMap, .bool x.longDsn, .int .u64 (x.dsn : Nat), .int .u32 (x.ssn : Nat), .int .i64 x.len, .bool x.hasSum, .int .u16 (x.sum : Nat)] false 0) := by subst hC; simp [b1]
          have c2 : C.get (A.size + 1) = some (.cells [.bool false, .bool false, .bool false, .int .u64 0, .bool false, .bool false, .int .u64 0, .int .u32 0, .int .i64 0, .bool false, .int .u16 0] false 0) := by subst hC; simp [b2]
          have c3 : C.get (A.size + 2) = some (.cells [.bool x.fin, .bool x.hasAck, .bool la, .int .u64 (ak : Nat), .bool true, .bool x.longDsn, .int .u64 (x.dsn : Nat), .int .u32 (x.ssn : Nat), .int .i64 x.len, .bool true, .int .u16 0] false 0) := by subst hC; simp [l2]
          have ec : Ext NoB A C := by subst hC; (repeat first | exact Ext.refl | assumption | refine Ext.allocN ?_ | refine Ext.setN ?_ (by first | omega | (simp; done) | (simp; omega)))
          have lc := AHeap.get_lt c2
          have lc3 := AHeap.get_lt c3
          simp [c1, c2, c3, lc, lc3, r1, r2, r3]
          exact hq _ (by (repeat first | exact Ext.refl | assumption | refine Ext.allocN ?_ | refine Ext.setN ?_ (by first | omega | (simp; done) | (simp; omega))))
  cases ha : x.hasAck
  · simp
    exact step2 A3 _ false 0 g1 g2 (by simpa [ha] using g3) e3 (by simp) (by simp) (by simp) (by rw [ha]; rfl) (by rw [ha]; rfl)
  · simp
    refine wC_opsD_chk ?_
    simp [g1, g3, ha, l3]
    refine wE_intro ?_ ?_
    · simp only [List.all_cons, List.all_nil, chkOk, List.nil_append, List.cons_append, List.getElem?_cons_succ, List.getElem?_cons_zero]
      simp [Bx, g1, g3, vbeq, ha, l3]
    · generalize hC : AHeap.set _ _ _ = C
      simp
      refine step2 C _ x.longAck x.ack ?_ ?_ ?_ ?_ (by simp) (by simp) (by simp) (by rw [ha]; rfl) (by rw [ha]; rfl)
      · subst hC; simp [g1]
      · subst hC; simp [g2]
      · subst hC; simp [l3, ha]
      · subst hC; (repeat first | exact Ext.refl | assumption | refine Ext.allocN ?_ | refine Ext.setN ?_ (by first | omega | (simp; done) | (simp; omega)))
def Ds.okL (x : Ds) : Bool := (x.longAck || decide (x.ack < 4294967296)) && (x.longDsn || decide (x.dsn < 4294967296)) && decide (0 ≤ x.len) && decide (x.len ≤ 65535)
theorem Ds.may_eq (x : Ds) : x.may = ((x.hasAck || x.hasMap) && decide (x = x.bare) && x.okL) := by
  obtain ⟨fin, ha, la, ack, hm, ld, dsn, ssn, len, hs, sum⟩ := x
  rw [Bool.eq_iff_iff]
  cases ha <;> cases hm <;> cases la <;> cases ld <;> cases fin <;> cases hs <;> simp [Ds.may, Ds.b1, Ds.b2, Ds.b3, Ds.bare, Ds.okL] <;> (try omega)
theorem rdrest (env : Env) (A : AHeap) (K : St → Prop) (x : Ds) (p : Nat) (b : Bool) (r1 : env.rd 1 = .pointer (some ⟨p, 0, none⟩)) (r15 : env.rd 15 = .bool b) (g : A.get p = some (.cells x.cells false 0))
    (hK : ∀ env' : Env, env'.rd 2 = .bool (b && x.okL) → K { env := env', n := 43, dfs := [], A := A }) : wO T [⟨some 16, some (15, true), .faddr 2 (.tmp 1)⟩,
  ⟨some 17, some (15, true), .load1 (.tmp 16)⟩,
  ⟨some 18, some (15, true), .mov (.tmp 17)⟩,
  ⟨some 19, some (18, false), .faddr 3 (.tmp 1)⟩,
  ⟨some 20, some (18, false), .load1 (.tmp 19)⟩,
  ⟨some 21, some (18, false), .bin .lss (.tmp 20) (.const (.int .u64 (4294967296)))⟩,
  ⟨some 22, some (15, true), .pick (.tmp 18) (.const (.bool true)) (.tmp 21)⟩,
  ⟨some 23, none, .pick (.tmp 15) (.tmp 22) (.const (.bool false))⟩,
  ⟨some 24, none, .mov (.tmp 23)⟩,
  ⟨some 25, some (24, true), .faddr 5 (.tmp 1)⟩,
  ⟨some 26, some (24, true), .load1 (.tmp 25)⟩,
  ⟨some 27, some (24, true), .mov (.tmp 26)⟩,
  ⟨some 28, some (27, false), .faddr 6 (.tmp 1)⟩,
  ⟨some 29, some (27, false), .load1 (.tmp 28)⟩,
  ⟨some 30, some (27, false), .bin .lss (.tmp 29) (.const (.int .u64 (4294967296)))⟩,
  ⟨some 31, some (24, true), .pick (.tmp 27) (.const (.bool true)) (.tmp 30)⟩,
  ⟨some 32, none, .pick (.tmp 24) (.tmp 31) (.const (.bool false))⟩,
  ⟨some 33, none, .mov (.tmp 32)⟩,
  ⟨some 34, some (33, true), .faddr 8 (.tmp 1)⟩,
  ⟨some 35, some (33, true), .load1 (.tmp 34)⟩,
  ⟨some 36, some (33, true), .bin .geq (.tmp 35) (.const (.int .i64 (0)))⟩,
  ⟨some 37, none, .pick (.tmp 33) (.tmp 36) (.const (.bool false))⟩,
  ⟨some 38, none, .mov (.tmp 37)⟩,
  ⟨some 39, some (38, true), .faddr 8 (.tmp 1)⟩,
  ⟨some 40, some (38, true), .load1 (.tmp 39)⟩,
  ⟨some 41, some (38, true), .bin .leq (.tmp 40) (.const (.int .i64 (65535)))⟩,
  ⟨some 42, none, .pick (.tmp 38) (.tmp 41) (.const (.bool false))⟩,
  ⟨some 2, none, .mov (.tmp 42)⟩] { env := env, n := 43, dfs := [], A := A } K := by
  have hc := Ds.cells_eq x
  rw [hc] at g
  cases b
  · simp [r1, r15, g, undef]
    exact hK _ (by simp)
  · cases la : x.longAck
    · by_cases a1 : x.ack < 4294967296
      · have a1' : (x.ack : Int) < 4294967296 := by omega
        cases ld : x.longDsn
        · by_cases a2 : x.dsn < 4294967296
          · have a2' : (x.dsn : Int) < 4294967296 := by omega
            by_cases a3 : 0 ≤ x.len
            · simp [r1, r15, g, undef, la, a1', ld, a2', a3]
              exact hK _ (by simp [Ds.okL, la, a1, ld, a2, a3])
            · simp [r1, r15, g, undef, la, a1', ld, a2', a3]
              exact hK _ (by simp [Ds.okL, la, a1, ld, a2, a3])
          · have a2' : ¬ (x.dsn : Int) < 4294967296 := by omega
            simp [r1, r15, g, undef, la, a1', ld, a2']
            exact hK _ (by simp [Ds.okL, la, a1, ld, a2])
        · by_cases a3 : 0 ≤ x.len
          · simp [r1, r15, g, undef, la, a1', ld, a3]
            exact hK _ (by simp [Ds.okL, la, a1, ld, a3])
          · simp [r1, r15, g, undef, la, a1', ld, a3]
            exact hK _ (by simp [Ds.okL, la, a1, ld, a3])
      · have a1' : ¬ (x.ack : Int) < 4294967296 := by omega
        simp [r1, r15, g, undef, la, a1']
        exact hK _ (by simp [Ds.okL, la, a1])
    · cases ld : x.longDsn
      · by_cases a2 : x.dsn < 4294967296
        · have a2' : (x.dsn : Int) < 4294967296 := by omega
          by_cases a3 : 0 ≤ x.len
          · simp [r1, r15, g, undef, la, ld, a2', a3]
            exact hK _ (by simp [Ds.okL, la, ld, a2, a3])
          · simp [r1, r15, g, undef, la, ld, a2', a3]
            exact hK _ (by simp [Ds.okL, la, ld, a2, a3])
        · have a2' : ¬ (x.dsn : Int) < 4294967296 := by omega
          simp [r1, r15, g, undef, la, ld, a2']
          exact hK _ (by simp [Ds.okL, la, ld, a2])
      · by_cases a3 : 0 ≤ x.len
        · simp [r1, r15, g, undef, la, ld, a3]
          exact hK _ (by simp [Ds.okL, la, ld, a3])
        · simp [r1, r15, g, undef, la, ld, a3]
          exact hK _ (by simp [Ds.okL, la, ld, a3])
theorem rdmay_ok (A : AHeap) (x : Ds) (Q : Value → AHeap → Prop) (hq : ∀ A', Ext NoB A A' → Q (.bool x.may) A') : wF T (.func (.func 122) #[] #[]) [.agg ⟨x.cells⟩] A Q := by
  refine wF_func (first := []) (captured := []) t122 ⟨rfl, by decide⟩ ?_
  dsimp only [c122]
  have hc := Ds.cells_eq x
  have hl : x.cells.length = 11 := rfl
  have ht : x.cells.take 11 = x.cells := rfl
  have y1 : ∀ h : 1 < x.cells.length, x.cells[1]'h = .bool x.hasAck := fun _ => rfl
  have y4 : ∀ h : 4 < x.cells.length, x.cells[4]'h = .bool x.hasMap := fun _ => rfl
  have vb : vbeq.vbeqs 3 x.cells x.cells = true := by simp [Ds.cells, vbeq.vbeqs, vbeq]
  simp [hl]
  generalize hA1 : A.alloc _ = A1
  obtain ⟨g1, e1, z1⟩ := alloc_facts hA1
  refine wC_opsD_cut 13 ?_
  simp only [List.take_succ_cons, List.take_zero, List.drop_succ_cons, List.drop_zero]
  have fin : ∀ (A2 : AHeap) (env : Env) (b : Bool) (Q' : St → Prop), Ext NoB A A2 → A2.get A.size = some (.cells x.cells false 0) → env.rd 1 = .pointer (some ⟨A.size, 0, none⟩) → env.rd 15 = .bool b → b = ((x.hasAck || x.hasMap) && decide (x = x.bare)) → (∀ env' : Env, env'.rd 2 = .bool x.may → Q' { env := env', n := 43, dfs := [], A := A2 }) → wO T [⟨some 16, some (15, true), .faddr 2 (.tmp 1)⟩,
  ⟨some 17, some (15, true), .load1 (.tmp 16)⟩,
  ⟨some 18, some (15, true), .mov (.tmp 17)⟩,
  ⟨some 19, some (18, false), .faddr 3 (.tmp 1)⟩,
  ⟨some 20, some (18, false), .load1 (.tmp 19)⟩,
  ⟨some 21, some (18, false), .bin .lss (.tmp 20) (.const (.int .u64 (4294967296)))⟩,
  ⟨some 22, some (15, true), .pick (.tmp 18) (.const (.bool true)) (.tmp 21)⟩,
  ⟨some 23, none, .pick (.tmp 15) (.tmp 22) (.const (.bool false))⟩,
  ⟨some 24, none, .mov (.tmp 23)⟩,
  ⟨some 25, some (24, true), .faddr 5 (.tmp 1)⟩,
  ⟨some 26, some (24, true), .load1 (.tmp 25)⟩,
  ⟨some 27, some (24, true), .mov (.tmp 26)⟩,
  ⟨some 28, some (27, false), .faddr 6 (.tmp 1)⟩,
  ⟨some 29, some (27, false), .load1 (.tmp 28)⟩,
  ⟨some 30, some (27, false), .bin .lss (.tmp 29) (.const (.int .u64 (4294967296)))⟩,
  ⟨some 31, some (24, true), .pick (.tmp 27) (.const (.bool true)) (.tmp 30)⟩,
  ⟨some 32, none, .pick (.tmp 24) (.tmp 31) (.const (.bool false))⟩,
  ⟨some 33, none, .mov (.tmp 32)⟩,
  ⟨some 34, some (33, true), .faddr 8 (.tmp 1)⟩,
  ⟨some 35, some (33, true), .load1 (.tmp 34)⟩,
  ⟨some 36, some (33, true), .bin .geq (.tmp 35) (.const (.int .i64 (0)))⟩,
  ⟨some 37, none, .pick (.tmp 33) (.tmp 36) (.const (.bool false))⟩,
  ⟨some 38, none, .mov (.tmp 37)⟩,
  ⟨some 39, some (38, true), .faddr 8 (.tmp 1)⟩,
  ⟨some 40, some (38, true), .load1 (.tmp 39)⟩,
  ⟨some 41, some (38, true), .bin .leq (.tmp 40) (.const (.int .i64 (65535)))⟩,
  ⟨some 42, none, .pick (.tmp 38) (.tmp 41) (.const (.bool false))⟩,
  ⟨some 2, none, .mov (.tmp 42)⟩] { env := env, n := 43, dfs := [], A := A2 } Q' := by
    intro A2 env b Q' e2 g2 r1 r15 hb hk
    refine rdrest env A2 Q' x A.size b r1 r15 g2 fun env' h2 => hk env' ?_
    rw [h2, Ds.may_eq, hb]
  cases ha : x.hasAck
  · cases hm : x.hasMap
    · simp [g1, hl, y1, y4, ha, hm, undef]
      refine wE_intro ?_ ?_
      · simp only [List.all_cons, List.all_nil, chkOk, List.nil_append, List.cons_append, List.getElem?_cons_succ, List.getElem?_cons_zero]
        simp [Bx, g1, vbeq, vb, hl, ht]
      · refine fin A1 _ false _ e1 g1 (by simp) (by simp) (by rw [ha, hm]; rfl) fun env' h => ?_
        simp [h]
        exact hq A1 e1
    · simp [g1, hl, ht, y1, y4, ha, hm, undef]
      refine bare_ok A1 x _ fun A2 e2 => ?_
      have g2 := e2.get g1 id
      simp [eqD]
      refine wE_intro ?_ ?_
      · simp only [List.all_cons, List.all_nil, chkOk, List.nil_append, List.cons_append, List.getElem?_cons_succ, List.getElem?_cons_zero]
        simp [Bx, g1, g2, vbeq, vb, hl, ht]
      · refine fin A2 _ (decide (x = x.bare)) _ (e1.trans e2) g2 (by simp) (by simp) (by rw [ha, hm]; rfl) fun env' h => ?_
        simp [h]
        exact hq A2 (e1.trans e2)
  · simp [g1, hl, ht, y1, y4, ha, undef]
    refine bare_ok A1 x _ fun A2 e2 => ?_
    have g2 := e2.get g1 id
    simp [eqD]
    refine wE_intro ?_ ?_
    · simp only [List.all_cons, List.all_nil, chkOk, List.nil_append, List.cons_append, List.getElem?_cons_succ, List.getElem?_cons_zero]
      simp [Bx, g1, g2, vbeq, vb, hl, ht]
    · refine fin A2 _ (decide (x = x.bare)) _ (e1.trans e2) g2 (by simp) (by simp) (by rw [ha]; rfl) fun env' h => ?_
      simp [h]
      exact hq A2 (e1.trans e2)
theorem bit_ok (A : AHeap) (b : Bool) (n m : Nat) (hm : m = if b then n else 0) (Q : Value → AHeap → Prop) (hq : Q (.int .u64 (m : Nat)) A) : wF T (.func (.func 123) #[] #[]) [.bool b, .int .u64 (n : Nat)] A Q := by
  refine wF_func (first := []) (captured := []) t123 ⟨rfl, by decide⟩ ?_
  dsimp only [c123]
  subst hm
  cases b <;> simp <;> exact hq
theorem rwide_ok (A : AHeap) (b : Bool) (Q : Value → AHeap → Prop) (hq : Q (.int .i64 (wide b : Nat)) A) : wF T (.func (.func 124) #[] #[]) [.bool b] A Q := by
  refine wF_func (first := []) (captured := []) t124 ⟨rfl, by decide⟩ ?_
  dsimp only [c124]
  cases b <;> simp <;> exact hq
def dack (x : Ds) (s : List UInt8) : List UInt8 := s ++ (if x.hasAck then be x.ack (wide x.longAck) else [])
theorem rdv_ok (A0 A : AHeap) (x : Ds) (hw : x.W) (s : List UInt8) (hs : s.length < 900) (q : Nat) (env : Env) (Q : Value → AHeap → Prop) (g : A.get q = some (.cells x.cells false 0)) (r1 : env.rd 1 = .pointer (some ⟨q, 0, none⟩)) (r4 : env.rd 4 = .string ⟨⟨s⟩⟩) (ex : Ext NoB A0 A)
    (hq : ∀ A', Ext NoB A0 A' → Q (.tuple ⟨[.string ⟨⟨dfin x s⟩⟩, .int .i64 0]⟩) A') : wC T 70 none c70v { env := env, n := 68, dfs := [], A := A } (endF [.inl 2, .inl 3] Q) := by
  rw [Ds.cells_eq] at g
  dsimp only [c70v]
  have hsw : IntKind.u64.wrap (x.sum : Int) = x.sum := IntWalk.u64_in _ (by have := hw.sum; omega)
  cases h : x.hasSum
  · have := hq A ex
    simp only [dfin, h, Bool.false_eq_true, if_false, List.append_nil] at this
    simp [r1, r4, g, h]
    exact this
  · simp [r1, r4, g, h, hsw]
    refine laid_ok A x.sum 2 (by decide) _ fun A2 e2 => ?_
    have := hq A2 (ex.trans e2)
    simp only [dfin, h, if_true] at this
    simp [r4, be_len, show ¬ (9223372036854775807 : Int) < (s.length : Int) + 2 by omega]
    exact this
theorem rdu_ok (A0 A : AHeap) (x : Ds) (hw : x.W) (hm : x.may = true) (s : List UInt8) (hs : s.length < 800) (q : Nat) (env : Env) (Q : Value → AHeap → Prop) (g : A.get q = some (.cells x.cells false 0)) (r1 : env.rd 1 = .pointer (some ⟨q, 0, none⟩)) (r4 : env.rd 4 = .string ⟨⟨s⟩⟩) (ex : Ext NoB A0 A)
    (hq : ∀ A', Ext NoB A0 A' → Q (.tuple ⟨[.string ⟨⟨dfin x (dmap x s)⟩⟩, .int .i64 0]⟩) A') : wC T 70 none c70u { env := env, n := 68, dfs := [], A := A } (endF [.inl 2, .inl 3] Q) := by
  have g0 := g
  rw [Ds.cells_eq] at g
  dsimp only [c70u]
  cases h : x.hasMap
  · simp only [dmap, h, Bool.false_eq_true, if_false, List.append_nil] at hq
    simp [r1, r4, g, h]
    exact rdv_ok A0 A x hw s (by omega) q _ Q g0 (by simp [r1]) (by simp [r4]) ex hq
  · simp only [dmap, h, if_true] at hq
    have hml := hm
    simp only [Ds.may, Bool.and_eq_true, decide_eq_true_eq] at hml
    obtain ⟨-, hl1, hl2⟩ := hml
    obtain ⟨l, hl, hl3⟩ : ∃ n : Nat, x.len = n ∧ n < 65536 := ⟨x.len.toNat, by omega, by omega⟩
    rw [hl] at hq
    simp only [Int.toNat_natCast] at hq
    have hwd := wide_le x.longDsn
    have hsw : IntKind.u64.wrap (x.ssn : Int) = x.ssn := IntWalk.u64_in _ (by have := hw.ssn; omega)
    have hlw : IntKind.u64.wrap (l : Int) = l := IntWalk.u64_in _ (by omega)
    obtain ⟨w, hwe⟩ : ∃ w, w = wide x.longDsn := ⟨_, rfl⟩
    rw [← hwe] at hq hwd
    simp [r1, g, h]
    refine wC_opsD_chk ?_
    simp [r1, r4, g]
    refine rwide_ok _ _ _ ?_
    rw [← hwe]
    simp
    refine laid_ok A x.dsn w hwd _ fun A2 e2 => ?_
    have g2 := e2.get g id
    simp [r1, r4, g2, be_len, show ¬ (9223372036854775807 : Int) < (s.length : Int) + (w : Int) by omega, hsw]
    refine laid_ok A2 x.ssn 4 (by decide) _ fun A3 e3 => ?_
    have g3 := e3.get g2 id
    simp [r1, g3, be_len, show ¬ (9223372036854775807 : Int) < (s.length : Int) + ((w : Int) + 4) by omega, show ¬ (9223372036854775807 : Int) < (s.length : Int) + (w : Int) + 4 by omega, hl, hlw]
    refine laid_ok A3 l 2 (by decide) _ fun A4 e4 => ?_
    have g4 := e4.get g3 id
    simp [be_len, show ¬ (9223372036854775807 : Int) < (s.length : Int) + ((w : Int) + 6) by omega, show ¬ (9223372036854775807 : Int) < (s.length : Int) + ((w : Int) + 4) + 2 by omega, show ¬ (9223372036854775807 : Int) < (s.length : Int) + (w : Int) + 4 + 2 by omega]
    refine wE_intro ?_ ?_
    · simp only [List.all_cons, List.all_nil, chkOk, List.nil_append, List.cons_append, List.getElem?_cons_succ, List.getElem?_cons_zero]
      simp [Bx, g, g2, g3, g4, vbeq, hl, r1, r4]
    · simp
      refine rdv_ok A0 A4 x hw (s ++ (be x.dsn w ++ (be x.ssn 4 ++ be l 2))) (by simp [be_len]; omega) q _ Q (((e2.trans e3).trans e4).get g0 id) (by simp [r1]) (by simp) (ex.trans ((e2.trans e3).trans e4)) ?_
      simpa using hq
theorem rdt_ok (A0 A : AHeap) (x : Ds) (hw : x.W) (hm : x.may = true) (s : List UInt8) (hs : s.length < 700) (q : Nat) (env : Env) (Q : Value → AHeap → Prop) (g : A.get q = some (.cells x.cells false 0)) (r1 : env.rd 1 = .pointer (some ⟨q, 0, none⟩)) (r4 : env.rd 4 = .string ⟨⟨s⟩⟩) (ex : Ext NoB A0 A)
    (hq : ∀ A', Ext NoB A0 A' → Q (.tuple ⟨[.string ⟨⟨dfin x (dmap x (dack x s))⟩⟩, .int .i64 0]⟩) A') : wC T 70 none c70t { env := env, n := 68, dfs := [], A := A } (endF [.inl 2, .inl 3] Q) := by
  have g0 := g
  rw [Ds.cells_eq] at g
  dsimp only [c70t]
  cases h : x.hasAck
  · simp only [dack, h, Bool.false_eq_true, if_false, List.append_nil] at hq
    simp [r1, r4, g, h]
    exact rdu_ok A0 A x hw hm s (by omega) q _ Q g0 (by simp [r1]) (by simp [r4]) ex hq
  · simp only [dack, h, if_true] at hq
    have hwd := wide_le x.longAck
    obtain ⟨w, hwe⟩ : ∃ w, w = wide x.longAck := ⟨_, rfl⟩
    rw [← hwe] at hq hwd
    simp [r1, g, h]
    refine wC_opsD_chk ?_
    simp [r1, r4, g]
    refine rwide_ok _ _ _ ?_
    rw [← hwe]
    simp
    refine laid_ok A x.ack w hwd _ fun A2 e2 => ?_
    have g2 := e2.get g id
    simp [r1, r4, g2, be_len, show ¬ (9223372036854775807 : Int) < (s.length : Int) + (w : Int) by omega]
    refine wE_intro ?_ ?_
    · simp only [List.all_cons, List.all_nil, chkOk, List.nil_append, List.cons_append, List.getElem?_cons_succ, List.getElem?_cons_zero]
      simp [Bx, g, g2, vbeq, r1, r4]
    · simp
      exact rdu_ok A0 A2 x hw hm (s ++ be x.ack w) (by simp [be_len]; omega) q _ Q (e2.get g0 id) (by simp [r1]) (by simp) (ex.trans e2) hq
theorem rdenc_ok (A : AHeap) (x : Ds) (hw : x.W) (Q : Value → AHeap → Prop) (hq : ∀ A', Ext NoB A A' → Q (resE x.enc) A') : wF T (.func (.func 70) #[] #[]) [.agg ⟨x.cells⟩] A Q := by
  refine wF_func (first := []) (captured := []) t70 ⟨rfl, by decide⟩ ?_
  dsimp only [c70]
  have hc := Ds.cells_eq x
  simp [hc]
  generalize hA1 : A.alloc _ = A1
  obtain ⟨g1, e1, z1⟩ := alloc_facts hA1
  simp [g1]
  rw [← hc]
  refine rdmay_ok A1 x _ fun A2 e2 => ?_
  have g2 := e2.get g1 id
  have e12 := e1.trans e2
  cases hm : x.may
  · have := hq A2 e12
    rw [Ds.enc, hm] at this
    simp
    exact this
  have hq' : ∀ A', Ext NoB A A' → Q (.tuple ⟨[.string ⟨⟨x.body⟩⟩, .int .i64 0]⟩) A' := fun A' e => by
    have := hq A' e
    rwa [Ds.enc, hm] at this
  obtain ⟨m1, h1⟩ : ∃ m, m = (if x.hasAck then 1 else 0) := ⟨_, rfl⟩
  obtain ⟨m2, h2⟩ : ∃ m, m = (if x.longAck then 2 else 0) := ⟨_, rfl⟩
  obtain ⟨m3, h3⟩ : ∃ m, m = (if x.hasMap then 4 else 0) := ⟨_, rfl⟩
  obtain ⟨m4, h4⟩ : ∃ m, m = (if x.longDsn then 8 else 0) := ⟨_, rfl⟩
  obtain ⟨m5, h5⟩ : ∃ m, m = (if x.fin then 16 else 0) := ⟨_, rfl⟩
  have l1 : m1 ≤ 1 := by rw [h1]; split <;> omega
  have l2 : m2 ≤ 2 := by rw [h2]; split <;> omega
  have l3 : m3 ≤ 4 := by rw [h3]; split <;> omega
  have l4 : m4 ≤ 8 := by rw [h4]; split <;> omega
  have l5 : m5 ≤ 16 := by rw [h5]; split <;> omega
  have hbits : x.bits = m1 + m2 + m3 + m4 + m5 := by rw [h1, h2, h3, h4, h5]; rfl
  obtain ⟨s2, hs2⟩ : ∃ s, s = m1 + m2 := ⟨_, rfl⟩
  obtain ⟨s3, hs3⟩ : ∃ s, s = s2 + m3 := ⟨_, rfl⟩
  obtain ⟨s4, hs4⟩ : ∃ s, s = s3 + m4 := ⟨_, rfl⟩
  obtain ⟨s5, hs5⟩ : ∃ s, s = s4 + m5 := ⟨_, rfl⟩
  have w2 : IntKind.u64.wrap ((m1 : Int) + m2) = (s2 : Int) := by rw [IntWalk.u64_in _ (by omega)]; omega
  have w3 : IntKind.u64.wrap ((s2 : Int) + m3) = (s3 : Int) := by rw [IntWalk.u64_in _ (by omega)]; omega
  have w4 : IntKind.u64.wrap ((s3 : Int) + m4) = (s4 : Int) := by rw [IntWalk.u64_in _ (by omega)]; omega
  have w5 : IntKind.u64.wrap ((s4 : Int) + m5) = (s5 : Int) := by rw [IntWalk.u64_in _ (by omega)]; omega
  have hb : x.body = dfin x (dmap x (dack x ([32] ++ be s5 1))) := by
    rw [show s5 = x.bits by omega]
    simp only [Ds.body, dfin, dmap, dack]
  rw [hb] at hq'
  simp
  refine wC_opsD_chk ?_
  simp [g2]
  refine bit_ok _ x.hasAck 1 m1 h1 _ ?_
  simp [g2]
  refine bit_ok _ x.longAck 2 m2 h2 _ ?_
  simp [g2, w2]
  refine bit_ok _ x.hasMap 4 m3 h3 _ ?_
  simp [g2, w3]
  refine bit_ok _ x.longDsn 8 m4 h4 _ ?_
  simp [g2, w4]
  refine bit_ok _ x.fin 16 m5 h5 _ ?_
  simp [w5]
  refine laid_ok A2 s5 1 (by decide) _ fun A3 e3 => ?_
  have g3 := e3.get g2 id
  simp [be_len]
  refine wE_intro ?_ ?_
  · simp only [List.all_cons, List.all_nil, chkOk, List.nil_append, List.cons_append, List.getElem?_cons_succ, List.getElem?_cons_zero]
    simp [Bx, g2, g3, vbeq]
  · simp
    exact rdt_ok A A3 x hw hm ([32] ++ be s5 1) (by simp [be_len]) A.size _ Q g3 (by simp) (by simp) (e12.trans e3) hq'
end Go.Proofs.YtigknpfjhegkgaaGreat
