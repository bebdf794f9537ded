/- Drafts' options. -/
import Derived.Test.YtigknpfjhegkgaaGreatDoorDam
import Derived.KernelRfl
namespace Go.Proofs.YtigknpfjhegkgaaGreatDoor
open Go Go.AS
set_option maxRecDepth 100000
set_option linter.unusedSimpArgs false
set_option linter.unusedVariables false
attribute [local irreducible] Trie.set Trie.get Env.rd
attribute [local simp ↓] wV_b2s
attribute [local simp] Nat.add_assoc wD_cons'' wD_nil' wC_seq wC_ops wC_opsD_nil wC_cond wC_skip wC_ret wC_exit wC_block wO_cons' wO_nil wantedA wV_eq lop qop ev wL_some wL_none wPut envOf rd_set rd_leaf eqA thenC blockC wB_true wB_false endF unwindA resultsA resA tupleA rdCell rdCells wrCells cl fillP lay rep binA unA get_set' AHeap.get_alloc oneCell beqd bned idxA
attribute [local simp] wr0 wr1 wr2 wr3 wr4 wr5 wr6 wr7 wr8 wr9 wr10 wr11 wr12 wr13 wr14 wr15 wr16 wr17 wr18 wr19 wr20 wr21 wr22 wr23 wr24
attribute [local simp] Dr.e0 Dr.e1 Dr.e2 Dr.e3 Dr.e4 Dr.e5 Dr.e6 Dr.e7 Dr.e8 Dr.e9 Dr.g0 Dr.hd Dr.g1 Dr.g2 Dr.g3 Dr.g4 Dr.g5 Dr.g6 Dr.g7 Dr.g8 Dr.g9
theorem dad_ok (A : AHeap) (d : Dr) (hw : d.W) (Q : Value → AHeap → Prop) (hq : ∀ A', Ext NoB A A' → Q (.agg ⟨d.ad.cells⟩) A') : wF T (.func (.func 33) #[] #[]) [.agg ⟨d.cells⟩] A Q := by
  refine wF_func (first := []) (captured := []) t33 ⟨rfl, by decide⟩ ?_
  dsimp only [c33]
  have hl := d.len hw.bytes
  have y3 : IntKind.i64.wrap (d.id : Int) = d.id := IntWalk.i64_in _ (by have := hw.id; omega)
  have y4 : IntKind.i64.wrap (d.n : Int) = d.n := IntWalk.i64_in _ (by have := hw.n; omega)
  have bs : ∀ (B : AHeap) (j : Nat), B.get A.size = some (.cells d.cells false 0) → j ≤ 24 → b2s B (.slice (some ⟨A.size, 10, none⟩) j 24) = some (.string ⟨⟨d.bytes.take j⟩⟩) := fun B j g hj => d.b2s hw.bytes g 0 j 24 (by omega) (by omega)
  have bt : ∀ (B : AHeap), B.get A.size = some (.cells d.cells false 0) → b2s B (.slice (some ⟨A.size, 26, none⟩) 8 8) = some (.string ⟨⟨d.bytes.drop 16⟩⟩) := fun B g => by
    have := d.b2s hw.bytes g 16 8 8 (by omega) (by omega)
    rwa [List.take_of_length_le (by rw [List.length_drop, hw.bytes]; decide)] at this
  have s4 : sliceAA 24 1 (.pointer (some ⟨A.size, 10, none⟩)) none (some (.int .i64 4)) none = some (.slice (some ⟨A.size, 10, none⟩) 4 24) := slA A.size 10 4 .i64 (by decide)
  have s16 : sliceAA 24 1 (.pointer (some ⟨A.size, 10, none⟩)) none (some (.int .i64 16)) none = some (.slice (some ⟨A.size, 10, none⟩) 16 24) := slA A.size 10 16 .i64 (by decide)
  have sb : sliceAA 24 1 (.pointer (some ⟨A.size, 10, none⟩)) (some (.int .i64 16)) none none = some (.slice (some ⟨A.size, 26, none⟩) 8 8) := slB A.size 10 16 .i64 (by decide)
  generalize hA2 : (A.alloc (ABlk.cells d.cells false 0)).alloc (ABlk.cells [.bool false, .int .i64 0, .string ⟨⟨[]⟩⟩, .bool false, .int .i64 0, .string ⟨⟨[]⟩⟩] false 0) = A2
  have g1 : A2.get A.size = some (.cells d.cells false 0) := by subst hA2; simp
  have g2 : A2.get (A.size + 1) = some (.cells [.bool false, .int .i64 0, .string ⟨⟨[]⟩⟩, .bool false, .int .i64 0, .string ⟨⟨[]⟩⟩] false 0) := by subst hA2; simp
  have z2 : A2.size = A.size + 2 := by subst hA2; simp
  have e2 : Ext NoB A A2 := by subst hA2; (repeat first | exact Ext.refl | assumption | refine Ext.allocN ?_ | refine Ext.setN ?_ (by first | omega | (simp; done) | (simp; omega)))
  have b4 := bs A2 4 g1 (by decide)
  simp [hl, y3, s4]
  rw [hA2]
  simp [hl, g1, b4, z2]
  generalize hB : AHeap.set _ _ _ = B
  have b1 : B.get A.size = some (.cells d.cells false 0) := by subst hB; simp [g1, z2]
  have b2 : B.get (A.size + 1) = some (.cells [.bool false, .int .i64 0, .string ⟨⟨[]⟩⟩, .bool false, .int .i64 0, .string ⟨⟨[]⟩⟩] false 0) := by subst hB; simp [g2, z2]
  have b3 : B.get (A.size + 2) = some (.cells [.bool d.f0, .int .i64 (d.id : Nat), .string ⟨⟨d.bytes.take 4⟩⟩, .bool d.f2, .int .i64 0, .string ⟨⟨[]⟩⟩] false 0) := by subst hB; simp [z2]
  have eb : Ext NoB A B := by subst hB; have := e2.size; (repeat first | exact Ext.refl | assumption | refine Ext.allocN ?_ | refine Ext.setN ?_ (by first | omega | (simp; done) | (simp; omega)))
  have lb := AHeap.get_lt b3
  have c16 := bs B 16 b1 (by decide)
  have go : ∀ (C : AHeap) (env : Env) (ip : List UInt8), ip = (if d.f1 then d.bytes.take 16 else d.bytes.take 4) → C.get A.size = some (.cells d.cells false 0) → C.get (A.size + 1) = some (.cells [.bool false, .int .i64 0, .string ⟨⟨[]⟩⟩, .bool false, .int .i64 0, .string ⟨⟨[]⟩⟩] false 0) → C.get (A.size + 2) = some (.cells [.bool d.f0, .int .i64 (d.id : Nat), .string ⟨⟨ip⟩⟩, .bool d.f2, .int .i64 0, .string ⟨⟨[]⟩⟩] false 0) → Ext NoB A C →
      env.rd 1 = .pointer (some ⟨A.size, 0, none⟩) → env.rd 2 = .pointer (some ⟨A.size + 1, 0, none⟩) → env.rd 3 = .pointer (some ⟨A.size + 2, 0, none⟩) → wC T 33 none c33t { env := env, n := 38, dfs := [], A := C } (endF [.inr (2, 6, true)] Q) := by
    intro C env ip hip c1 c2 c3 ec r1 r2 r3
    have l2 := AHeap.get_lt c2
    have l3 := AHeap.get_lt c3
    dsimp only [c33t]
    cases h2 : d.f2
    · have bD := bt C c1
      cases h0 : d.f0
      · rw [Dr.ad, ← hip, h0, h2] at hq
        simp [r1, r2, r3, c1, c2, c3, l2, l3, h0, h2, hl, sb, bD]
        exact hq _ (by (repeat first | exact Ext.refl | assumption | refine Ext.allocN ?_ | refine Ext.setN ?_ (by first | omega | (simp; done) | (simp; omega))))
      · rw [Dr.ad, ← hip, h0, h2] at hq
        simp [r1, r2, r3, c1, c2, c3, l2, l3, h0, h2, hl]
        exact hq _ (by (repeat first | exact Ext.refl | assumption | refine Ext.allocN ?_ | refine Ext.setN ?_ (by first | omega | (simp; done) | (simp; omega))))
    · cases h0 : d.f0
      · rw [Dr.ad, ← hip, h0, h2] at hq
        rw [h0] at c3
        simp [r1, r2, r3, c1, c2, c3, l2, l3, h0, h2, hl, y4, sb]
        generalize hD : AHeap.set _ _ _ = D
        have d1 : D.get A.size = some (.cells d.cells false 0) := by subst hD; simp [c1]
        have d2 : D.get (A.size + 1) = some (.cells [.bool false, .int .i64 0, .string ⟨⟨[]⟩⟩, .bool false, .int .i64 0, .string ⟨⟨[]⟩⟩] false 0) := by subst hD; simp [c2]
        have d3 : D.get (A.size + 2) = some (.cells [.bool false, .int .i64 (d.id : Nat), .string ⟨⟨ip⟩⟩, .bool true, .int .i64 (d.n : Nat), .string ⟨⟨[]⟩⟩] false 0) := by subst hD; simp [l3]
        have ed : Ext NoB A D := by subst hD; (repeat first | exact Ext.refl | assumption | refine Ext.allocN ?_ | refine Ext.setN ?_ (by first | omega | (simp; done) | (simp; omega)))
        have bD := bt D d1
        have ld2 := AHeap.get_lt d2
        have ld3 := AHeap.get_lt d3
        simp [r1, r2, r3, bD, d1, d2, d3, ld2, ld3]
        exact hq _ (by (repeat first | exact Ext.refl | assumption | refine Ext.allocN ?_ | refine Ext.setN ?_ (by first | omega | (simp; done) | (simp; omega))))
      · rw [Dr.ad, ← hip, h0, h2] at hq
        simp [r1, r2, r3, c1, c2, c3, l2, l3, h0, h2, hl, y4]
        exact hq _ (by (repeat first | exact Ext.refl | assumption | refine Ext.allocN ?_ | refine Ext.setN ?_ (by first | omega | (simp; done) | (simp; omega))))
  cases h1 : d.f1
  · simp
    exact go B _ _ (by rw [h1]; rfl) b1 b2 b3 eb (by simp) (by simp) (by simp)
  · simp [s16, c16, b3, lb]
    generalize hC : AHeap.set _ _ _ = C
    exact go C _ (d.bytes.take 16) (by rw [h1]; rfl) (by subst hC; simp [b1]) (by subst hC; simp [b2]) (by subst hC; simp [lb]) (by subst hC; (repeat first | exact Ext.refl | assumption | refine Ext.allocN ?_ | refine Ext.setN ?_ (by first | omega | (simp; done) | (simp; omega)))) (by simp) (by simp) (by simp)
attribute [local simp] Op.len Op.one Cap.ln Jn.len Ds.ln Ad.len Cap.one Jn.one Ds.one Ad.one Op.take Op.at0 Op.head? Op.getCap Op.tCap Op.getJn Op.getDs Op.getAd Op.getIds Op.getPrio Op.getFail Op.getFast Op.getRst Op.putCap Op.putJn Op.putDs Op.putAd Op.putSub Op.putIds Op.putPrio Op.putFail Op.putFast Op.putRf Op.putRr Op.layAll Op.zeroC
theorem dopt_ok (A : AHeap) (d : Dr) (hw : d.W) (Q : Value → AHeap → Prop) (hq : ∀ A', Ext NoB A A' → Q (.agg ⟨d.opt.cells⟩) A') : wF T (.func (.func 11) #[] #[]) [.agg ⟨d.cells⟩] A Q := by
  refine wF_func (first := []) (captured := []) t11 ⟨rfl, by decide⟩ ?_
  dsimp only [c11]
  have hl := d.len hw.bytes
  have ht := d.take hw.bytes
  have y1 : (d.sub : Int).tmod 9 = ((d.sub % 9 : Nat) : Int) := tmodN _ 9
  have y2 : (d.what : Int).tmod 24 = ((d.what % 24 : Nat) : Int) := tmodN _ 24
  have y3 : (d.id : Int).tmod 16 = ((d.id % 16 : Nat) : Int) := tmodN _ 16
  obtain ⟨j, hj⟩ : ∃ j, j = d.what % 24 := ⟨_, rfl⟩
  obtain ⟨i, hi⟩ : ∃ i, i = d.id % 16 := ⟨_, rfl⟩
  obtain ⟨j1, hj1⟩ : ∃ j1, j1 = 1 + j := ⟨_, rfl⟩
  rw [← hj] at y2
  rw [← hi] at y3
  have y4 : IntKind.u8.wrap (1 + (j : Int)) = (j1 : Nat) := by rw [IntWalk.u8_in _ (by omega)]; omega
  have y5 : IntKind.i64.wrap (i : Int) = (i : Nat) := IntWalk.i64_in _ (by omega)
  have y6 : IntKind.i64.wrap (d.what : Int) = d.what := IntWalk.i64_in _ (by have := hw.what; omega)
  have sj : sliceAA 24 1 (.pointer (some ⟨A.size, 10, none⟩)) none (some (.int .u8 (j1 : Nat))) none = some (.slice (some ⟨A.size, 10, none⟩) j1 24) := slA A.size 10 j1 .u8 (by omega)
  have bs : ∀ (B : AHeap), B.get A.size = some (.cells d.cells false 0) → b2s B (.slice (some ⟨A.size, 10, none⟩) j1 24) = some (.string ⟨⟨d.bytes.take j1⟩⟩) := fun B g => d.b2s hw.bytes g 0 j1 24 (by omega) (by omega)
  have hk : d.sub % 9 = 0 ∨ d.sub % 9 = 1 ∨ d.sub % 9 = 2 ∨ d.sub % 9 = 3 ∨ d.sub % 9 = 4 ∨ d.sub % 9 = 5 ∨ d.sub % 9 = 6 ∨ d.sub % 9 = 7 ∨ d.sub % 9 = 8 := by omega
  rcases hk with k | k | k | k | k | k | k | k | k
  · have hh : d.opt = { Op.only 0 with cap := d.cap } := by simp [Dr.opt, k]
    rw [hh] at hq
    rw [k] at y1
    simp [hl, ht, y1]
    generalize hB : AHeap.set _ _ _ = B
    have b1 : B.get A.size = some (.cells d.cells false 0) := by subst hB; simp
    have b2 : B.get (A.size + 1) = some (.cells Op.zero.cells false 0) := by subst hB; simp
    have b3 : B.get (A.size + 2) = some (.cells (Op.only 0).cells false 0) := by subst hB; simp; rfl
    have eb : Ext NoB A B := by subst hB; (repeat first | exact Ext.refl | assumption | refine Ext.allocN ?_ | refine Ext.setN ?_ (by first | omega | (simp; done) | (simp; omega)))
    refine dcap_ok B d hw _ fun C e => ?_
    have c2 := e.get b2 id
    have c3 := e.get b3 id
    have l2 := AHeap.get_lt c2
    have l3 := AHeap.get_lt c3
    have ec := eb.trans e
    simp [c2, c3, l2, l3]
    exact hq _ (by have := ec.size; (repeat first | exact Ext.refl | assumption | refine Ext.allocN ?_ | refine Ext.setN ?_ (by first | omega | (simp; done) | (simp; omega))))
  · have hh : d.opt = { Op.only 1 with jn := d.jn } := by simp [Dr.opt, k]
    rw [hh] at hq
    rw [k] at y1
    simp [hl, ht, y1]
    generalize hB : AHeap.set _ _ _ = B
    have b1 : B.get A.size = some (.cells d.cells false 0) := by subst hB; simp
    have b2 : B.get (A.size + 1) = some (.cells Op.zero.cells false 0) := by subst hB; simp
    have b3 : B.get (A.size + 2) = some (.cells (Op.only 1).cells false 0) := by subst hB; simp; rfl
    have eb : Ext NoB A B := by subst hB; (repeat first | exact Ext.refl | assumption | refine Ext.allocN ?_ | refine Ext.setN ?_ (by first | omega | (simp; done) | (simp; omega)))
    refine djn_ok B d hw _ fun C e => ?_
    have c2 := e.get b2 id
    have c3 := e.get b3 id
    have l2 := AHeap.get_lt c2
    have l3 := AHeap.get_lt c3
    have ec := eb.trans e
    simp [c2, c3, l2, l3]
    exact hq _ (by have := ec.size; (repeat first | exact Ext.refl | assumption | refine Ext.allocN ?_ | refine Ext.setN ?_ (by first | omega | (simp; done) | (simp; omega))))
  · have hh : d.opt = { Op.only 2 with ds := d.ds } := by simp [Dr.opt, k]
    rw [hh] at hq
    rw [k] at y1
    simp [hl, ht, y1]
    generalize hB : AHeap.set _ _ _ = B
    have b1 : B.get A.size = some (.cells d.cells false 0) := by subst hB; simp
    have b2 : B.get (A.size + 1) = some (.cells Op.zero.cells false 0) := by subst hB; simp
    have b3 : B.get (A.size + 2) = some (.cells (Op.only 2).cells false 0) := by subst hB; simp; rfl
    have eb : Ext NoB A B := by subst hB; (repeat first | exact Ext.refl | assumption | refine Ext.allocN ?_ | refine Ext.setN ?_ (by first | omega | (simp; done) | (simp; omega)))
    refine dds_ok B d hw _ fun C e => ?_
    have c2 := e.get b2 id
    have c3 := e.get b3 id
    have l2 := AHeap.get_lt c2
    have l3 := AHeap.get_lt c3
    have ec := eb.trans e
    simp [c2, c3, l2, l3]
    exact hq _ (by have := ec.size; (repeat first | exact Ext.refl | assumption | refine Ext.allocN ?_ | refine Ext.setN ?_ (by first | omega | (simp; done) | (simp; omega))))
  · have hh : d.opt = { Op.only 3 with ad := d.ad } := by simp [Dr.opt, k]
    rw [hh] at hq
    rw [k] at y1
    simp [hl, ht, y1]
    generalize hB : AHeap.set _ _ _ = B
    have b1 : B.get A.size = some (.cells d.cells false 0) := by subst hB; simp
    have b2 : B.get (A.size + 1) = some (.cells Op.zero.cells false 0) := by subst hB; simp
    have b3 : B.get (A.size + 2) = some (.cells (Op.only 3).cells false 0) := by subst hB; simp; rfl
    have eb : Ext NoB A B := by subst hB; (repeat first | exact Ext.refl | assumption | refine Ext.allocN ?_ | refine Ext.setN ?_ (by first | omega | (simp; done) | (simp; omega)))
    refine dad_ok B d hw _ fun C e => ?_
    have c2 := e.get b2 id
    have c3 := e.get b3 id
    have l2 := AHeap.get_lt c2
    have l3 := AHeap.get_lt c3
    have ec := eb.trans e
    simp [c2, c3, l2, l3]
    exact hq _ (by have := ec.size; (repeat first | exact Ext.refl | assumption | refine Ext.allocN ?_ | refine Ext.setN ?_ (by first | omega | (simp; done) | (simp; omega))))
  · have hh : d.opt = { Op.only 4 with ids := d.bytes.take j1 } := by simp [Dr.opt, k, hj1, hj]
    rw [hh] at hq
    rw [k] at y1
    simp [hl, y1, y2, y4, sj]
    generalize hB : AHeap.set _ _ _ = B
    have b1 : B.get A.size = some (.cells d.cells false 0) := by subst hB; simp
    have b2 : B.get (A.size + 1) = some (.cells Op.zero.cells false 0) := by subst hB; simp
    have b3 : B.get (A.size + 2) = some (.cells (Op.only 4).cells false 0) := by subst hB; simp; rfl
    have eb : Ext NoB A B := by subst hB; (repeat first | exact Ext.refl | assumption | refine Ext.allocN ?_ | refine Ext.setN ?_ (by first | omega | (simp; done) | (simp; omega)))
    have bb := bs B b1
    have l2 := AHeap.get_lt b2
    have l3 := AHeap.get_lt b3
    simp [bb, b2, b3, l2, l3]
    exact hq _ (by (repeat first | exact Ext.refl | assumption | refine Ext.allocN ?_ | refine Ext.setN ?_ (by first | omega | (simp; done) | (simp; omega))))
  · have hh : d.opt = { Op.only 5 with prio := d.f0 } := by simp [Dr.opt, k]
    rw [hh] at hq
    rw [k] at y1
    simp [hl, y1, y3, y5, y6]
    exact hq _ (by (repeat first | exact Ext.refl | assumption | refine Ext.allocN ?_ | refine Ext.setN ?_ (by first | omega | (simp; done) | (simp; omega))))
  · have hh : d.opt = { Op.only 6 with fail := d.a } := by simp [Dr.opt, k]
    rw [hh] at hq
    rw [k] at y1
    simp [hl, y1, y3, y5, y6]
    exact hq _ (by (repeat first | exact Ext.refl | assumption | refine Ext.allocN ?_ | refine Ext.setN ?_ (by first | omega | (simp; done) | (simp; omega))))
  · have hh : d.opt = { Op.only 7 with fast := d.a } := by simp [Dr.opt, k]
    rw [hh] at hq
    rw [k] at y1
    simp [hl, y1, y3, y5, y6]
    exact hq _ (by (repeat first | exact Ext.refl | assumption | refine Ext.allocN ?_ | refine Ext.setN ?_ (by first | omega | (simp; done) | (simp; omega))))
  · have hh : d.opt = { Op.only 8 with rf := (i : Nat), rr := (d.what : Nat) } := by simp [Dr.opt, k, hi]
    rw [hh] at hq
    rw [k] at y1
    simp [hl, y1, y3, y5, y6]
    exact hq _ (by (repeat first | exact Ext.refl | assumption | refine Ext.allocN ?_ | refine Ext.setN ?_ (by first | omega | (simp; done) | (simp; omega))))
end Go.Proofs.YtigknpfjhegkgaaGreatDoor
