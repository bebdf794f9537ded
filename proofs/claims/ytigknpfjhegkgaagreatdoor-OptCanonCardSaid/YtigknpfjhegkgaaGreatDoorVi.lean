/- The small options, read; a body that is none is a panic that is caught. -/
import Derived.Test.YtigknpfjhegkgaaGreatDoorVh
import Derived.KernelRfl
namespace Go.Proofs.YtigknpfjhegkgaaGreatDoor
open Go Go.AS
set_option maxRecDepth 100000
set_option linter.unusedSimpArgs false
set_option linter.unusedVariables false
attribute [local irreducible] Trie.set Trie.get Env.rd
attribute [local simp ↓] wV_b2s
attribute [local simp] Nat.add_assoc wD_cons'' wD_nil' wC_seq wC_ops wC_opsD_nil wC_cond wC_skip wC_ret wC_exit wC_block wO_cons' wO_nil wantedA wV_eq lop qop ev wL_some wL_none wPut envOf rd_set rd_leaf eqA thenC blockC wB_true wB_false endF unwindA resultsA resA tupleA rdCell rdCells wrCells cl fillP lay rep bi_eql bi_neq bi_lss bi_leq bi_gtr bi_geq bi_add bi_sub bs_eql bs_neq bi_shr4 unA get_set' AHeap.get_alloc oneCell beqd bned idxA

/-- What a small option's body is read as, by what reads behind its first byte. -/
def smallR (k : Nat) (z : List Value) (f : Nat → Cur → List Value × Cur) : List UInt8 → Value
  | [] => .tuple ⟨[.agg ⟨z⟩, .int .i64 4]⟩
  | a :: t => if a.toNat / 16 ≠ k then .tuple ⟨[.agg ⟨z⟩, .int .i64 7]⟩ else
      if (f (a.toNat % 16) ⟨a :: t, 1, false⟩).2.end_ = 0 then .tuple ⟨[.agg ⟨(f (a.toNat % 16) ⟨a :: t, 1, false⟩).1⟩, .int .i64 0]⟩ else .tuple ⟨[.agg ⟨z⟩, .int .i64 (f (a.toNat % 16) ⟨a :: t, 1, false⟩).2.end_]⟩

theorem q149_ok (B : AHeap) (q : Nat) (v : Value) (e : Int) (x : List Value) (hx : x.length = 1) (b6 : B.get q = some (.cells x false 0)) (b7 : B.get (q + 1) = some (.cells [.int .i64 0] false 0)) (b8 : B.get (q + 2) = some (.cells [.bool false] false 0)) (hv : (v = .nilIface) ∨ v = .iface 241 (.agg ⟨[.int .i64 e]⟩)) (K : AExit → St → Prop)
    (h1 : v = .nilIface → ∀ env n, K .normal ⟨env, n, [], B⟩) (h2 : v = .iface 241 (.agg ⟨[.int .i64 e]⟩) → ∀ env n C, C.get q = some (.cells [.bool false] false 0) → C.get (q + 1) = some (.cells [.int .i64 e] false 0) → Ext (fun j => q ≤ j) B C → K .normal ⟨env, n, [], C⟩) :
    wC T 171 none q149 { env := envG [.pointer (some ⟨q + 2, 0, none⟩), .pointer (some ⟨q, 0, none⟩), .pointer (some ⟨q + 1, 0, none⟩)] 4 3 v, n := 11, dfs := [], A := B } K := by
  dsimp only [q149]
  have l6 := AHeap.get_lt b6
  have l7 := AHeap.get_lt b7
  rcases hv with rfl | rfl
  · simp [envG]
    exact h1 rfl _ _
  · simp [envG, b6, b7, b8, l6, l7, hx]
    refine h2 rfl _ _ _ ?_ ?_ ?_
    · match x, hx with
      | [x0], _ => simp [l6]
    · simp [l7]
    · exact (Ext.set (by simp)).trans (Ext.set (by simp))
theorem small149_ok (A : AHeap) (s : List UInt8) (k : Nat) (hk : k < 16) (rest : Value) (f : Nat → Cur → List Value × Cur) (hf : ∀ m c, (f m c).1.length = 1 ∧ (f m c).1.all oneCell = true)
    (hr : ∀ (B : AHeap) (m p : Nat) (c : Cur), m < 16 → CurAt B p c → ∀ R : Value → AHeap → Prop, (∀ B', CurAt B' p (f m c).2 → Ext (fun j => j = p) B B' → R (.agg ⟨(f m c).1⟩) B') → wF T rest [.int .u8 (m : Nat), .pointer (some ⟨p, 0, none⟩)] B R)
    (hs : s.length < 1000000) (Q : Value → AHeap → Prop) (hq : ∀ A', Ext NoB A A' → Q (smallR k [.bool false] f s) A') : wF T (.func (.func 149) #[] #[]) [.string ⟨⟨s⟩⟩, .int .i64 (k : Nat), rest] A Q := by
  refine wF_func (first := []) (captured := []) t149 ⟨rfl, by decide⟩ ?_
  dsimp only [s149]
  simp
  generalize hB : AHeap.alloc _ _ = B
  have b6 : B.get A.size = some (.cells [.bool false] false 0) := by subst hB; simp
  have b7 : B.get (A.size + 1) = some (.cells [.int .i64 0] false 0) := by subst hB; simp
  have b8 : B.get (A.size + 2) = some (.cells [.bool false] false 0) := by subst hB; simp
  have zB : B.size = A.size + 3 := by subst hB; simp
  have eB : Ext NoB A B := by subst hB; (repeat first | exact Ext.refl | assumption | refine Ext.allocN ?_ | refine Ext.setN ?_ (by first | omega | (simp; done) | (simp; omega)))
  refine wC_guarded [.pointer (some ⟨A.size + 2, 0, none⟩), .pointer (some ⟨A.size, 0, none⟩), .pointer (some ⟨A.size + 1, 0, none⟩)] (by simp [capsG]) (by simp) ?_
  have over : ∀ {C D : AHeap}, Ext NoB A C → Ext (fun j => A.size ≤ j) C D → Ext NoB A D := fun h1 h2 => h1.trans2 h2 fun b hb hs => absurd hs (by omega)
  dsimp only [i149]
  match s, hs, hq with
  | [], hs, hq =>
    simp [valG]
    refine q149_ok B A.size _ 4 [.bool false] rfl b6 b7 b8 (.inr rfl) _ (fun h => by cases h) fun _ env n C c6 c7 eC => ?_
    simp [c6, c7]
    exact hq _ (over eB eC)
  | a :: t, hs, hq =>
    have ha := a.toNat_lt
    simp
    refine Read_ok B (a :: t) hs _ fun D p hp eD lp => ?_
    have d6 := eD.get b6 id
    have d7 := eD.get b7 id
    have d8 := eD.get b8 id
    simp
    refine U8_ok D p _ hp _ fun E ec eE => ?_
    have e6 := eE.get d6 (by omega)
    have e7 := eE.get d7 (by omega)
    have e8 := eE.get d8 (by omega)
    have eeE := (eB.trans eD).past eE (by omega)
    have k1 : (⟨a :: t, 0, false⟩ : Cur).go 1 = ⟨a :: t, 1, false⟩ := (Cur.go_ok (c := ⟨a :: t, 0, false⟩) (n := 1) rfl (by simp)).1
    have k2 : (⟨a :: t, 0, false⟩ : Cur).got 1 = [a] := (Cur.go_ok (c := ⟨a :: t, 0, false⟩) (n := 1) rfl (by simp)).2
    rw [k1] at ec
    rw [k2]
    simp only [val_one]
    have wa : IntKind.i64.wrap ((a.toNat : Int) / 16) = (a.toNat : Int) / 16 := IntWalk.i64_in _ (by omega)
    by_cases h0 : a.toNat / 16 ≠ k
    · have y0 : ¬ (a.toNat : Int) / 16 = (k : Int) := by omega
      simp only [smallR, if_pos h0] at hq
      simp [wa, y0, valG]
      refine q149_ok E A.size _ 7 [.bool false] rfl e6 e7 e8 (.inr rfl) _ (fun h => by cases h) fun _ env n C c6 c7 eC => ?_
      simp [c6, c7]
      exact hq _ (over eeE eC)
    have y0 : (a.toNat : Int) / 16 = (k : Int) := by omega
    simp only [smallR, if_neg h0] at hq
    have m15 := bm15 a
    have wk : IntKind.i64.wrap (k : Int) = k := IntWalk.i64_in _ (by omega)
    have hf1 := hf (a.toNat % 16) ⟨a :: t, 1, false⟩
    have hr1 := hr E (a.toNat % 16) p ⟨a :: t, 1, false⟩ (by omega) ec
    generalize a.toNat % 16 = m at hq m15 hf1 hr1
    generalize f m ⟨a :: t, 1, false⟩ = fr at hq hf1 hr1
    obtain ⟨x, c⟩ := fr
    simp only at hq hf1 hr1
    obtain ⟨hx, hx1⟩ := hf1
    simp [wa, wk, y0, m15]
    refine hr1 _ fun F fc eF => ?_
    have f6 := eF.get e6 (by omega)
    have f7 := eF.get e7 (by omega)
    have f8 := eF.get e8 (by omega)
    have eeF := eeE.past eF (by omega)
    have l6 := AHeap.get_lt f6
    have ly : AS.lay [.bool false] 0 x = x := by
      match x, hx with
      | [x0], _ => rfl
    simp [f6, l6, hx, hx1, ly]
    generalize hG : AHeap.set _ _ _ = G
    have eG : Ext (fun j => j = A.size) F G := by subst hG; exact Ext.set rfl
    have g6 : G.get A.size = some (.cells x false 0) := by
      subst hG
      match x, hx with
      | [x0], _ => simp [l6]
    have g7 := eG.get f7 (by omega)
    have g8 := eG.get f8 (by omega)
    have eeG := eeF.past eG (Nat.le_refl _)
    have l6' := AHeap.get_lt g6
    have l7' := AHeap.get_lt g7
    refine End_ok G p c (fc.ext eG (by omega)) _ ?_
    rcases end_cases c with h | h | h
    · rw [if_pos h] at hq
      match x, hx, hx1, g6 with
      | [x0], _, hx1, g6 =>
        simp at hx1
        simp [h, hx1, g6, g7, l6', l7', valG]
        generalize hH : AHeap.set _ _ _ = H
        have h6 : H.get A.size = some (.cells [x0] false 0) := by subst hH; simp [l6', g6]
        have h7 : H.get (A.size + 1) = some (.cells [.int .i64 0] false 0) := by subst hH; simp [l7', g7]
        have h8 : H.get (A.size + 2) = some (.cells [.bool false] false 0) := by subst hH; simp [g8]
        have eH : Ext (fun j => A.size ≤ j) G H := by subst hH; first | exact ((Ext.set (by simp)).trans (Ext.set (by simp))).trans (Ext.set (by simp)) | exact (Ext.set (by simp)).trans (Ext.set (by simp))
        refine q149_ok H A.size _ 0 [x0] rfl h6 h7 h8 (.inl rfl) _ (fun _ env n => ?_) fun h => by cases h
        simp [h6, h7]
        exact hq _ (over eeG eH)
    all_goals
      rw [if_neg (by omega), h] at hq
      simp [h, valG]
      refine q149_ok G A.size _ _ x hx g6 g7 g8 (.inr rfl) _ (fun h => by cases h) fun _ env n C c6 c7 eC => ?_
      simp [c6, c7]
      exact hq _ (over eeG eC)

theorem q152_ok (B : AHeap) (q : Nat) (v : Value) (e : Int) (x : List Value) (hx : x.length = 1) (b6 : B.get q = some (.cells x false 0)) (b7 : B.get (q + 1) = some (.cells [.int .i64 0] false 0)) (b8 : B.get (q + 2) = some (.cells [.int .u64 0] false 0)) (hv : (v = .nilIface) ∨ v = .iface 241 (.agg ⟨[.int .i64 e]⟩)) (K : AExit → St → Prop)
    (h1 : v = .nilIface → ∀ env n, K .normal ⟨env, n, [], B⟩) (h2 : v = .iface 241 (.agg ⟨[.int .i64 e]⟩) → ∀ env n C, C.get q = some (.cells [.int .u64 0] false 0) → C.get (q + 1) = some (.cells [.int .i64 e] false 0) → Ext (fun j => q ≤ j) B C → K .normal ⟨env, n, [], C⟩) :
    wC T 172 none q152 { env := envG [.pointer (some ⟨q + 2, 0, none⟩), .pointer (some ⟨q, 0, none⟩), .pointer (some ⟨q + 1, 0, none⟩)] 4 3 v, n := 11, dfs := [], A := B } K := by
  dsimp only [q152]
  have l6 := AHeap.get_lt b6
  have l7 := AHeap.get_lt b7
  rcases hv with rfl | rfl
  · simp [envG]
    exact h1 rfl _ _
  · simp [envG, b6, b7, b8, l6, l7, hx]
    refine h2 rfl _ _ _ ?_ ?_ ?_
    · match x, hx with
      | [x0], _ => simp [l6]
    · simp [l7]
    · exact (Ext.set (by simp)).trans (Ext.set (by simp))
theorem small152_ok (A : AHeap) (s : List UInt8) (k : Nat) (hk : k < 16) (rest : Value) (f : Nat → Cur → List Value × Cur) (hf : ∀ m c, (f m c).1.length = 1 ∧ (f m c).1.all oneCell = true)
    (hr : ∀ (B : AHeap) (m p : Nat) (c : Cur), m < 16 → CurAt B p c → ∀ R : Value → AHeap → Prop, (∀ B', CurAt B' p (f m c).2 → Ext (fun j => j = p) B B' → R (.agg ⟨(f m c).1⟩) B') → wF T rest [.int .u8 (m : Nat), .pointer (some ⟨p, 0, none⟩)] B R)
    (hs : s.length < 1000000) (Q : Value → AHeap → Prop) (hq : ∀ A', Ext NoB A A' → Q (smallR k [.int .u64 0] f s) A') : wF T (.func (.func 152) #[] #[]) [.string ⟨⟨s⟩⟩, .int .i64 (k : Nat), rest] A Q := by
  refine wF_func (first := []) (captured := []) t152 ⟨rfl, by decide⟩ ?_
  dsimp only [s152]
  simp
  generalize hB : AHeap.alloc _ _ = B
  have b6 : B.get A.size = some (.cells [.int .u64 0] false 0) := by subst hB; simp
  have b7 : B.get (A.size + 1) = some (.cells [.int .i64 0] false 0) := by subst hB; simp
  have b8 : B.get (A.size + 2) = some (.cells [.int .u64 0] false 0) := by subst hB; simp
  have zB : B.size = A.size + 3 := by subst hB; simp
  have eB : Ext NoB A B := by subst hB; (repeat first | exact Ext.refl | assumption | refine Ext.allocN ?_ | refine Ext.setN ?_ (by first | omega | (simp; done) | (simp; omega)))
  refine wC_guarded [.pointer (some ⟨A.size + 2, 0, none⟩), .pointer (some ⟨A.size, 0, none⟩), .pointer (some ⟨A.size + 1, 0, none⟩)] (by simp [capsG]) (by simp) ?_
  have over : ∀ {C D : AHeap}, Ext NoB A C → Ext (fun j => A.size ≤ j) C D → Ext NoB A D := fun h1 h2 => h1.trans2 h2 fun b hb hs => absurd hs (by omega)
  dsimp only [i152]
  match s, hs, hq with
  | [], hs, hq =>
    simp [valG]
    refine q152_ok B A.size _ 4 [.int .u64 0] rfl b6 b7 b8 (.inr rfl) _ (fun h => by cases h) fun _ env n C c6 c7 eC => ?_
    simp [c6, c7]
    exact hq _ (over eB eC)
  | a :: t, hs, hq =>
    have ha := a.toNat_lt
    simp
    refine Read_ok B (a :: t) hs _ fun D p hp eD lp => ?_
    have d6 := eD.get b6 id
    have d7 := eD.get b7 id
    have d8 := eD.get b8 id
    simp
    refine U8_ok D p _ hp _ fun E ec eE => ?_
    have e6 := eE.get d6 (by omega)
    have e7 := eE.get d7 (by omega)
    have e8 := eE.get d8 (by omega)
    have eeE := (eB.trans eD).past eE (by omega)
    have k1 : (⟨a :: t, 0, false⟩ : Cur).go 1 = ⟨a :: t, 1, false⟩ := (Cur.go_ok (c := ⟨a :: t, 0, false⟩) (n := 1) rfl (by simp)).1
    have k2 : (⟨a :: t, 0, false⟩ : Cur).got 1 = [a] := (Cur.go_ok (c := ⟨a :: t, 0, false⟩) (n := 1) rfl (by simp)).2
    rw [k1] at ec
    rw [k2]
    simp only [val_one]
    have wa : IntKind.i64.wrap ((a.toNat : Int) / 16) = (a.toNat : Int) / 16 := IntWalk.i64_in _ (by omega)
    by_cases h0 : a.toNat / 16 ≠ k
    · have y0 : ¬ (a.toNat : Int) / 16 = (k : Int) := by omega
      simp only [smallR, if_pos h0] at hq
      simp [wa, y0, valG]
      refine q152_ok E A.size _ 7 [.int .u64 0] rfl e6 e7 e8 (.inr rfl) _ (fun h => by cases h) fun _ env n C c6 c7 eC => ?_
      simp [c6, c7]
      exact hq _ (over eeE eC)
    have y0 : (a.toNat : Int) / 16 = (k : Int) := by omega
    simp only [smallR, if_neg h0] at hq
    have m15 := bm15 a
    have wk : IntKind.i64.wrap (k : Int) = k := IntWalk.i64_in _ (by omega)
    have hf1 := hf (a.toNat % 16) ⟨a :: t, 1, false⟩
    have hr1 := hr E (a.toNat % 16) p ⟨a :: t, 1, false⟩ (by omega) ec
    generalize a.toNat % 16 = m at hq m15 hf1 hr1
    generalize f m ⟨a :: t, 1, false⟩ = fr at hq hf1 hr1
    obtain ⟨x, c⟩ := fr
    simp only at hq hf1 hr1
    obtain ⟨hx, hx1⟩ := hf1
    simp [wa, wk, y0, m15]
    refine hr1 _ fun F fc eF => ?_
    have f6 := eF.get e6 (by omega)
    have f7 := eF.get e7 (by omega)
    have f8 := eF.get e8 (by omega)
    have eeF := eeE.past eF (by omega)
    have l6 := AHeap.get_lt f6
    have ly : AS.lay [.int .u64 0] 0 x = x := by
      match x, hx with
      | [x0], _ => rfl
    simp [f6, l6, hx, hx1, ly]
    generalize hG : AHeap.set _ _ _ = G
    have eG : Ext (fun j => j = A.size) F G := by subst hG; exact Ext.set rfl
    have g6 : G.get A.size = some (.cells x false 0) := by
      subst hG
      match x, hx with
      | [x0], _ => simp [l6]
    have g7 := eG.get f7 (by omega)
    have g8 := eG.get f8 (by omega)
    have eeG := eeF.past eG (Nat.le_refl _)
    have l6' := AHeap.get_lt g6
    have l7' := AHeap.get_lt g7
    refine End_ok G p c (fc.ext eG (by omega)) _ ?_
    rcases end_cases c with h | h | h
    · rw [if_pos h] at hq
      match x, hx, hx1, g6 with
      | [x0], _, hx1, g6 =>
        simp at hx1
        simp [h, hx1, g6, g7, l6', l7', valG]
        generalize hH : AHeap.set _ _ _ = H
        have h6 : H.get A.size = some (.cells [x0] false 0) := by subst hH; simp [l6', g6]
        have h7 : H.get (A.size + 1) = some (.cells [.int .i64 0] false 0) := by subst hH; simp [l7', g7]
        have h8 : H.get (A.size + 2) = some (.cells [.int .u64 0] false 0) := by subst hH; simp [g8]
        have eH : Ext (fun j => A.size ≤ j) G H := by subst hH; first | exact ((Ext.set (by simp)).trans (Ext.set (by simp))).trans (Ext.set (by simp)) | exact (Ext.set (by simp)).trans (Ext.set (by simp))
        refine q152_ok H A.size _ 0 [x0] rfl h6 h7 h8 (.inl rfl) _ (fun _ env n => ?_) fun h => by cases h
        simp [h6, h7]
        exact hq _ (over eeG eH)
    all_goals
      rw [if_neg (by omega), h] at hq
      simp [h, valG]
      refine q152_ok G A.size _ _ x hx g6 g7 g8 (.inr rfl) _ (fun h => by cases h) fun _ env n C c6 c7 eC => ?_
      simp [c6, c7]
      exact hq _ (over eeG eC)

theorem q154_ok (B : AHeap) (q : Nat) (v : Value) (e : Int) (x : List Value) (hx : x.length = 1) (b6 : B.get q = some (.cells x false 0)) (b7 : B.get (q + 1) = some (.cells [.int .i64 0] false 0)) (b8 : B.get (q + 2) = some (.cells [.int .u64 0] false 0)) (hv : (v = .nilIface) ∨ v = .iface 241 (.agg ⟨[.int .i64 e]⟩)) (K : AExit → St → Prop)
    (h1 : v = .nilIface → ∀ env n, K .normal ⟨env, n, [], B⟩) (h2 : v = .iface 241 (.agg ⟨[.int .i64 e]⟩) → ∀ env n C, C.get q = some (.cells [.int .u64 0] false 0) → C.get (q + 1) = some (.cells [.int .i64 e] false 0) → Ext (fun j => q ≤ j) B C → K .normal ⟨env, n, [], C⟩) :
    wC T 173 none q154 { env := envG [.pointer (some ⟨q + 2, 0, none⟩), .pointer (some ⟨q, 0, none⟩), .pointer (some ⟨q + 1, 0, none⟩)] 4 3 v, n := 11, dfs := [], A := B } K := by
  dsimp only [q154]
  have l6 := AHeap.get_lt b6
  have l7 := AHeap.get_lt b7
  rcases hv with rfl | rfl
  · simp [envG]
    exact h1 rfl _ _
  · simp [envG, b6, b7, b8, l6, l7, hx]
    refine h2 rfl _ _ _ ?_ ?_ ?_
    · match x, hx with
      | [x0], _ => simp [l6]
    · simp [l7]
    · exact (Ext.set (by simp)).trans (Ext.set (by simp))
theorem small154_ok (A : AHeap) (s : List UInt8) (k : Nat) (hk : k < 16) (rest : Value) (f : Nat → Cur → List Value × Cur) (hf : ∀ m c, (f m c).1.length = 1 ∧ (f m c).1.all oneCell = true)
    (hr : ∀ (B : AHeap) (m p : Nat) (c : Cur), m < 16 → CurAt B p c → ∀ R : Value → AHeap → Prop, (∀ B', CurAt B' p (f m c).2 → Ext (fun j => j = p) B B' → R (.agg ⟨(f m c).1⟩) B') → wF T rest [.int .u8 (m : Nat), .pointer (some ⟨p, 0, none⟩)] B R)
    (hs : s.length < 1000000) (Q : Value → AHeap → Prop) (hq : ∀ A', Ext NoB A A' → Q (smallR k [.int .u64 0] f s) A') : wF T (.func (.func 154) #[] #[]) [.string ⟨⟨s⟩⟩, .int .i64 (k : Nat), rest] A Q := by
  refine wF_func (first := []) (captured := []) t154 ⟨rfl, by decide⟩ ?_
  dsimp only [s154]
  simp
  generalize hB : AHeap.alloc _ _ = B
  have b6 : B.get A.size = some (.cells [.int .u64 0] false 0) := by subst hB; simp
  have b7 : B.get (A.size + 1) = some (.cells [.int .i64 0] false 0) := by subst hB; simp
  have b8 : B.get (A.size + 2) = some (.cells [.int .u64 0] false 0) := by subst hB; simp
  have zB : B.size = A.size + 3 := by subst hB; simp
  have eB : Ext NoB A B := by subst hB; (repeat first | exact Ext.refl | assumption | refine Ext.allocN ?_ | refine Ext.setN ?_ (by first | omega | (simp; done) | (simp; omega)))
  refine wC_guarded [.pointer (some ⟨A.size + 2, 0, none⟩), .pointer (some ⟨A.size, 0, none⟩), .pointer (some ⟨A.size + 1, 0, none⟩)] (by simp [capsG]) (by simp) ?_
  have over : ∀ {C D : AHeap}, Ext NoB A C → Ext (fun j => A.size ≤ j) C D → Ext NoB A D := fun h1 h2 => h1.trans2 h2 fun b hb hs => absurd hs (by omega)
  dsimp only [i154]
  match s, hs, hq with
  | [], hs, hq =>
    simp [valG]
    refine q154_ok B A.size _ 4 [.int .u64 0] rfl b6 b7 b8 (.inr rfl) _ (fun h => by cases h) fun _ env n C c6 c7 eC => ?_
    simp [c6, c7]
    exact hq _ (over eB eC)
  | a :: t, hs, hq =>
    have ha := a.toNat_lt
    simp
    refine Read_ok B (a :: t) hs _ fun D p hp eD lp => ?_
    have d6 := eD.get b6 id
    have d7 := eD.get b7 id
    have d8 := eD.get b8 id
    simp
    refine U8_ok D p _ hp _ fun E ec eE => ?_
    have e6 := eE.get d6 (by omega)
    have e7 := eE.get d7 (by omega)
    have e8 := eE.get d8 (by omega)
    have eeE := (eB.trans eD).past eE (by omega)
    have k1 : (⟨a :: t, 0, false⟩ : Cur).go 1 = ⟨a :: t, 1, false⟩ := (Cur.go_ok (c := ⟨a :: t, 0, false⟩) (n := 1) rfl (by simp)).1
    have k2 : (⟨a :: t, 0, false⟩ : Cur).got 1 = [a] := (Cur.go_ok (c := ⟨a :: t, 0, false⟩) (n := 1) rfl (by simp)).2
    rw [k1] at ec
    rw [k2]
    simp only [val_one]
    have wa : IntKind.i64.wrap ((a.toNat : Int) / 16) = (a.toNat : Int) / 16 := IntWalk.i64_in _ (by omega)
    by_cases h0 : a.toNat / 16 ≠ k
    · have y0 : ¬ (a.toNat : Int) / 16 = (k : Int) := by omega
      simp only [smallR, if_pos h0] at hq
      simp [wa, y0, valG]
      refine q154_ok E A.size _ 7 [.int .u64 0] rfl e6 e7 e8 (.inr rfl) _ (fun h => by cases h) fun _ env n C c6 c7 eC => ?_
      simp [c6, c7]
      exact hq _ (over eeE eC)
    have y0 : (a.toNat : Int) / 16 = (k : Int) := by omega
    simp only [smallR, if_neg h0] at hq
    have m15 := bm15 a
    have wk : IntKind.i64.wrap (k : Int) = k := IntWalk.i64_in _ (by omega)
    have hf1 := hf (a.toNat % 16) ⟨a :: t, 1, false⟩
    have hr1 := hr E (a.toNat % 16) p ⟨a :: t, 1, false⟩ (by omega) ec
    generalize a.toNat % 16 = m at hq m15 hf1 hr1
    generalize f m ⟨a :: t, 1, false⟩ = fr at hq hf1 hr1
    obtain ⟨x, c⟩ := fr
    simp only at hq hf1 hr1
    obtain ⟨hx, hx1⟩ := hf1
    simp [wa, wk, y0, m15]
    refine hr1 _ fun F fc eF => ?_
    have f6 := eF.get e6 (by omega)
    have f7 := eF.get e7 (by omega)
    have f8 := eF.get e8 (by omega)
    have eeF := eeE.past eF (by omega)
    have l6 := AHeap.get_lt f6
    have ly : AS.lay [.int .u64 0] 0 x = x := by
      match x, hx with
      | [x0], _ => rfl
    simp [f6, l6, hx, hx1, ly]
    generalize hG : AHeap.set _ _ _ = G
    have eG : Ext (fun j => j = A.size) F G := by subst hG; exact Ext.set rfl
    have g6 : G.get A.size = some (.cells x false 0) := by
      subst hG
      match x, hx with
      | [x0], _ => simp [l6]
    have g7 := eG.get f7 (by omega)
    have g8 := eG.get f8 (by omega)
    have eeG := eeF.past eG (Nat.le_refl _)
    have l6' := AHeap.get_lt g6
    have l7' := AHeap.get_lt g7
    refine End_ok G p c (fc.ext eG (by omega)) _ ?_
    rcases end_cases c with h | h | h
    · rw [if_pos h] at hq
      match x, hx, hx1, g6 with
      | [x0], _, hx1, g6 =>
        simp at hx1
        simp [h, hx1, g6, g7, l6', l7', valG]
        generalize hH : AHeap.set _ _ _ = H
        have h6 : H.get A.size = some (.cells [x0] false 0) := by subst hH; simp [l6', g6]
        have h7 : H.get (A.size + 1) = some (.cells [.int .i64 0] false 0) := by subst hH; simp [l7', g7]
        have h8 : H.get (A.size + 2) = some (.cells [.int .u64 0] false 0) := by subst hH; simp [g8]
        have eH : Ext (fun j => A.size ≤ j) G H := by subst hH; first | exact ((Ext.set (by simp)).trans (Ext.set (by simp))).trans (Ext.set (by simp)) | exact (Ext.set (by simp)).trans (Ext.set (by simp))
        refine q154_ok H A.size _ 0 [x0] rfl h6 h7 h8 (.inl rfl) _ (fun _ env n => ?_) fun h => by cases h
        simp [h6, h7]
        exact hq _ (over eeG eH)
    all_goals
      rw [if_neg (by omega), h] at hq
      simp [h, valG]
      refine q154_ok G A.size _ _ x hx g6 g7 g8 (.inr rfl) _ (fun h => by cases h) fun _ env n C c6 c7 eC => ?_
      simp [c6, c7]
      exact hq _ (over eeG eC)

theorem q156_ok (B : AHeap) (q : Nat) (v : Value) (e : Int) (x : List Value) (hx : x.length = 2) (b6 : B.get q = some (.cells x false 0)) (b7 : B.get (q + 1) = some (.cells [.int .i64 0] false 0)) (b8 : B.get (q + 2) = some (.cells [.int .i64 0, .int .i64 0] false 0)) (hv : (v = .nilIface) ∨ v = .iface 241 (.agg ⟨[.int .i64 e]⟩)) (K : AExit → St → Prop)
    (h1 : v = .nilIface → ∀ env n, K .normal ⟨env, n, [], B⟩) (h2 : v = .iface 241 (.agg ⟨[.int .i64 e]⟩) → ∀ env n C, C.get q = some (.cells [.int .i64 0, .int .i64 0] false 0) → C.get (q + 1) = some (.cells [.int .i64 e] false 0) → Ext (fun j => q ≤ j) B C → K .normal ⟨env, n, [], C⟩) :
    wC T 174 none q156 { env := envG [.pointer (some ⟨q + 2, 0, none⟩), .pointer (some ⟨q, 0, none⟩), .pointer (some ⟨q + 1, 0, none⟩)] 4 3 v, n := 11, dfs := [], A := B } K := by
  dsimp only [q156]
  have l6 := AHeap.get_lt b6
  have l7 := AHeap.get_lt b7
  rcases hv with rfl | rfl
  · simp [envG]
    exact h1 rfl _ _
  · simp [envG, b6, b7, b8, l6, l7, hx]
    refine h2 rfl _ _ _ ?_ ?_ ?_
    · match x, hx with
      | [x0, x1], _ => simp [l6]
    · simp [l7]
    · exact (Ext.set (by simp)).trans (Ext.set (by simp))
theorem small156_ok (A : AHeap) (s : List UInt8) (k : Nat) (hk : k < 16) (rest : Value) (f : Nat → Cur → List Value × Cur) (hf : ∀ m c, (f m c).1.length = 2 ∧ (f m c).1.all oneCell = true)
    (hr : ∀ (B : AHeap) (m p : Nat) (c : Cur), m < 16 → CurAt B p c → ∀ R : Value → AHeap → Prop, (∀ B', CurAt B' p (f m c).2 → Ext (fun j => j = p) B B' → R (.agg ⟨(f m c).1⟩) B') → wF T rest [.int .u8 (m : Nat), .pointer (some ⟨p, 0, none⟩)] B R)
    (hs : s.length < 1000000) (Q : Value → AHeap → Prop) (hq : ∀ A', Ext NoB A A' → Q (smallR k [.int .i64 0, .int .i64 0] f s) A') : wF T (.func (.func 156) #[] #[]) [.string ⟨⟨s⟩⟩, .int .i64 (k : Nat), rest] A Q := by
  refine wF_func (first := []) (captured := []) t156 ⟨rfl, by decide⟩ ?_
  dsimp only [s156]
  simp
  generalize hB : AHeap.alloc _ _ = B
  have b6 : B.get A.size = some (.cells [.int .i64 0, .int .i64 0] false 0) := by subst hB; simp
  have b7 : B.get (A.size + 1) = some (.cells [.int .i64 0] false 0) := by subst hB; simp
  have b8 : B.get (A.size + 2) = some (.cells [.int .i64 0, .int .i64 0] false 0) := by subst hB; simp
  have zB : B.size = A.size + 3 := by subst hB; simp
  have eB : Ext NoB A B := by subst hB; (repeat first | exact Ext.refl | assumption | refine Ext.allocN ?_ | refine Ext.setN ?_ (by first | omega | (simp; done) | (simp; omega)))
  refine wC_guarded [.pointer (some ⟨A.size + 2, 0, none⟩), .pointer (some ⟨A.size, 0, none⟩), .pointer (some ⟨A.size + 1, 0, none⟩)] (by simp [capsG]) (by simp) ?_
  have over : ∀ {C D : AHeap}, Ext NoB A C → Ext (fun j => A.size ≤ j) C D → Ext NoB A D := fun h1 h2 => h1.trans2 h2 fun b hb hs => absurd hs (by omega)
  dsimp only [i156]
  match s, hs, hq with
  | [], hs, hq =>
    simp [valG]
    refine q156_ok B A.size _ 4 [.int .i64 0, .int .i64 0] rfl b6 b7 b8 (.inr rfl) _ (fun h => by cases h) fun _ env n C c6 c7 eC => ?_
    simp [c6, c7]
    exact hq _ (over eB eC)
  | a :: t, hs, hq =>
    have ha := a.toNat_lt
    simp
    refine Read_ok B (a :: t) hs _ fun D p hp eD lp => ?_
    have d6 := eD.get b6 id
    have d7 := eD.get b7 id
    have d8 := eD.get b8 id
    simp
    refine U8_ok D p _ hp _ fun E ec eE => ?_
    have e6 := eE.get d6 (by omega)
    have e7 := eE.get d7 (by omega)
    have e8 := eE.get d8 (by omega)
    have eeE := (eB.trans eD).past eE (by omega)
    have k1 : (⟨a :: t, 0, false⟩ : Cur).go 1 = ⟨a :: t, 1, false⟩ := (Cur.go_ok (c := ⟨a :: t, 0, false⟩) (n := 1) rfl (by simp)).1
    have k2 : (⟨a :: t, 0, false⟩ : Cur).got 1 = [a] := (Cur.go_ok (c := ⟨a :: t, 0, false⟩) (n := 1) rfl (by simp)).2
    rw [k1] at ec
    rw [k2]
    simp only [val_one]
    have wa : IntKind.i64.wrap ((a.toNat : Int) / 16) = (a.toNat : Int) / 16 := IntWalk.i64_in _ (by omega)
    by_cases h0 : a.toNat / 16 ≠ k
    · have y0 : ¬ (a.toNat : Int) / 16 = (k : Int) := by omega
      simp only [smallR, if_pos h0] at hq
      simp [wa, y0, valG]
      refine q156_ok E A.size _ 7 [.int .i64 0, .int .i64 0] rfl e6 e7 e8 (.inr rfl) _ (fun h => by cases h) fun _ env n C c6 c7 eC => ?_
      simp [c6, c7]
      exact hq _ (over eeE eC)
    have y0 : (a.toNat : Int) / 16 = (k : Int) := by omega
    simp only [smallR, if_neg h0] at hq
    have m15 := bm15 a
    have wk : IntKind.i64.wrap (k : Int) = k := IntWalk.i64_in _ (by omega)
    have hf1 := hf (a.toNat % 16) ⟨a :: t, 1, false⟩
    have hr1 := hr E (a.toNat % 16) p ⟨a :: t, 1, false⟩ (by omega) ec
    generalize a.toNat % 16 = m at hq m15 hf1 hr1
    generalize f m ⟨a :: t, 1, false⟩ = fr at hq hf1 hr1
    obtain ⟨x, c⟩ := fr
    simp only at hq hf1 hr1
    obtain ⟨hx, hx1⟩ := hf1
    simp [wa, wk, y0, m15]
    refine hr1 _ fun F fc eF => ?_
    have f6 := eF.get e6 (by omega)
    have f7 := eF.get e7 (by omega)
    have f8 := eF.get e8 (by omega)
    have eeF := eeE.past eF (by omega)
    have l6 := AHeap.get_lt f6
    have ly : AS.lay [.int .i64 0, .int .i64 0] 0 x = x := by
      match x, hx with
      | [x0, x1], _ => rfl
    simp [f6, l6, hx, hx1, ly]
    generalize hG : AHeap.set _ _ _ = G
    have eG : Ext (fun j => j = A.size) F G := by subst hG; exact Ext.set rfl
    have g6 : G.get A.size = some (.cells x false 0) := by
      subst hG
      match x, hx with
      | [x0, x1], _ => simp [l6]
    have g7 := eG.get f7 (by omega)
    have g8 := eG.get f8 (by omega)
    have eeG := eeF.past eG (Nat.le_refl _)
    have l6' := AHeap.get_lt g6
    have l7' := AHeap.get_lt g7
    refine End_ok G p c (fc.ext eG (by omega)) _ ?_
    rcases end_cases c with h | h | h
    · rw [if_pos h] at hq
      match x, hx, hx1, g6 with
      | [x0, x1], _, hx1, g6 =>
        simp at hx1
        simp [h, hx1, g6, g7, l6', l7', valG]
        generalize hH : AHeap.set _ _ _ = H
        have h6 : H.get A.size = some (.cells [x0, x1] false 0) := by subst hH; simp [l6', g6]
        have h7 : H.get (A.size + 1) = some (.cells [.int .i64 0] false 0) := by subst hH; simp [l7', g7]
        have h8 : H.get (A.size + 2) = some (.cells [.int .i64 0, .int .i64 0] false 0) := by subst hH; simp [g8]
        have eH : Ext (fun j => A.size ≤ j) G H := by subst hH; first | exact ((Ext.set (by simp)).trans (Ext.set (by simp))).trans (Ext.set (by simp)) | exact (Ext.set (by simp)).trans (Ext.set (by simp))
        refine q156_ok H A.size _ 0 [x0, x1] rfl h6 h7 h8 (.inl rfl) _ (fun _ env n => ?_) fun h => by cases h
        simp [h6, h7]
        exact hq _ (over eeG eH)
    all_goals
      rw [if_neg (by omega), h] at hq
      simp [h, valG]
      refine q156_ok G A.size _ _ x hx g6 g7 g8 (.inr rfl) _ (fun h => by cases h) fun _ env n C c6 c7 eC => ?_
      simp [c6, c7]
      exact hq _ (over eeG eC)
end Go.Proofs.YtigknpfjhegkgaaGreatDoor
