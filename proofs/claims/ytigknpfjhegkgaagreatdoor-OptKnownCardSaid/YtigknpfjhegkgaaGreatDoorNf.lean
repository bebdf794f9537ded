/- Texts of this claim, one behind the other. -/
import Derived.Test.YtigknpfjhegkgaaGreatDoorNe
import Derived.KernelRfl
import Derived.Test.YtigknpfjhegkgaaGreatDoorKf
import Derived.Test.YtigknpfjhegkgaaGreatDoorEk
section
/- The small options, read; a body that is none is a panic that is caught. -/
namespace Go.Proofs.YtigknpfjhegkgaaGreatDoor
open Go Go.AS
set_option maxRecDepth 100000
set_option linter.unusedSimpArgs false
set_option linter.unusedVariables false
attribute [local irreducible] Trie.set Trie.get Env.rd
attribute [local simp ↓] wV_b2s
attribute [local simp] Nat.add_assoc wD_cons'' wD_nil' wC_seq wC_ops wC_opsD_nil wC_cond wC_skip wC_ret wC_exit wC_block wO_cons' wO_nil wantedA wV_eq lop qop ev wL_some wL_none wPut envOf rd_set rd_leaf eqA thenC blockC wB_true wB_false endF unwindA resultsA resA tupleA rdCell rdCells wrCells cl fillP lay rep bi_eql bi_neq bi_lss bi_leq bi_gtr bi_geq bi_add bi_sub bs_eql bs_neq bi_shr4 unA get_set' AHeap.get_alloc oneCell beqd bned idxA

/-- What a small option's body is read as, by what reads behind its first byte. -/
def smallR (k : Nat) (z : List Value) (f : Nat → Cur → List Value × Cur) : List UInt8 → Value
  | [] => .tuple ⟨[.agg ⟨z⟩, .int .i64 4]⟩
  | a :: t => if a.toNat / 16 ≠ k then .tuple ⟨[.agg ⟨z⟩, .int .i64 7]⟩ else
      if (f (a.toNat % 16) ⟨a :: t, 1, false⟩).2.end_ = 0 then .tuple ⟨[.agg ⟨(f (a.toNat % 16) ⟨a :: t, 1, false⟩).1⟩, .int .i64 0]⟩ else .tuple ⟨[.agg ⟨z⟩, .int .i64 (f (a.toNat % 16) ⟨a :: t, 1, false⟩).2.end_]⟩

theorem q149_ok (B : AHeap) (q : Nat) (v : Value) (e : Int) (x : List Value) (hx : x.length = 1) (b6 : B.get q = some (.cells x false 0)) (b7 : B.get (q + 1) = some (.cells [.int .i64 0] false 0)) (b8 : B.get (q + 2) = some (.cells [.bool false] false 0)) (hv : (v = .nilIface) ∨ v = .iface 241 (.agg ⟨[.int .i64 e]⟩)) (K : AExit → St → Prop)
    (h1 : v = .nilIface → ∀ env n, K .normal ⟨env, n, [], B⟩) (h2 : v = .iface 241 (.agg ⟨[.int .i64 e]⟩) → ∀ env n C, C.get q = some (.cells [.bool false] false 0) → C.get (q + 1) = some (.cells [.int .i64 e] false 0) → Ext (fun j => q ≤ j) B C → K .normal ⟨env, n, [], C⟩) :
    wC T 171 none q149 { env := envG [.pointer (some ⟨q + 2, 0, none⟩), .pointer (some ⟨q, 0, none⟩), .pointer (some ⟨q + 1, 0, none⟩)] 4 3 v, n := 11, dfs := [], A := B } K := by
  dsimp only [q149]
  have l6 := AHeap.get_lt b6
  have l7 := AHeap.get_lt b7
  rcases hv with rfl | rfl
  · simp [envG]
    exact h1 rfl _ _
  · simp [envG, b6, b7, b8, l6, l7, hx]
    refine h2 rfl _ _ _ ?_ ?_ ?_
    · match x, hx with
      | [x0], _ => simp [l6]
    · simp [l7]
    · exact (Ext.set (by simp)).trans (Ext.set (by simp))
theorem small149_ok (A : AHeap) (s : List UInt8) (k : Nat) (hk : k < 16) (rest : Value) (f : Nat → Cur → List Value × Cur) (hf : ∀ m c, (f m c).1.length = 1 ∧ (f m c).1.all oneCell = true)
    (hr : ∀ (B : AHeap) (m p : Nat) (c : Cur), m < 16 → CurAt B p c → ∀ R : Value → AHeap → Prop, (∀ B', CurAt B' p (f m c).2 → Ext (fun j => j = p) B B' → R (.agg ⟨(f m c).1⟩) B') → wF T rest [.int .u8 (m : Nat), .pointer (some ⟨p, 0, none⟩)] B R)
    (hs : s.length < 1000000) (Q : Value → AHeap → Prop) (hq : ∀ A', Ext NoB A A' → Q (smallR k [.bool false] f s) A') : wF T (.func (.func 149) #[] #[]) [.string ⟨⟨s⟩⟩, .int .i64 (k : Nat), rest] A Q := by
  refine wF_func (first := []) (captured := []) t149 ⟨rfl, by decide⟩ ?_
  dsimp only [s149]
  simp
  generalize hB : AHeap.alloc _ _ = B
  have b6 : B.get A.size = some (.cells [.bool false] false 0) := by subst hB; simp
  have b7 : B.get (A.size + 1) = some (.cells [.int .i64 0] false 0) := by subst hB; simp
  have b8 : B.get (A.size + 2) = some (.cells [.bool false] false 0) := by subst hB; simp
  have zB : B.size = A.size + 3 := by subst hB; simp
  have eB : Ext NoB A B := by subst hB; (repeat first | exact Ext.refl | assumption | refine Ext.allocN ?_ | refine Ext.setN ?_ (by first | omega | (simp; done) | (simp; omega)))
  refine wC_guarded [.pointer (some ⟨A.size + 2, 0, none⟩), .pointer (some ⟨A.size, 0, none⟩), .pointer (some ⟨A.size + 1, 0, none⟩)] (by simp [capsG]) (by simp) ?_
  have over : ∀ {C D : AHeap}, Ext NoB A C → Ext (fun j => A.size ≤ j) C D → Ext NoB A D := fun h1 h2 => h1.trans2 h2 fun b hb hs => absurd hs (by omega)
  dsimp only [i149]
  match s, hs, hq with
  | [], hs, hq =>
    simp [valG]
    refine q149_ok B A.size _ 4 [.bool false] rfl b6 b7 b8 (.inr rfl) _ (fun h => by cases h) fun _ env n C c6 c7 eC => ?_
    simp [c6, c7]
    exact hq _ (over eB eC)
  | a :: t, hs, hq =>
    have ha := a.toNat_lt
    simp
    refine Read_ok B (a :: t) hs _ fun D p hp eD lp => ?_
    have d6 := eD.get b6 id
    have d7 := eD.get b7 id
    have d8 := eD.get b8 id
    simp
    refine U8_ok D p _ hp _ fun E ec eE => ?_
    have e6 := eE.get d6 (by omega)
    have e7 := eE.get d7 (by omega)
    have e8 := eE.get d8 (by omega)
    have eeE := (eB.trans eD).past eE (by omega)
    have k1 : (⟨a :: t, 0, false⟩ : Cur).go 1 = ⟨a :: t, 1, false⟩ := (Cur.go_ok (c := ⟨a :: t, 0, false⟩) (n := 1) rfl (by simp)).1
    have k2 : (⟨a :: t, 0, false⟩ : Cur).got 1 = [a] := (Cur.go_ok (c := ⟨a :: t, 0, false⟩) (n := 1) rfl (by simp)).2
    rw [k1] at ec
    rw [k2]
    simp only [val_one]
    have wa : IntKind.i64.wrap ((a.toNat : Int) / 16) = (a.toNat : Int) / 16 := IntWalk.i64_in _ (by omega)
    by_cases h0 : a.toNat / 16 ≠ k
    · have y0 : ¬ (a.toNat : Int) / 16 = (k : Int) := by omega
      simp only [smallR, if_pos h0] at hq
      simp [wa, y0, valG]
      refine q149_ok E A.size _ 7 [.bool false] rfl e6 e7 e8 (.inr rfl) _ (fun h => by cases h) fun _ env n C c6 c7 eC => ?_
      simp [c6, c7]
      exact hq _ (over eeE eC)
    have y0 : (a.toNat : Int) / 16 = (k : Int) := by omega
    simp only [smallR, if_neg h0] at hq
    have m15 := bm15 a
    have wk : IntKind.i64.wrap (k : Int) = k := IntWalk.i64_in _ (by omega)
    have hf1 := hf (a.toNat % 16) ⟨a :: t, 1, false⟩
    have hr1 := hr E (a.toNat % 16) p ⟨a :: t, 1, false⟩ (by omega) ec
    generalize a.toNat % 16 = m at hq m15 hf1 hr1
    generalize f m ⟨a :: t, 1, false⟩ = fr at hq hf1 hr1
    obtain ⟨x, c⟩ := fr
    simp only at hq hf1 hr1
    obtain ⟨hx, hx1⟩ := hf1
    simp [wa, wk, y0, m15]
    refine hr1 _ fun F fc eF => ?_
    have f6 := eF.get e6 (by omega)
    have f7 := eF.get e7 (by omega)
    have f8 := eF.get e8 (by omega)
    have eeF := eeE.past eF (by omega)
    have l6 := AHeap.get_lt f6
    have ly : AS.lay [.bool false] 0 x = x := by
      match x, hx with
      | [x0], _ => rfl
    simp [f6, l6, hx, hx1, ly]
    generalize hG : AHeap.set _ _ _ = G
    have eG : Ext (fun j => j = A.size) F G := by subst hG; exact Ext.set rfl
    have g6 : G.get A.size = some (.cells x false 0) := by
      subst hG
      match x, hx with
      | [x0], _ => simp [l6]
    have g7 := eG.get f7 (by omega)
    have g8 := eG.get f8 (by omega)
    have eeG := eeF.past eG (Nat.le_refl _)
    have l6' := AHeap.get_lt g6
    have l7' := AHeap.get_lt g7
    refine End_ok G p c (fc.ext eG (by omega)) _ ?_
    rcases end_cases c with h | h | h
    · rw [if_pos h] at hq
      match x, hx, hx1, g6 with
      | [x0], _, hx1, g6 =>
        simp at hx1
        simp [h, hx1, g6, g7, l6', l7', valG]
        generalize hH : AHeap.set _ _ _ = H
        have h6 : H.get A.size = some (.cells [x0] false 0) := by subst hH; simp [l6', g6]
        have h7 : H.get (A.size + 1) = some (.cells [.int .i64 0] false 0) := by subst hH; simp [l7', g7]
        have h8 : H.get (A.size + 2) = some (.cells [.bool false] false 0) := by subst hH; simp [g8]
        have eH : Ext (fun j => A.size ≤ j) G H := by subst hH; first | exact ((Ext.set (by simp)).trans (Ext.set (by simp))).trans (Ext.set (by simp)) | exact (Ext.set (by simp)).trans (Ext.set (by simp))
        refine q149_ok H A.size _ 0 [x0] rfl h6 h7 h8 (.inl rfl) _ (fun _ env n => ?_) fun h => by cases h
        simp [h6, h7]
        exact hq _ (over eeG eH)
    all_goals
      rw [if_neg (by omega), h] at hq
      simp [h, valG]
      refine q149_ok G A.size _ _ x hx g6 g7 g8 (.inr rfl) _ (fun h => by cases h) fun _ env n C c6 c7 eC => ?_
      simp [c6, c7]
      exact hq _ (over eeG eC)

theorem q152_ok (B : AHeap) (q : Nat) (v : Value) (e : Int) (x : List Value) (hx : x.length = 1) (b6 : B.get q = some (.cells x false 0)) (b7 : B.get (q + 1) = some (.cells [.int .i64 0] false 0)) (b8 : B.get (q + 2) = some (.cells [.int .u64 0] false 0)) (hv : (v = .nilIface) ∨ v = .iface 241 (.agg ⟨[.int .i64 e]⟩)) (K : AExit → St → Prop)
    (h1 : v = .nilIface → ∀ env n, K .normal ⟨env, n, [], B⟩) (h2 : v = .iface 241 (.agg ⟨[.int .i64 e]⟩) → ∀ env n C, C.get q = some (.cells [.int .u64 0] false 0) → C.get (q + 1) = some (.cells [.int .i64 e] false 0) → Ext (fun j => q ≤ j) B C → K .normal ⟨env, n, [], C⟩) :
    wC T 172 none q152 { env := envG [.pointer (some ⟨q + 2, 0, none⟩), .pointer (some ⟨q, 0, none⟩), .pointer (some ⟨q + 1, 0, none⟩)] 4 3 v, n := 11, dfs := [], A := B } K := by
  dsimp only [q152]
  have l6 := AHeap.get_lt b6
  have l7 := AHeap.get_lt b7
  rcases hv with rfl | rfl
  · simp [envG]
    exact h1 rfl _ _
  · simp [envG, b6, b7, b8, l6, l7, hx]
    refine h2 rfl _ _ _ ?_ ?_ ?_
    · match x, hx with
      | [x0], _ => simp [l6]
    · simp [l7]
    · exact (Ext.set (by simp)).trans (Ext.set (by simp))
theorem small152_ok (A : AHeap) (s : List UInt8) (k : Nat) (hk : k < 16) (rest : Value) (f : Nat → Cur → List Value × Cur) (hf : ∀ m c, (f m c).1.length = 1 ∧ (f m c).1.all oneCell = true)
    (hr : ∀ (B : AHeap) (m p : Nat) (c : Cur), m < 16 → CurAt B p c → ∀ R : Value → AHeap → Prop, (∀ B', CurAt B' p (f m c).2 → Ext (fun j => j = p) B B' → R (.agg ⟨(f m c).1⟩) B') → wF T rest [.int .u8 (m : Nat), .pointer (some ⟨p, 0, none⟩)] B R)
    (hs : s.length < 1000000) (Q : Value → AHeap → Prop) (hq : ∀ A', Ext NoB A A' → Q (smallR k [.int .u64 0] f s) A') : wF T (.func (.func 152) #[] #[]) [.string ⟨⟨s⟩⟩, .int .i64 (k : Nat), rest] A Q := by
  refine wF_func (first := []) (captured := []) t152 ⟨rfl, by decide⟩ ?_
  dsimp only [s152]
  simp
  generalize hB : AHeap.alloc _ _ = B
  have b6 : B.get A.size = some (.cells [.int .u64 0] false 0) := by subst hB; simp
  have b7 : B.get (A.size + 1) = some (.cells [.int .i64 0] false 0) := by subst hB; simp
  have b8 : B.get (A.size + 2) = some (.cells [.int .u64 0] false 0) := by subst hB; simp
  have zB : B.size = A.size + 3 := by subst hB; simp
  have eB : Ext NoB A B := by subst hB; (repeat first | exact Ext.refl | assumption | refine Ext.allocN ?_ | refine Ext.setN ?_ (by first | omega | (simp; done) | (simp; omega)))
  refine wC_guarded [.pointer (some ⟨A.size + 2, 0, none⟩), .pointer (some ⟨A.size, 0, none⟩), .pointer (some ⟨A.size + 1, 0, none⟩)] (by simp [capsG]) (by simp) ?_
  have over : ∀ {C D : AHeap}, Ext NoB A C → Ext (fun j => A.size ≤ j) C D → Ext NoB A D := fun h1 h2 => h1.trans2 h2 fun b hb hs => absurd hs (by omega)
  dsimp only [i152]
  match s, hs, hq with
  | [], hs, hq =>
    simp [valG]
    refine q152_ok B A.size _ 4 [.int .u64 0] rfl b6 b7 b8 (.inr rfl) _ (fun h => by cases h) fun _ env n C c6 c7 eC => ?_
    simp [c6, c7]
    exact hq _ (over eB eC)
  | a :: t, hs, hq =>
    have ha := a.toNat_lt
    simp
    refine Read_ok B (a :: t) hs _ fun D p hp eD lp => ?_
    have d6 := eD.get b6 id
    have d7 := eD.get b7 id
    have d8 := eD.get b8 id
    simp
    refine U8_ok D p _ hp _ fun E ec eE => ?_
    have e6 := eE.get d6 (by omega)
    have e7 := eE.get d7 (by omega)
    have e8 := eE.get d8 (by omega)
    have eeE := (eB.trans eD).past eE (by omega)
    have k1 : (⟨a :: t, 0, false⟩ : Cur).go 1 = ⟨a :: t, 1, false⟩ := (Cur.go_ok (c := ⟨a :: t, 0, false⟩) (n := 1) rfl (by simp)).1
    have k2 : (⟨a :: t, 0, false⟩ : Cur).got 1 = [a] := (Cur.go_ok (c := ⟨a :: t, 0, false⟩) (n := 1) rfl (by simp)).2
    rw [k1] at ec
    rw [k2]
    simp only [val_one]
    have wa : IntKind.i64.wrap ((a.toNat : Int) / 16) = (a.toNat : Int) / 16 := IntWalk.i64_in _ (by omega)
    by_cases h0 : a.toNat / 16 ≠ k
    · have y0 : ¬ (a.toNat : Int) / 16 = (k : Int) := by omega
      simp only [smallR, if_pos h0] at hq
      simp [wa, y0, valG]
      refine q152_ok E A.size _ 7 [.int .u64 0] rfl e6 e7 e8 (.inr rfl) _ (fun h => by cases h) fun _ env n C c6 c7 eC => ?_
      simp [c6, c7]
      exact hq _ (over eeE eC)
    have y0 : (a.toNat : Int) / 16 = (k : Int) := by omega
    simp only [smallR, if_neg h0] at hq
    have m15 := bm15 a
    have wk : IntKind.i64.wrap (k : Int) = k := IntWalk.i64_in _ (by omega)
    have hf1 := hf (a.toNat % 16) ⟨a :: t, 1, false⟩
    have hr1 := hr E (a.toNat % 16) p ⟨a :: t, 1, false⟩ (by omega) ec
    generalize a.toNat % 16 = m at hq m15 hf1 hr1
    generalize f m ⟨a :: t, 1, false⟩ = fr at hq hf1 hr1
    obtain ⟨x, c⟩ := fr
    simp only at hq hf1 hr1
    obtain ⟨hx, hx1⟩ := hf1
    simp [wa, wk, y0, m15]
    refine hr1 _ fun F fc eF => ?_
    have f6 := eF.get e6 (by omega)
    have f7 := eF.get e7 (by omega)
    have f8 := eF.get e8 (by omega)
    have eeF := eeE.past eF (by omega)
    have l6 := AHeap.get_lt f6
    have ly : AS.lay [.int .u64 0] 0 x = x := by
      match x, hx with
      | [x0], _ => rfl
    simp [f6, l6, hx, hx1, ly]
    generalize hG : AHeap.set _ _ _ = G
    have eG : Ext (fun j => j = A.size) F G := by subst hG; exact Ext.set rfl
    have g6 : G.get A.size = some (.cells x false 0) := by
      subst hG
      match x, hx with
      | [x0], _ => simp [l6]
    have g7 := eG.get f7 (by omega)
    have g8 := eG.get f8 (by omega)
    have eeG := eeF.past eG (Nat.le_refl _)
    have l6' := AHeap.get_lt g6
    have l7' := AHeap.get_lt g7
    refine End_ok G p c (fc.ext eG (by omega)) _ ?_
    rcases end_cases c with h | h | h
    · rw [if_pos h] at hq
      match x, hx, hx1, g6 with
      | [x0], _, hx1, g6 =>
        simp at hx1
        simp [h, hx1, g6, g7, l6', l7', valG]
        generalize hH : AHeap.set _ _ _ = H
        have h6 : H.get A.size = some (.cells [x0] false 0) := by subst hH; simp [l6', g6]
        have h7 : H.get (A.size + 1) = some (.cells [.int .i64 0] false 0) := by subst hH; simp [l7', g7]
        have h8 : H.get (A.size + 2) = some (.cells [.int .u64 0] false 0) := by subst hH; simp [g8]
        have eH : Ext (fun j => A.size ≤ j) G H := by subst hH; first | exact ((Ext.set (by simp)).trans (Ext.set (by simp))).trans (Ext.set (by simp)) | exact (Ext.set (by simp)).trans (Ext.set (by simp))
        refine q152_ok H A.size _ 0 [x0] rfl h6 h7 h8 (.inl rfl) _ (fun _ env n => ?_) fun h => by cases h
        simp [h6, h7]
        exact hq _ (over eeG eH)
    all_goals
      rw [if_neg (by omega), h] at hq
      simp [h, valG]
      refine q152_ok G A.size _ _ x hx g6 g7 g8 (.inr rfl) _ (fun h => by cases h) fun _ env n C c6 c7 eC => ?_
      simp [c6, c7]
      exact hq _ (over eeG eC)

theorem q154_ok (B : AHeap) (q : Nat) (v : Value) (e : Int) (x : List Value) (hx : x.length = 1) (b6 : B.get q = some (.cells x false 0)) (b7 : B.get (q + 1) = some (.cells [.int .i64 0] false 0)) (b8 : B.get (q + 2) = some (.cells [.int .u64 0] false 0)) (hv : (v = .nilIface) ∨ v = .iface 241 (.agg ⟨[.int .i64 e]⟩)) (K : AExit → St → Prop)
    (h1 : v = .nilIface → ∀ env n, K .normal ⟨env, n, [], B⟩) (h2 : v = .iface 241 (.agg ⟨[.int .i64 e]⟩) → ∀ env n C, C.get q = some (.cells [.int .u64 0] false 0) → C.get (q + 1) = some (.cells [.int .i64 e] false 0) → Ext (fun j => q ≤ j) B C → K .normal ⟨env, n, [], C⟩) :
    wC T 173 none q154 { env := envG [.pointer (some ⟨q + 2, 0, none⟩), .pointer (some ⟨q, 0, none⟩), .pointer (some ⟨q + 1, 0, none⟩)] 4 3 v, n := 11, dfs := [], A := B } K := by
  dsimp only [q154]
  have l6 := AHeap.get_lt b6
  have l7 := AHeap.get_lt b7
  rcases hv with rfl | rfl
  · simp [envG]
    exact h1 rfl _ _
  · simp [envG, b6, b7, b8, l6, l7, hx]
    refine h2 rfl _ _ _ ?_ ?_ ?_
    · match x, hx with
      | [x0], _ => simp [l6]
    · simp [l7]
    · exact (Ext.set (by simp)).trans (Ext.set (by simp))
theorem small154_ok (A : AHeap) (s : List UInt8) (k : Nat) (hk : k < 16) (rest : Value) (f : Nat → Cur → List Value × Cur) (hf : ∀ m c, (f m c).1.length = 1 ∧ (f m c).1.all oneCell = true)
    (hr : ∀ (B : AHeap) (m p : Nat) (c : Cur), m < 16 → CurAt B p c → ∀ R : Value → AHeap → Prop, (∀ B', CurAt B' p (f m c).2 → Ext (fun j => j = p) B B' → R (.agg ⟨(f m c).1⟩) B') → wF T rest [.int .u8 (m : Nat), .pointer (some ⟨p, 0, none⟩)] B R)
    (hs : s.length < 1000000) (Q : Value → AHeap → Prop) (hq : ∀ A', Ext NoB A A' → Q (smallR k [.int .u64 0] f s) A') : wF T (.func (.func 154) #[] #[]) [.string ⟨⟨s⟩⟩, .int .i64 (k : Nat), rest] A Q := by
  refine wF_func (first := []) (captured := []) t154 ⟨rfl, by decide⟩ ?_
  dsimp only [s154]
  simp
  generalize hB : AHeap.alloc _ _ = B
  have b6 : B.get A.size = some (.cells [.int .u64 0] false 0) := by subst hB; simp
  have b7 : B.get (A.size + 1) = some (.cells [.int .i64 0] false 0) := by subst hB; simp
  have b8 : B.get (A.size + 2) = some (.cells [.int .u64 0] false 0) := by subst hB; simp
  have zB : B.size = A.size + 3 := by subst hB; simp
  have eB : Ext NoB A B := by subst hB; (repeat first | exact Ext.refl | assumption | refine Ext.allocN ?_ | refine Ext.setN ?_ (by first | omega | (simp; done) | (simp; omega)))
  refine wC_guarded [.pointer (some ⟨A.size + 2, 0, none⟩), .pointer (some ⟨A.size, 0, none⟩), .pointer (some ⟨A.size + 1, 0, none⟩)] (by simp [capsG]) (by simp) ?_
  have over : ∀ {C D : AHeap}, Ext NoB A C → Ext (fun j => A.size ≤ j) C D → Ext NoB A D := fun h1 h2 => h1.trans2 h2 fun b hb hs => absurd hs (by omega)
  dsimp only [i154]
  match s, hs, hq with
  | [], hs, hq =>
    simp [valG]
    refine q154_ok B A.size _ 4 [.int .u64 0] rfl b6 b7 b8 (.inr rfl) _ (fun h => by cases h) fun _ env n C c6 c7 eC => ?_
    simp [c6, c7]
    exact hq _ (over eB eC)
  | a :: t, hs, hq =>
    have ha := a.toNat_lt
    simp
    refine Read_ok B (a :: t) hs _ fun D p hp eD lp => ?_
    have d6 := eD.get b6 id
    have d7 := eD.get b7 id
    have d8 := eD.get b8 id
    simp
    refine U8_ok D p _ hp _ fun E ec eE => ?_
    have e6 := eE.get d6 (by omega)
    have e7 := eE.get d7 (by omega)
    have e8 := eE.get d8 (by omega)
    have eeE := (eB.trans eD).past eE (by omega)
    have k1 : (⟨a :: t, 0, false⟩ : Cur).go 1 = ⟨a :: t, 1, false⟩ := (Cur.go_ok (c := ⟨a :: t, 0, false⟩) (n := 1) rfl (by simp)).1
    have k2 : (⟨a :: t, 0, false⟩ : Cur).got 1 = [a] := (Cur.go_ok (c := ⟨a :: t, 0, false⟩) (n := 1) rfl (by simp)).2
    rw [k1] at ec
    rw [k2]
    simp only [val_one]
    have wa : IntKind.i64.wrap ((a.toNat : Int) / 16) = (a.toNat : Int) / 16 := IntWalk.i64_in _ (by omega)
    by_cases h0 : a.toNat / 16 ≠ k
    · have y0 : ¬ (a.toNat : Int) / 16 = (k : Int) := by omega
      simp only [smallR, if_pos h0] at hq
      simp [wa, y0, valG]
      refine q154_ok E A.size _ 7 [.int .u64 0] rfl e6 e7 e8 (.inr rfl) _ (fun h => by cases h) fun _ env n C c6 c7 eC => ?_
      simp [c6, c7]
      exact hq _ (over eeE eC)
    have y0 : (a.toNat : Int) / 16 = (k : Int) := by omega
    simp only [smallR, if_neg h0] at hq
    have m15 := bm15 a
    have wk : IntKind.i64.wrap (k : Int) = k := IntWalk.i64_in _ (by omega)
    have hf1 := hf (a.toNat % 16) ⟨a :: t, 1, false⟩
    have hr1 := hr E (a.toNat % 16) p ⟨a :: t, 1, false⟩ (by omega) ec
    generalize a.toNat % 16 = m at hq m15 hf1 hr1
    generalize f m ⟨a :: t, 1, false⟩ = fr at hq hf1 hr1
    obtain ⟨x, c⟩ := fr
    simp only at hq hf1 hr1
    obtain ⟨hx, hx1⟩ := hf1
    simp [wa, wk, y0, m15]
    refine hr1 _ fun F fc eF => ?_
    have f6 := eF.get e6 (by omega)
    have f7 := eF.get e7 (by omega)
    have f8 := eF.get e8 (by omega)
    have eeF := eeE.past eF (by omega)
    have l6 := AHeap.get_lt f6
    have ly : AS.lay [.int .u64 0] 0 x = x := by
      match x, hx with
      | [x0], _ => rfl
    simp [f6, l6, hx, hx1, ly]
    generalize hG : AHeap.set _ _ _ = G
    have eG : Ext (fun j => j = A.size) F G := by subst hG; exact Ext.set rfl
    have g6 : G.get A.size = some (.cells x false 0) := by
      subst hG
      match x, hx with
      | [x0], _ => simp [l6]
    have g7 := eG.get f7 (by omega)
    have g8 := eG.get f8 (by omega)
    have eeG := eeF.past eG (Nat.le_refl _)
    have l6' := AHeap.get_lt g6
    have l7' := AHeap.get_lt g7
    refine End_ok G p c (fc.ext eG (by omega)) _ ?_
    rcases end_cases c with h | h | h
    · rw [if_pos h] at hq
      match x, hx, hx1, g6 with
      | [x0], _, hx1, g6 =>
        simp at hx1
        simp [h, hx1, g6, g7, l6', l7', valG]
        generalize hH : AHeap.set _ _ _ = H
        have h6 : H.get A.size = some (.cells [x0] false 0) := by subst hH; simp [l6', g6]
        have h7 : H.get (A.size + 1) = some (.cells [.int .i64 0] false 0) := by subst hH; simp [l7', g7]
        have h8 : H.get (A.size + 2) = some (.cells [.int .u64 0] false 0) := by subst hH; simp [g8]
        have eH : Ext (fun j => A.size ≤ j) G H := by subst hH; first | exact ((Ext.set (by simp)).trans (Ext.set (by simp))).trans (Ext.set (by simp)) | exact (Ext.set (by simp)).trans (Ext.set (by simp))
        refine q154_ok H A.size _ 0 [x0] rfl h6 h7 h8 (.inl rfl) _ (fun _ env n => ?_) fun h => by cases h
        simp [h6, h7]
        exact hq _ (over eeG eH)
    all_goals
      rw [if_neg (by omega), h] at hq
      simp [h, valG]
      refine q154_ok G A.size _ _ x hx g6 g7 g8 (.inr rfl) _ (fun h => by cases h) fun _ env n C c6 c7 eC => ?_
      simp [c6, c7]
      exact hq _ (over eeG eC)

theorem q156_ok (B : AHeap) (q : Nat) (v : Value) (e : Int) (x : List Value) (hx : x.length = 2) (b6 : B.get q = some (.cells x false 0)) (b7 : B.get (q + 1) = some (.cells [.int .i64 0] false 0)) (b8 : B.get (q + 2) = some (.cells [.int .i64 0, .int .i64 0] false 0)) (hv : (v = .nilIface) ∨ v = .iface 241 (.agg ⟨[.int .i64 e]⟩)) (K : AExit → St → Prop)
    (h1 : v = .nilIface → ∀ env n, K .normal ⟨env, n, [], B⟩) (h2 : v = .iface 241 (.agg ⟨[.int .i64 e]⟩) → ∀ env n C, C.get q = some (.cells [.int .i64 0, .int .i64 0] false 0) → C.get (q + 1) = some (.cells [.int .i64 e] false 0) → Ext (fun j => q ≤ j) B C → K .normal ⟨env, n, [], C⟩) :
    wC T 174 none q156 { env := envG [.pointer (some ⟨q + 2, 0, none⟩), .pointer (some ⟨q, 0, none⟩), .pointer (some ⟨q + 1, 0, none⟩)] 4 3 v, n := 11, dfs := [], A := B } K := by
  dsimp only [q156]
  have l6 := AHeap.get_lt b6
  have l7 := AHeap.get_lt b7
  rcases hv with rfl | rfl
  · simp [envG]
    exact h1 rfl _ _
  · simp [envG, b6, b7, b8, l6, l7, hx]
    refine h2 rfl _ _ _ ?_ ?_ ?_
    · match x, hx with
      | [x0, x1], _ => simp [l6]
    · simp [l7]
    · exact (Ext.set (by simp)).trans (Ext.set (by simp))
theorem small156_ok (A : AHeap) (s : List UInt8) (k : Nat) (hk : k < 16) (rest : Value) (f : Nat → Cur → List Value × Cur) (hf : ∀ m c, (f m c).1.length = 2 ∧ (f m c).1.all oneCell = true)
    (hr : ∀ (B : AHeap) (m p : Nat) (c : Cur), m < 16 → CurAt B p c → ∀ R : Value → AHeap → Prop, (∀ B', CurAt B' p (f m c).2 → Ext (fun j => j = p) B B' → R (.agg ⟨(f m c).1⟩) B') → wF T rest [.int .u8 (m : Nat), .pointer (some ⟨p, 0, none⟩)] B R)
    (hs : s.length < 1000000) (Q : Value → AHeap → Prop) (hq : ∀ A', Ext NoB A A' → Q (smallR k [.int .i64 0, .int .i64 0] f s) A') : wF T (.func (.func 156) #[] #[]) [.string ⟨⟨s⟩⟩, .int .i64 (k : Nat), rest] A Q := by
  refine wF_func (first := []) (captured := []) t156 ⟨rfl, by decide⟩ ?_
  dsimp only [s156]
  simp
  generalize hB : AHeap.alloc _ _ = B
  have b6 : B.get A.size = some (.cells [.int .i64 0, .int .i64 0] false 0) := by subst hB; simp
  have b7 : B.get (A.size + 1) = some (.cells [.int .i64 0] false 0) := by subst hB; simp
  have b8 : B.get (A.size + 2) = some (.cells [.int .i64 0, .int .i64 0] false 0) := by subst hB; simp
  have zB : B.size = A.size + 3 := by subst hB; simp
  have eB : Ext NoB A B := by subst hB; (repeat first | exact Ext.refl | assumption | refine Ext.allocN ?_ | refine Ext.setN ?_ (by first | omega | (simp; done) | (simp; omega)))
  refine wC_guarded [.pointer (some ⟨A.size + 2, 0, none⟩), .pointer (some ⟨A.size, 0, none⟩), .pointer (some ⟨A.size + 1, 0, none⟩)] (by simp [capsG]) (by simp) ?_
  have over : ∀ {C D : AHeap}, Ext NoB A C → Ext (fun j => A.size ≤ j) C D → Ext NoB A D := fun h1 h2 => h1.trans2 h2 fun b hb hs => absurd hs (by omega)
  dsimp only [i156]
  match s, hs, hq with
  | [], hs, hq =>
    simp [valG]
    refine q156_ok B A.size _ 4 [.int .i64 0, .int .i64 0] rfl b6 b7 b8 (.inr rfl) _ (fun h => by cases h) fun _ env n C c6 c7 eC => ?_
    simp [c6, c7]
    exact hq _ (over eB eC)
  | a :: t, hs, hq =>
    have ha := a.toNat_lt
    simp
    refine Read_ok B (a :: t) hs _ fun D p hp eD lp => ?_
    have d6 := eD.get b6 id
    have d7 := eD.get b7 id
    have d8 := eD.get b8 id
    simp
    refine U8_ok D p _ hp _ fun E ec eE => ?_
    have e6 := eE.get d6 (by omega)
    have e7 := eE.get d7 (by omega)
    have e8 := eE.get d8 (by omega)
    have eeE := (eB.trans eD).past eE (by omega)
    have k1 : (⟨a :: t, 0, false⟩ : Cur).go 1 = ⟨a :: t, 1, false⟩ := (Cur.go_ok (c := ⟨a :: t, 0, false⟩) (n := 1) rfl (by simp)).1
    have k2 : (⟨a :: t, 0, false⟩ : Cur).got 1 = [a] := (Cur.go_ok (c := ⟨a :: t, 0, false⟩) (n := 1) rfl (by simp)).2
    rw [k1] at ec
    rw [k2]
    simp only [val_one]
    have wa : IntKind.i64.wrap ((a.toNat : Int) / 16) = (a.toNat : Int) / 16 := IntWalk.i64_in _ (by omega)
    by_cases h0 : a.toNat / 16 ≠ k
    · have y0 : ¬ (a.toNat : Int) / 16 = (k : Int) := by omega
      simp only [smallR, if_pos h0] at hq
      simp [wa, y0, valG]
      refine q156_ok E A.size _ 7 [.int .i64 0, .int .i64 0] rfl e6 e7 e8 (.inr rfl) _ (fun h => by cases h) fun _ env n C c6 c7 eC => ?_
      simp [c6, c7]
      exact hq _ (over eeE eC)
    have y0 : (a.toNat : Int) / 16 = (k : Int) := by omega
    simp only [smallR, if_neg h0] at hq
    have m15 := bm15 a
    have wk : IntKind.i64.wrap (k : Int) = k := IntWalk.i64_in _ (by omega)
    have hf1 := hf (a.toNat % 16) ⟨a :: t, 1, false⟩
    have hr1 := hr E (a.toNat % 16) p ⟨a :: t, 1, false⟩ (by omega) ec
    generalize a.toNat % 16 = m at hq m15 hf1 hr1
    generalize f m ⟨a :: t, 1, false⟩ = fr at hq hf1 hr1
    obtain ⟨x, c⟩ := fr
    simp only at hq hf1 hr1
    obtain ⟨hx, hx1⟩ := hf1
    simp [wa, wk, y0, m15]
    refine hr1 _ fun F fc eF => ?_
    have f6 := eF.get e6 (by omega)
    have f7 := eF.get e7 (by omega)
    have f8 := eF.get e8 (by omega)
    have eeF := eeE.past eF (by omega)
    have l6 := AHeap.get_lt f6
    have ly : AS.lay [.int .i64 0, .int .i64 0] 0 x = x := by
      match x, hx with
      | [x0, x1], _ => rfl
    simp [f6, l6, hx, hx1, ly]
    generalize hG : AHeap.set _ _ _ = G
    have eG : Ext (fun j => j = A.size) F G := by subst hG; exact Ext.set rfl
    have g6 : G.get A.size = some (.cells x false 0) := by
      subst hG
      match x, hx with
      | [x0, x1], _ => simp [l6]
    have g7 := eG.get f7 (by omega)
    have g8 := eG.get f8 (by omega)
    have eeG := eeF.past eG (Nat.le_refl _)
    have l6' := AHeap.get_lt g6
    have l7' := AHeap.get_lt g7
    refine End_ok G p c (fc.ext eG (by omega)) _ ?_
    rcases end_cases c with h | h | h
    · rw [if_pos h] at hq
      match x, hx, hx1, g6 with
      | [x0, x1], _, hx1, g6 =>
        simp at hx1
        simp [h, hx1, g6, g7, l6', l7', valG]
        generalize hH : AHeap.set _ _ _ = H
        have h6 : H.get A.size = some (.cells [x0, x1] false 0) := by subst hH; simp [l6', g6]
        have h7 : H.get (A.size + 1) = some (.cells [.int .i64 0] false 0) := by subst hH; simp [l7', g7]
        have h8 : H.get (A.size + 2) = some (.cells [.int .i64 0, .int .i64 0] false 0) := by subst hH; simp [g8]
        have eH : Ext (fun j => A.size ≤ j) G H := by subst hH; first | exact ((Ext.set (by simp)).trans (Ext.set (by simp))).trans (Ext.set (by simp)) | exact (Ext.set (by simp)).trans (Ext.set (by simp))
        refine q156_ok H A.size _ 0 [x0, x1] rfl h6 h7 h8 (.inl rfl) _ (fun _ env n => ?_) fun h => by cases h
        simp [h6, h7]
        exact hq _ (over eeG eH)
    all_goals
      rw [if_neg (by omega), h] at hq
      simp [h, valG]
      refine q156_ok G A.size _ _ x hx g6 g7 g8 (.inr rfl) _ (fun h => by cases h) fun _ env n C c6 c7 eC => ?_
      simp [c6, c7]
      exact hq _ (over eeG eC)
end Go.Proofs.YtigknpfjhegkgaaGreatDoor
end

section
/- The small options, read: each. -/
namespace Go.Proofs.YtigknpfjhegkgaaGreatDoor
open Go Go.AS
set_option maxRecDepth 100000
set_option linter.unusedSimpArgs false
set_option linter.unusedVariables false
attribute [local irreducible] Trie.set Trie.get Env.rd
attribute [local simp ↓] wV_b2s
attribute [local simp] Nat.add_assoc wD_cons'' wD_nil' wC_seq wC_ops wC_opsD_nil wC_cond wC_skip wC_ret wC_exit wC_block wO_cons' wO_nil wantedA wV_eq lop qop ev wL_some wL_none wPut envOf rd_set rd_leaf eqA thenC blockC wB_true wB_false endF unwindA resultsA resA tupleA rdCell rdCells wrCells cl fillP lay rep bi_eql bi_neq bi_lss bi_leq bi_gtr bi_geq bi_add bi_sub bs_eql bs_neq bi_shr4 unA get_set' AHeap.get_alloc oneCell beqd bned idxA

def fP (m : Nat) (c : Cur) : List Value × Cur := ([.bool (decide (m % 2 = 1))], c)
def fB (m : Nat) (c : Cur) : List Value × Cur := ([.int .u64 (val ((c.go 1).got 8) : Nat)], (c.go 1).go 8)
def fR (m : Nat) (c : Cur) : List Value × Cur := ([.int .i64 (m : Nat), .int .i64 (val (c.got 1) : Nat)], c.go 1)
theorem smallP (s : List UInt8) : smallR 5 [.bool false] fP s = resD (fun b => [.bool b]) [.bool false] (prioD s) := by
  match s with
  | [] => rfl
  | a :: t =>
    by_cases h0 : a.toNat / 16 ≠ 5
    · simp only [smallR, prioD, if_pos h0]; rfl
    · simp only [smallR, prioD, if_neg h0, fP]
      have e : a.toNat % 16 % 2 = a.toNat % 2 := by omega
      rw [e]
      match t with
      | [] => simp [Cur.end_, resD]
      | b :: r => simp [Cur.end_, resD]
theorem smallB (k : Nat) (s : List UInt8) : smallR k [.int .u64 0] fB s = resD (fun n => [.int .u64 (n : Nat)]) [.int .u64 0] (bigD k s) := by
  match s with
  | [] => rfl
  | a :: t =>
    by_cases h0 : a.toNat / 16 ≠ k
    · simp only [smallR, bigD, if_pos h0]; rfl
    · simp only [smallR, bigD, if_neg h0, fB]
      by_cases h1 : 1 ≤ t.length
      · have g1 := (Cur.go_ok (c := ⟨a :: t, 1, false⟩) (n := 1) rfl (by simp; omega)).1
        simp only [g1]
        by_cases h9 : t.length < 9
        · have g2 := (Cur.go_no (c := ⟨a :: t, 2, false⟩) (n := 8) (.inr (by simp; omega))).1
          simp only [g2, if_pos h9]
          simp [Cur.end_, resD]
        · have g2 := Cur.go_ok (c := ⟨a :: t, 2, false⟩) (n := 8) rfl (by simp; omega)
          have g2' : (⟨a :: t, 1 + 1, false⟩ : Cur).go 8 = ⟨a :: t, 10, false⟩ := g2.1
          have g3' : (⟨a :: t, 1 + 1, false⟩ : Cur).got 8 = seg t 1 8 := g2.2
          simp only [g2', g3', if_neg h9]
          by_cases h10 : t.length = 9
          · simp [Cur.end_, resD, h10]
          · simp [h10, Cur.end_, resD, show 9 < t.length by omega, show ¬ t.length ≤ 9 by omega]
      · have g1 := (Cur.go_no (c := ⟨a :: t, 1, false⟩) (n := 1) (.inr (by simp; omega))).1
        simp only [g1, Cur.go_br, if_pos (show t.length < 9 by omega)]
        simp [Cur.end_, resD]
theorem smallT (s : List UInt8) : smallR 8 [.int .i64 0, .int .i64 0] fR s = resD (fun x => [.int .i64 x.1, .int .i64 x.2]) [.int .i64 0, .int .i64 0] (rstD s) := by
  match s with
  | [] => rfl
  | a :: t =>
    by_cases h0 : a.toNat / 16 ≠ 8
    · simp only [smallR, rstD, if_pos h0]; rfl
    · simp only [smallR, rstD, if_neg h0, fR]
      match t with
      | [] =>
        have g1 := (Cur.go_no (c := ⟨[a], 1, false⟩) (n := 1) (.inr (by simp))).1
        simp only [g1]
        simp [Cur.end_, resD]
      | b :: r =>
        have g1 := Cur.go_ok (c := ⟨a :: b :: r, 1, false⟩) (n := 1) rfl (by simp)
        simp only [g1.1, g1.2]
        match r with
        | [] => simp [Cur.end_, resD, seg, val_one]
        | c :: r => simp [Cur.end_, resD]
theorem prest_ok (B : AHeap) (m p : Nat) (c : Cur) (hm : m < 16) (hc : CurAt B p c) (R : Value → AHeap → Prop) (hr : ∀ B', CurAt B' p (fP m c).2 → Ext (fun j => j = p) B B' → R (.agg ⟨(fP m c).1⟩) B') : wF T (.func (.func 150) #[] #[]) [.int .u8 (m : Nat), .pointer (some ⟨p, 0, none⟩)] B R := by
  refine wF_func (first := []) (captured := []) t150 ⟨rfl, by decide⟩ ?_
  dsimp only [c150]
  have lp := AHeap.get_lt hc.g
  have m1 := bm1 (UInt8.ofNat m)
  rw [ofNat_toNat (by omega)] at m1
  simp only [Nat.div_one] at m1
  simp only [fP] at hr
  generalize decide (m % 2 = 1) = bb at hr m1
  simp [m1, bitI_z]
  have e2 : ∀ x y, Ext (fun j => j = p) B ((B.alloc x).set B.size y) := fun x y => ⟨by simp, fun j hj hn => by simp [show j ≠ B.size by omega]⟩
  refine hr _ (hc.ext (S := NoB) ?_ id) (e2 _ _)
  (repeat first | exact Ext.refl | assumption | refine Ext.allocN ?_ | refine Ext.setN ?_ (by first | omega | (simp; done) | (simp; omega)))
theorem frest_ok (B : AHeap) (m p : Nat) (c : Cur) (hm : m < 16) (hc : CurAt B p c) (R : Value → AHeap → Prop) (hr : ∀ B', CurAt B' p (fB m c).2 → Ext (fun j => j = p) B B' → R (.agg ⟨(fB m c).1⟩) B') : wF T (.func (.func 153) #[] #[]) [.int .u8 (m : Nat), .pointer (some ⟨p, 0, none⟩)] B R := by
  refine wF_func (first := []) (captured := []) t153 ⟨rfl, by decide⟩ ?_
  dsimp only [c153]
  have lp := AHeap.get_lt hc.g
  simp
  generalize hC : AHeap.alloc _ _ = C
  have c0 : C.get B.size = some (.cells [.int .u64 0] false 0) := by subst hC; simp
  have eC : Ext NoB B C := by subst hC; (repeat first | exact Ext.refl | assumption | refine Ext.allocN ?_ | refine Ext.setN ?_ (by first | omega | (simp; done) | (simp; omega)))
  refine U8_ok C p c (hc.ext eC id) _ fun D dc eD => ?_
  have d0 := eD.get c0 (by omega)
  simp
  refine U64_ok D p _ dc _ fun E ec eE => ?_
  have e0 := eE.get d0 (by omega)
  have lE := AHeap.get_lt e0
  simp [e0, lE]
  have key : Ext (fun j => j = p) B (E.set B.size (.cells [.int .u64 (val ((c.go 1).got 8) : Nat)] false 0)) :=
    ((((eC.mono fun _ _ z => z.elim).trans eD).trans eE)).trans2 (Ext.set (S := fun j => j = B.size) rfl) fun j hj hs => absurd hs (by omega)
  exact hr _ (ec.ext (Ext.set (S := fun j => j = B.size) rfl) (by omega)) key
theorem krest_ok (B : AHeap) (m p : Nat) (c : Cur) (hm : m < 16) (hc : CurAt B p c) (R : Value → AHeap → Prop) (hr : ∀ B', CurAt B' p (fB m c).2 → Ext (fun j => j = p) B B' → R (.agg ⟨(fB m c).1⟩) B') : wF T (.func (.func 155) #[] #[]) [.int .u8 (m : Nat), .pointer (some ⟨p, 0, none⟩)] B R := by
  refine wF_func (first := []) (captured := []) t155 ⟨rfl, by decide⟩ ?_
  dsimp only [c155]
  have lp := AHeap.get_lt hc.g
  simp
  generalize hC : AHeap.alloc _ _ = C
  have c0 : C.get B.size = some (.cells [.int .u64 0] false 0) := by subst hC; simp
  have eC : Ext NoB B C := by subst hC; (repeat first | exact Ext.refl | assumption | refine Ext.allocN ?_ | refine Ext.setN ?_ (by first | omega | (simp; done) | (simp; omega)))
  refine U8_ok C p c (hc.ext eC id) _ fun D dc eD => ?_
  have d0 := eD.get c0 (by omega)
  simp
  refine U64_ok D p _ dc _ fun E ec eE => ?_
  have e0 := eE.get d0 (by omega)
  have lE := AHeap.get_lt e0
  simp [e0, lE]
  have key : Ext (fun j => j = p) B (E.set B.size (.cells [.int .u64 (val ((c.go 1).got 8) : Nat)] false 0)) :=
    ((((eC.mono fun _ _ z => z.elim).trans eD).trans eE)).trans2 (Ext.set (S := fun j => j = B.size) rfl) fun j hj hs => absurd hs (by omega)
  exact hr _ (ec.ext (Ext.set (S := fun j => j = B.size) rfl) (by omega)) key
theorem trest_ok (B : AHeap) (m p : Nat) (c : Cur) (hm : m < 16) (hc : CurAt B p c) (R : Value → AHeap → Prop) (hr : ∀ B', CurAt B' p (fR m c).2 → Ext (fun j => j = p) B B' → R (.agg ⟨(fR m c).1⟩) B') : wF T (.func (.func 157) #[] #[]) [.int .u8 (m : Nat), .pointer (some ⟨p, 0, none⟩)] B R := by
  refine wF_func (first := []) (captured := []) t157 ⟨rfl, by decide⟩ ?_
  dsimp only [c157]
  have lp := AHeap.get_lt hc.g
  have wm : IntKind.i64.wrap (m : Int) = m := IntWalk.i64_in _ (by omega)
  have hg := got_lt c 1
  have wv : IntKind.i64.wrap ((val (c.got 1) : Nat) : Int) = (val (c.got 1) : Nat) := IntWalk.i64_in _ (by omega)
  simp [wm]
  generalize hC : AHeap.alloc _ _ = C
  have c0 : C.get B.size = some (.cells [.int .i64 0, .int .i64 0] false 0) := by subst hC; simp
  have eC : Ext NoB B C := by subst hC; (repeat first | exact Ext.refl | assumption | refine Ext.allocN ?_ | refine Ext.setN ?_ (by first | omega | (simp; done) | (simp; omega)))
  refine U8_ok C p c (hc.ext eC id) _ fun D dc eD => ?_
  have d0 := eD.get c0 (by omega)
  have lD := AHeap.get_lt d0
  simp [d0, lD, wv]
  generalize hE : AHeap.set _ _ _ = E
  have eDE : Ext (fun j => j = B.size) D E := by subst hE; exact Ext.set rfl
  have key : Ext (fun j => j = p) B E := ((eC.mono fun _ _ z => z.elim).trans eD).trans2 eDE fun j hj hs => absurd hs (by omega)
  exact hr _ (dc.ext eDE (by omega)) key
theorem pdec_ok (A : AHeap) (s : List UInt8) (hs : s.length < 1000000) (Q : Value → AHeap → Prop) (hq : ∀ A', Ext NoB A A' → Q (resD (fun b => [.bool b]) [.bool false] (prioD s)) A') : wF T (.func (.func 95) #[] #[]) [.string ⟨⟨s⟩⟩] A Q := by
  refine wF_func (first := []) (captured := []) t95 ⟨rfl, by decide⟩ ?_
  dsimp only [c95]
  simp
  generalize hC : AHeap.alloc _ _ = C
  have c0 : C.get A.size = some (.cells [.bool false] false 0) := by subst hC; simp
  have eC : Ext NoB A C := by subst hC; (repeat first | exact Ext.refl | assumption | refine Ext.allocN ?_ | refine Ext.setN ?_ (by first | omega | (simp; done) | (simp; omega)))
  refine small149_ok C s 5 (by decide) _ fP (fun m c => ⟨rfl, rfl⟩) (fun B m p c hm hc R hr => prest_ok B m p c hm hc R hr) hs _ fun D eD => ?_
  have d0 := eD.get c0 id
  have lD := AHeap.get_lt d0
  have eeD := eC.trans eD
  rw [smallP s]
  cases hx : prioD s <;> rw [hx] at hq <;> simp [resD, d0, lD] <;> exact hq _ (by have := eeD.size; (repeat first | exact Ext.refl | assumption | refine Ext.allocN ?_ | refine Ext.setN ?_ (by first | omega | (simp; done) | (simp; omega))))
theorem fdec_ok (A : AHeap) (s : List UInt8) (hs : s.length < 1000000) (Q : Value → AHeap → Prop) (hq : ∀ A', Ext NoB A A' → Q (resD (fun n => [.int .u64 ((n : Nat) : Int)]) [.int .u64 0] (bigD 6 s)) A') : wF T (.func (.func 99) #[] #[]) [.string ⟨⟨s⟩⟩] A Q := by
  refine wF_func (first := []) (captured := []) t99 ⟨rfl, by decide⟩ ?_
  dsimp only [c99]
  simp
  generalize hC : AHeap.alloc _ _ = C
  have c0 : C.get A.size = some (.cells [.int .u64 0] false 0) := by subst hC; simp
  have eC : Ext NoB A C := by subst hC; (repeat first | exact Ext.refl | assumption | refine Ext.allocN ?_ | refine Ext.setN ?_ (by first | omega | (simp; done) | (simp; omega)))
  refine small152_ok C s 6 (by decide) _ fB (fun m c => ⟨rfl, rfl⟩) (fun B m p c hm hc R hr => frest_ok B m p c hm hc R hr) hs _ fun D eD => ?_
  have d0 := eD.get c0 id
  have lD := AHeap.get_lt d0
  have eeD := eC.trans eD
  rw [smallB 6 s]
  cases hx : bigD 6 s <;> rw [hx] at hq <;> simp [resD, d0, lD] <;> exact hq _ (by have := eeD.size; (repeat first | exact Ext.refl | assumption | refine Ext.allocN ?_ | refine Ext.setN ?_ (by first | omega | (simp; done) | (simp; omega))))
theorem kdec_ok (A : AHeap) (s : List UInt8) (hs : s.length < 1000000) (Q : Value → AHeap → Prop) (hq : ∀ A', Ext NoB A A' → Q (resD (fun n => [.int .u64 ((n : Nat) : Int)]) [.int .u64 0] (bigD 7 s)) A') : wF T (.func (.func 103) #[] #[]) [.string ⟨⟨s⟩⟩] A Q := by
  refine wF_func (first := []) (captured := []) t103 ⟨rfl, by decide⟩ ?_
  dsimp only [c103]
  simp
  generalize hC : AHeap.alloc _ _ = C
  have c0 : C.get A.size = some (.cells [.int .u64 0] false 0) := by subst hC; simp
  have eC : Ext NoB A C := by subst hC; (repeat first | exact Ext.refl | assumption | refine Ext.allocN ?_ | refine Ext.setN ?_ (by first | omega | (simp; done) | (simp; omega)))
  refine small154_ok C s 7 (by decide) _ fB (fun m c => ⟨rfl, rfl⟩) (fun B m p c hm hc R hr => krest_ok B m p c hm hc R hr) hs _ fun D eD => ?_
  have d0 := eD.get c0 id
  have lD := AHeap.get_lt d0
  have eeD := eC.trans eD
  rw [smallB 7 s]
  cases hx : bigD 7 s <;> rw [hx] at hq <;> simp [resD, d0, lD] <;> exact hq _ (by have := eeD.size; (repeat first | exact Ext.refl | assumption | refine Ext.allocN ?_ | refine Ext.setN ?_ (by first | omega | (simp; done) | (simp; omega))))
theorem tdec_ok (A : AHeap) (s : List UInt8) (hs : s.length < 1000000) (Q : Value → AHeap → Prop) (hq : ∀ A', Ext NoB A A' → Q (resD (fun x => [.int .i64 x.1, .int .i64 x.2]) [.int .i64 0, .int .i64 0] (rstD s)) A') : wF T (.func (.func 107) #[] #[]) [.string ⟨⟨s⟩⟩] A Q := by
  refine wF_func (first := []) (captured := []) t107 ⟨rfl, by decide⟩ ?_
  dsimp only [c107]
  simp
  generalize hC : AHeap.alloc _ _ = C
  have c0 : C.get A.size = some (.cells [.int .i64 0, .int .i64 0] false 0) := by subst hC; simp
  have eC : Ext NoB A C := by subst hC; (repeat first | exact Ext.refl | assumption | refine Ext.allocN ?_ | refine Ext.setN ?_ (by first | omega | (simp; done) | (simp; omega)))
  refine small156_ok C s 8 (by decide) _ fR (fun m c => ⟨rfl, rfl⟩) (fun B m p c hm hc R hr => trest_ok B m p c hm hc R hr) hs _ fun D eD => ?_
  have d0 := eD.get c0 id
  have lD := AHeap.get_lt d0
  have eeD := eC.trans eD
  rw [smallT s]
  cases hx : rstD s <;> rw [hx] at hq <;> simp [resD, d0, lD] <;> exact hq _ (by have := eeD.size; (repeat first | exact Ext.refl | assumption | refine Ext.allocN ?_ | refine Ext.setN ?_ (by first | omega | (simp; done) | (simp; omega))))
end Go.Proofs.YtigknpfjhegkgaaGreatDoor
end

section
/- Items, read as options. -/
namespace Go.Proofs.YtigknpfjhegkgaaGreatDoor
open Go Go.AS
set_option maxRecDepth 100000
set_option linter.unusedSimpArgs false
set_option linter.unusedVariables false
attribute [local irreducible] Trie.set Trie.get Env.rd
attribute [local simp ↓] wV_b2s
attribute [local simp] Nat.add_assoc wD_cons'' wD_nil' wC_seq wC_ops wC_opsD_nil wC_cond wC_skip wC_ret wC_exit wC_block wO_cons' wO_nil wantedA wV_eq lop qop ev wL_some wL_none wPut envOf rd_set rd_leaf eqA thenC blockC wB_true wB_false endF unwindA resultsA resA tupleA rdCell rdCells wrCells cl fillP lay rep bi_eql bi_neq bi_lss bi_leq bi_gtr bi_geq bi_add bi_sub bs_eql bs_neq bi_shr4 unA get_set' AHeap.get_alloc oneCell beqd bned idxA
attribute [local simp] Op.len Op.one Cap.ln Jn.len Ds.ln Ad.len Cap.one Jn.one Ds.one Ad.one Op.take Op.at0 Op.head? Op.getCap Op.tCap Op.getJn Op.getDs Op.getAd Op.getIds Op.getPrio Op.getFail Op.getFast Op.getRst Op.putCap Op.putJn Op.putDs Op.putAd Op.putSub Op.putIds Op.putPrio Op.putFail Op.putFast Op.putRf Op.putRr Op.layAll Op.zeroC Op.vb
theorem cap_err {s : List UInt8} {e : Int} (h : Cap.dec s = .error e) : e ≠ 0 := by
  intro he; subst he
  match s, h with
  | a :: t, h =>
    simp only [Cap.dec] at h
    split at h
    · cases h
    split at h
    · cases h
    split at h
    · split at h <;> cases h
    · cases h
theorem jn_err {s : List UInt8} {e : Int} (h : Jn.dec s = .error e) : e ≠ 0 := by
  intro he; subst he
  match s, h with
  | a :: t, h =>
    simp only [Jn.dec] at h
    split at h
    · cases h
    split at h
    · cases h
    split at h
    · cases h
    split at h
    · cases h
    split at h <;> cases h
theorem ds_err {s : List UInt8} {e : Int} (h : Ds.dec s = .error e) : e ≠ 0 := by
  intro he; subst he
  match s, h with
  | a :: t, h =>
    simp only [Ds.dec] at h
    split at h
    · cases h
    split at h
    · cases h
    rename_i b r
    generalize (if decide (b.toNat % 2 = 1) = true then wide (decide (b.toNat % 2 = 1) && decide (b.toNat / 2 % 2 = 1)) else 0) + (if decide (b.toNat / 4 % 2 = 1) = true then wide (decide (b.toNat / 4 % 2 = 1) && decide (b.toNat / 8 % 2 = 1)) else 0) + (if decide (b.toNat / 4 % 2 = 1) = true then 6 else 0) = n at h
    by_cases h1 : (!decide (b.toNat % 2 = 1) && !decide (b.toNat / 4 % 2 = 1)) = true
    · rw [if_pos h1] at h; cases h
    rw [if_neg h1] at h
    by_cases h2 : r.length < n
    · rw [if_pos h2] at h; cases h
    rw [if_neg h2] at h
    by_cases h3 : r.length = n ∨ decide (b.toNat / 4 % 2 = 1) = true ∧ r.length = n + 2
    · rw [if_pos h3] at h; cases h
    · rw [if_neg h3] at h; cases h
theorem ad_err {s : List UInt8} {e : Int} (h : Ad.dec s = .error e) : e ≠ 0 := by
  intro he; subst he
  match s, h with
  | a :: t, h =>
    simp only [Ad.dec] at h
    split at h
    · cases h
    split at h
    · cases h
    generalize (if decide (a.toNat % 2 = 1) = true then 0 else 8) = m at h
    split at h
    · cases h
    split at h
    · cases h
    split at h
    · cases h
    split at h <;> cases h
theorem rem_err {s : List UInt8} {e : Int} (h : remD s = .error e) : e ≠ 0 := by
  intro he; subst he
  match s, h with
  | a :: t, h =>
    simp only [remD] at h
    split at h
    · cases h
    split at h <;> cases h
theorem prio_err {s : List UInt8} {e : Int} (h : prioD s = .error e) : e ≠ 0 := by
  intro he; subst he
  match s, h with
  | a :: t, h =>
    simp only [prioD] at h
    split at h
    · cases h
    split at h <;> cases h
theorem big_err {k : Nat} {s : List UInt8} {e : Int} (h : bigD k s = .error e) : e ≠ 0 := by
  intro he; subst he
  match s, h with
  | a :: t, h =>
    simp only [bigD] at h
    split at h
    · cases h
    split at h
    · cases h
    split at h <;> cases h
theorem rst_err {s : List UInt8} {e : Int} (h : rstD s = .error e) : e ≠ 0 := by
  intro he; subst he
  match s, h with
  | a :: t, h =>
    simp only [rstD] at h
    split at h
    · cases h
    split at h
    · cases h
    split at h <;> cases h
theorem czL : cz.length = 8 ∧ cz.all oneCell = true ∧ AS.lay (Op.only 0).cells 1 cz = (Op.only 0).cells := ⟨rfl, rfl, rfl⟩
theorem jzL : jz.length = 6 ∧ jz.all oneCell = true ∧ AS.lay (Op.only 1).cells 9 jz = (Op.only 1).cells := ⟨rfl, rfl, rfl⟩
theorem dzL : dz.length = 11 ∧ dz.all oneCell = true ∧ AS.lay (Op.only 2).cells 15 dz = (Op.only 2).cells := ⟨rfl, rfl, rfl⟩
theorem azL : az.length = 6 ∧ az.all oneCell = true ∧ AS.lay (Op.only 3).cells 26 az = (Op.only 3).cells := ⟨rfl, rfl, rfl⟩
theorem e4L : (Op.only 4).cells.set 32 (.string ⟨⟨[]⟩⟩) = (Op.only 4).cells := rfl
theorem e5L : (Op.only 5).cells.set 33 (.bool false) = (Op.only 5).cells := rfl
theorem e6L : (Op.only 6).cells.set 34 (.int .u64 0) = (Op.only 6).cells := rfl
theorem e7L : (Op.only 7).cells.set 35 (.int .u64 0) = (Op.only 7).cells := rfl
theorem e8L : ((Op.only 8).cells.set 36 (.int .i64 0)).set 37 (.int .i64 0) = (Op.only 8).cells := rfl
theorem read0_ok (A : AHeap) (q : Nat) (s : List UInt8) (hs : s.length < 1000000) (g : A.get q = some (.cells (Op.only 0).cells false 0)) (Q : Value → AHeap → Prop)
    (h1 : ∀ x A', mapE (fun x => { Op.only 0 with cap := x }) (Cap.dec s) = .ok x → A'.get q = some (.cells x.cells false 0) → Ext (fun j => j = q) A A' → Q (.int .i64 0) A') (h2 : ∀ e A', mapE (fun x => { Op.only 0 with cap := x }) (Cap.dec s) = .error e → e ≠ 0 → A'.get q = some (.cells (Op.only 0).cells false 0) → Ext (fun j => j = q) A A' → Q (.int .i64 e) A') :
    wF T (.func (.func 74) #[] #[]) [.pointer (some ⟨q, 0, none⟩), .string ⟨⟨s⟩⟩] A Q := by
  refine wF_func (first := []) (captured := []) t74 ⟨rfl, by decide⟩ ?_
  dsimp only [c74]
  simp
  refine cdec_ok A s hs _ fun B eB => ?_
  have gB := eB.get g id
  have lB := AHeap.get_lt gB
  have fin : ∀ y, Ext (fun j => j = q) A (B.set q y) := fun y => (eB.mono fun _ _ z => z.elim).trans (Ext.set rfl)
  cases hx : Cap.dec s with
  | ok x =>
    rw [hx] at h1
    simp [resD, gB, lB]
    exact h1 _ _ rfl (by simp [lB]; try rfl) (fin _)
  | error e =>
    have he := cap_err hx
    rw [hx] at h2
    simp [resD, gB, lB, czL]
    exact h2 _ _ rfl he (by simp [lB]; try rfl) (fin _)
theorem read1_ok (A : AHeap) (q : Nat) (s : List UInt8) (hs : s.length < 1000000) (g : A.get q = some (.cells (Op.only 1).cells false 0)) (Q : Value → AHeap → Prop)
    (h1 : ∀ x A', mapE (fun x => { Op.only 1 with jn := x }) (Jn.dec s) = .ok x → A'.get q = some (.cells x.cells false 0) → Ext (fun j => j = q) A A' → Q (.int .i64 0) A') (h2 : ∀ e A', mapE (fun x => { Op.only 1 with jn := x }) (Jn.dec s) = .error e → e ≠ 0 → A'.get q = some (.cells (Op.only 1).cells false 0) → Ext (fun j => j = q) A A' → Q (.int .i64 e) A') :
    wF T (.func (.func 78) #[] #[]) [.pointer (some ⟨q, 0, none⟩), .string ⟨⟨s⟩⟩] A Q := by
  refine wF_func (first := []) (captured := []) t78 ⟨rfl, by decide⟩ ?_
  dsimp only [c78]
  simp
  refine jdec_ok A s hs _ fun B eB => ?_
  have gB := eB.get g id
  have lB := AHeap.get_lt gB
  have fin : ∀ y, Ext (fun j => j = q) A (B.set q y) := fun y => (eB.mono fun _ _ z => z.elim).trans (Ext.set rfl)
  cases hx : Jn.dec s with
  | ok x =>
    rw [hx] at h1
    simp [resD, gB, lB]
    exact h1 _ _ rfl (by simp [lB]; try rfl) (fin _)
  | error e =>
    have he := jn_err hx
    rw [hx] at h2
    simp [resD, gB, lB, jzL]
    exact h2 _ _ rfl he (by simp [lB]; try rfl) (fin _)
theorem read2_ok (A : AHeap) (q : Nat) (s : List UInt8) (hs : s.length < 1000000) (g : A.get q = some (.cells (Op.only 2).cells false 0)) (Q : Value → AHeap → Prop)
    (h1 : ∀ x A', mapE (fun x => { Op.only 2 with ds := x }) (Ds.dec s) = .ok x → A'.get q = some (.cells x.cells false 0) → Ext (fun j => j = q) A A' → Q (.int .i64 0) A') (h2 : ∀ e A', mapE (fun x => { Op.only 2 with ds := x }) (Ds.dec s) = .error e → e ≠ 0 → A'.get q = some (.cells (Op.only 2).cells false 0) → Ext (fun j => j = q) A A' → Q (.int .i64 e) A') :
    wF T (.func (.func 82) #[] #[]) [.pointer (some ⟨q, 0, none⟩), .string ⟨⟨s⟩⟩] A Q := by
  refine wF_func (first := []) (captured := []) t82 ⟨rfl, by decide⟩ ?_
  dsimp only [c82]
  simp
  refine ddec_ok A s hs _ fun B eB => ?_
  have gB := eB.get g id
  have lB := AHeap.get_lt gB
  have fin : ∀ y, Ext (fun j => j = q) A (B.set q y) := fun y => (eB.mono fun _ _ z => z.elim).trans (Ext.set rfl)
  cases hx : Ds.dec s with
  | ok x =>
    rw [hx] at h1
    simp [resD, gB, lB]
    exact h1 _ _ rfl (by simp [lB]; try rfl) (fin _)
  | error e =>
    have he := ds_err hx
    rw [hx] at h2
    simp [resD, gB, lB, dzL]
    exact h2 _ _ rfl he (by simp [lB]; try rfl) (fin _)
theorem read3_ok (A : AHeap) (q : Nat) (s : List UInt8) (hs : s.length < 1000000) (g : A.get q = some (.cells (Op.only 3).cells false 0)) (Q : Value → AHeap → Prop)
    (h1 : ∀ x A', mapE (fun x => { Op.only 3 with ad := x }) (Ad.dec s) = .ok x → A'.get q = some (.cells x.cells false 0) → Ext (fun j => j = q) A A' → Q (.int .i64 0) A') (h2 : ∀ e A', mapE (fun x => { Op.only 3 with ad := x }) (Ad.dec s) = .error e → e ≠ 0 → A'.get q = some (.cells (Op.only 3).cells false 0) → Ext (fun j => j = q) A A' → Q (.int .i64 e) A') :
    wF T (.func (.func 86) #[] #[]) [.pointer (some ⟨q, 0, none⟩), .string ⟨⟨s⟩⟩] A Q := by
  refine wF_func (first := []) (captured := []) t86 ⟨rfl, by decide⟩ ?_
  dsimp only [c86]
  simp
  refine adec_ok A s hs _ fun B eB => ?_
  have gB := eB.get g id
  have lB := AHeap.get_lt gB
  have fin : ∀ y, Ext (fun j => j = q) A (B.set q y) := fun y => (eB.mono fun _ _ z => z.elim).trans (Ext.set rfl)
  cases hx : Ad.dec s with
  | ok x =>
    rw [hx] at h1
    simp [resD, gB, lB]
    exact h1 _ _ rfl (by simp [lB]; try rfl) (fin _)
  | error e =>
    have he := ad_err hx
    rw [hx] at h2
    simp [resD, gB, lB, azL]
    exact h2 _ _ rfl he (by simp [lB]; try rfl) (fin _)
theorem read4_ok (A : AHeap) (q : Nat) (s : List UInt8) (hs : s.length < 1000000) (g : A.get q = some (.cells (Op.only 4).cells false 0)) (Q : Value → AHeap → Prop)
    (h1 : ∀ x A', mapE (fun x => { Op.only 4 with ids := x }) (remD s) = .ok x → A'.get q = some (.cells x.cells false 0) → Ext (fun j => j = q) A A' → Q (.int .i64 0) A') (h2 : ∀ e A', mapE (fun x => { Op.only 4 with ids := x }) (remD s) = .error e → e ≠ 0 → A'.get q = some (.cells (Op.only 4).cells false 0) → Ext (fun j => j = q) A A' → Q (.int .i64 e) A') :
    wF T (.func (.func 90) #[] #[]) [.pointer (some ⟨q, 0, none⟩), .string ⟨⟨s⟩⟩] A Q := by
  refine wF_func (first := []) (captured := []) t90 ⟨rfl, by decide⟩ ?_
  dsimp only [c90]
  simp
  refine rdec_ok A s hs _ fun B eB => ?_
  have gB := eB.get g id
  have lB := AHeap.get_lt gB
  have fin : ∀ y, Ext (fun j => j = q) A (B.set q y) := fun y => (eB.mono fun _ _ z => z.elim).trans (Ext.set rfl)
  cases hx : remD s with
  | ok x =>
    rw [hx] at h1
    simp [resD, gB, lB]
    exact h1 _ _ rfl (by simp [lB]; try rfl) (fin _)
  | error e =>
    have he := rem_err hx
    rw [hx] at h2
    simp [resD, gB, lB, e4L]
    exact h2 _ _ rfl he (by simp [lB]; try rfl) (fin _)
theorem read5_ok (A : AHeap) (q : Nat) (s : List UInt8) (hs : s.length < 1000000) (g : A.get q = some (.cells (Op.only 5).cells false 0)) (Q : Value → AHeap → Prop)
    (h1 : ∀ x A', mapE (fun x => { Op.only 5 with prio := x }) (prioD s) = .ok x → A'.get q = some (.cells x.cells false 0) → Ext (fun j => j = q) A A' → Q (.int .i64 0) A') (h2 : ∀ e A', mapE (fun x => { Op.only 5 with prio := x }) (prioD s) = .error e → e ≠ 0 → A'.get q = some (.cells (Op.only 5).cells false 0) → Ext (fun j => j = q) A A' → Q (.int .i64 e) A') :
    wF T (.func (.func 94) #[] #[]) [.pointer (some ⟨q, 0, none⟩), .string ⟨⟨s⟩⟩] A Q := by
  refine wF_func (first := []) (captured := []) t94 ⟨rfl, by decide⟩ ?_
  dsimp only [c94]
  simp
  refine pdec_ok A s hs _ fun B eB => ?_
  have gB := eB.get g id
  have lB := AHeap.get_lt gB
  have fin : ∀ y, Ext (fun j => j = q) A (B.set q y) := fun y => (eB.mono fun _ _ z => z.elim).trans (Ext.set rfl)
  cases hx : prioD s with
  | ok x =>
    rw [hx] at h1
    simp [resD, gB, lB]
    exact h1 _ _ rfl (by simp [lB]; try rfl) (fin _)
  | error e =>
    have he := prio_err hx
    rw [hx] at h2
    simp [resD, gB, lB, e5L]
    exact h2 _ _ rfl he (by simp [lB]; try rfl) (fin _)
theorem read6_ok (A : AHeap) (q : Nat) (s : List UInt8) (hs : s.length < 1000000) (g : A.get q = some (.cells (Op.only 6).cells false 0)) (Q : Value → AHeap → Prop)
    (h1 : ∀ x A', mapE (fun x => { Op.only 6 with fail := x }) (bigD 6 s) = .ok x → A'.get q = some (.cells x.cells false 0) → Ext (fun j => j = q) A A' → Q (.int .i64 0) A') (h2 : ∀ e A', mapE (fun x => { Op.only 6 with fail := x }) (bigD 6 s) = .error e → e ≠ 0 → A'.get q = some (.cells (Op.only 6).cells false 0) → Ext (fun j => j = q) A A' → Q (.int .i64 e) A') :
    wF T (.func (.func 98) #[] #[]) [.pointer (some ⟨q, 0, none⟩), .string ⟨⟨s⟩⟩] A Q := by
  refine wF_func (first := []) (captured := []) t98 ⟨rfl, by decide⟩ ?_
  dsimp only [c98]
  simp
  refine fdec_ok A s hs _ fun B eB => ?_
  have gB := eB.get g id
  have lB := AHeap.get_lt gB
  have fin : ∀ y, Ext (fun j => j = q) A (B.set q y) := fun y => (eB.mono fun _ _ z => z.elim).trans (Ext.set rfl)
  cases hx : bigD 6 s with
  | ok x =>
    rw [hx] at h1
    simp [resD, gB, lB]
    exact h1 _ _ rfl (by simp [lB]; try rfl) (fin _)
  | error e =>
    have he := big_err hx
    rw [hx] at h2
    simp [resD, gB, lB, e6L]
    exact h2 _ _ rfl he (by simp [lB]; try rfl) (fin _)
theorem read7_ok (A : AHeap) (q : Nat) (s : List UInt8) (hs : s.length < 1000000) (g : A.get q = some (.cells (Op.only 7).cells false 0)) (Q : Value → AHeap → Prop)
    (h1 : ∀ x A', mapE (fun x => { Op.only 7 with fast := x }) (bigD 7 s) = .ok x → A'.get q = some (.cells x.cells false 0) → Ext (fun j => j = q) A A' → Q (.int .i64 0) A') (h2 : ∀ e A', mapE (fun x => { Op.only 7 with fast := x }) (bigD 7 s) = .error e → e ≠ 0 → A'.get q = some (.cells (Op.only 7).cells false 0) → Ext (fun j => j = q) A A' → Q (.int .i64 e) A') :
    wF T (.func (.func 102) #[] #[]) [.pointer (some ⟨q, 0, none⟩), .string ⟨⟨s⟩⟩] A Q := by
  refine wF_func (first := []) (captured := []) t102 ⟨rfl, by decide⟩ ?_
  dsimp only [c102]
  simp
  refine kdec_ok A s hs _ fun B eB => ?_
  have gB := eB.get g id
  have lB := AHeap.get_lt gB
  have fin : ∀ y, Ext (fun j => j = q) A (B.set q y) := fun y => (eB.mono fun _ _ z => z.elim).trans (Ext.set rfl)
  cases hx : bigD 7 s with
  | ok x =>
    rw [hx] at h1
    simp [resD, gB, lB]
    exact h1 _ _ rfl (by simp [lB]; try rfl) (fin _)
  | error e =>
    have he := big_err hx
    rw [hx] at h2
    simp [resD, gB, lB, e7L]
    exact h2 _ _ rfl he (by simp [lB]; try rfl) (fin _)
theorem read8_ok (A : AHeap) (q : Nat) (s : List UInt8) (hs : s.length < 1000000) (g : A.get q = some (.cells (Op.only 8).cells false 0)) (Q : Value → AHeap → Prop)
    (h1 : ∀ x A', mapE (fun x => { Op.only 8 with rf := x.1, rr := x.2 }) (rstD s) = .ok x → A'.get q = some (.cells x.cells false 0) → Ext (fun j => j = q) A A' → Q (.int .i64 0) A') (h2 : ∀ e A', mapE (fun x => { Op.only 8 with rf := x.1, rr := x.2 }) (rstD s) = .error e → e ≠ 0 → A'.get q = some (.cells (Op.only 8).cells false 0) → Ext (fun j => j = q) A A' → Q (.int .i64 e) A') :
    wF T (.func (.func 106) #[] #[]) [.pointer (some ⟨q, 0, none⟩), .string ⟨⟨s⟩⟩] A Q := by
  refine wF_func (first := []) (captured := []) t106 ⟨rfl, by decide⟩ ?_
  dsimp only [c106]
  simp
  refine tdec_ok A s hs _ fun B eB => ?_
  have gB := eB.get g id
  have lB := AHeap.get_lt gB
  have fin : ∀ y, Ext (fun j => j = q) A (B.set q y) := fun y => (eB.mono fun _ _ z => z.elim).trans (Ext.set rfl)
  cases hx : rstD s with
  | ok x =>
    rw [hx] at h1
    simp [resD, gB, lB]
    exact h1 _ _ rfl (by simp [lB]; try rfl) (fin _)
  | error e =>
    have he := rst_err hx
    rw [hx] at h2
    simp [resD, gB, lB, e8L]
    exact h2 _ _ rfl he (by simp [lB]; try rfl) (fin _)
end Go.Proofs.YtigknpfjhegkgaaGreatDoor
end

section
/- Items, read as options: the whole. -/
namespace Go.Proofs.YtigknpfjhegkgaaGreatDoor
open Go Go.AS
set_option maxRecDepth 100000
set_option linter.unusedSimpArgs false
set_option linter.unusedVariables false
attribute [local irreducible] Trie.set Trie.get Env.rd
attribute [local simp ↓] wV_b2s
attribute [local simp] Nat.add_assoc wD_cons'' wD_nil' wC_seq wC_ops wC_opsD_nil wC_cond wC_skip wC_ret wC_exit wC_block wO_cons' wO_nil wantedA wV_eq lop qop ev wL_some wL_none wPut envOf rd_set rd_leaf eqA thenC blockC wB_true wB_false endF unwindA resultsA resA tupleA rdCell rdCells wrCells cl fillP lay rep bi_eql bi_neq bi_lss bi_leq bi_gtr bi_geq bi_add bi_sub bs_eql bs_neq bi_shr4 unA get_set' AHeap.get_alloc oneCell beqd bned idxA
attribute [local simp] Op.len Op.one Cap.ln Jn.len Ds.ln Ad.len Cap.one Jn.one Ds.one Ad.one Op.take Op.at0 Op.head? Op.getCap Op.tCap Op.getJn Op.getDs Op.getAd Op.getIds Op.getPrio Op.getFail Op.getFast Op.getRst Op.putCap Op.putJn Op.putDs Op.putAd Op.putSub Op.putIds Op.putPrio Op.putFail Op.putFast Op.putRf Op.putRr Op.layAll Op.zeroC Op.vb
def resR : Except Int Op → Value
  | .ok x => .tuple ⟨[.agg ⟨x.cells⟩, .nilIface]⟩
  | .error e => .tuple ⟨[.agg ⟨opZ⟩, .iface 31 (.int .i64 e)]⟩
theorem only_sub (k : Int) : (Op.only k).sub = k := rfl
theorem only_lit (k : Int) : (⟨k, Op.zero.cap, Op.zero.jn, Op.zero.ds, Op.zero.ad, Op.zero.ids, Op.zero.prio, Op.zero.fail, Op.zero.fast, Op.zero.rf, Op.zero.rr⟩ : Op) = Op.only k := rfl
attribute [local simp] only_lit
theorem read_ok (A : AHeap) (k : Int) (s : List UInt8) (hs : s.length < 1000000) (Q : Value → AHeap → Prop) (hq : ∀ A', Ext NoB A A' → Q (resR (Op.dec k s)) A') : wF T (.func (.func 34) #[] #[]) [.agg ⟨[.int .i64 k, .string ⟨⟨s⟩⟩]⟩] A Q := by
  refine wF_func (first := []) (captured := []) t34 ⟨rfl, by decide⟩ ?_
  dsimp only [c34]
  by_cases hk : k = 30
  case neg =>
    have hd : Op.dec k s = .error 7 := by unfold Op.dec; rw [if_pos hk]
    rw [hd] at hq
    simp [hk]
    exact hq _ (by (repeat first | exact Ext.refl | assumption | refine Ext.allocN ?_ | refine Ext.setN ?_ (by first | omega | (simp; done) | (simp; omega))))
  subst hk
  match s, hs, hq with
  | [], hs, hq =>
    simp
    exact hq _ (by (repeat first | exact Ext.refl | assumption | refine Ext.allocN ?_ | refine Ext.setN ?_ (by first | omega | (simp; done) | (simp; omega))))
  | a :: t, hs, hq =>
    have ha := a.toNat_lt
    by_cases h9 : 9 ≤ a.toNat / 16
    · have hd : Op.dec 30 (a :: t) = .error 7 := by
        rw [Op.dec_at]
        rw [if_neg (by omega), if_neg (by omega), if_neg (by omega), if_neg (by omega), if_neg (by omega), if_neg (by omega), if_neg (by omega), if_neg (by omega), if_neg (by omega)]
      rw [hd] at hq
      have y0 : (9 : Int) ≤ (a.toNat : Int) / 16 := by omega
      simp [y0]
      exact hq _ (by (repeat first | exact Ext.refl | assumption | refine Ext.allocN ?_ | refine Ext.setN ?_ (by first | omega | (simp; done) | (simp; omega))))
    have y0 : ¬ (9 : Int) ≤ (a.toNat : Int) / 16 := by omega
    have wa : IntKind.i64.wrap ((a.toNat : Int) / 16) = (a.toNat : Int) / 16 := IntWalk.i64_in _ (by omega)
    rw [Op.dec_at] at hq
    obtain ⟨n, hn⟩ : ∃ n, n = a.toNat / 16 := ⟨_, rfl⟩
    have hni : (a.toNat : Int) / 16 = (n : Nat) := by omega
    rw [← hn] at hq h9
    rw [hni] at y0 wa
    simp [hni, y0, wa]
    generalize hB : AHeap.set _ _ _ = B
    have b1 : B.get A.size = some (.cells [.int .i64 30, .string ⟨⟨a :: t⟩⟩] false 0) := by subst hB; simp
    have b2 : B.get (A.size + 1) = some (.cells opZ false 0) := by subst hB; simp
    have b4 : B.get (A.size + 2) = some (.cells (Op.only n).cells false 0) := by subst hB; simp
    have eB : Ext NoB A B := by subst hB; (repeat first | exact Ext.refl | assumption | refine Ext.allocN ?_ | refine Ext.setN ?_ (by first | omega | (simp; done) | (simp; omega)))
    refine wC_opsD_chk ?_
    simp
    refine all_ok B _ fun C eC => ?_
    have c1 := eC.get b1 id
    have c2 := eC.get b2 id
    have c4 := eC.get b4 id
    have eeC := eB.trans eC
    have hc : n = 0 ∨ n = 1 ∨ n = 2 ∨ n = 3 ∨ n = 4 ∨ n = 5 ∨ n = 6 ∨ n = 7 ∨ n = 8 := by omega
    rcases hc with h | h | h | h | h | h | h | h | h
    · subst h
      simp [c4, c1, only_sub]
      refine read0_ok C (A.size + 2) (a :: t) hs c4 _ (fun x D hx d4 eD => ?_) fun e D hx he d4 eD => ?_
      · have d1 := eD.get c1 (by omega)
        have d2 := eD.get c2 (by omega)
        have l2 := AHeap.get_lt d2
        simp
        refine wE_intro ?_ ?_
        · simp only [List.all_cons, List.all_nil, chkOk, List.nil_append, List.cons_append, List.getElem?_cons_succ, List.getElem?_cons_zero]
          simp [Bx, b1, b4, c1, c4, vbeq, only_sub]
        simp [d4, d2, l2]
        have hq' : ∀ A', Ext NoB A A' → Q (resR (.ok x)) A' := by intro A' e'; have := hq A' e'; simp (decide := true) only [if_true, if_false] at this; rw [hx] at this; exact this
        exact hq' _ (by have := eeC.past eD (by omega); (repeat first | exact Ext.refl | assumption | refine Ext.allocN ?_ | refine Ext.setN ?_ (by first | omega | (simp; done) | (simp; omega))))
      · have d1 := eD.get c1 (by omega)
        have d2 := eD.get c2 (by omega)
        have l2 := AHeap.get_lt d2
        simp
        refine wE_intro ?_ ?_
        · simp only [List.all_cons, List.all_nil, chkOk, List.nil_append, List.cons_append, List.getElem?_cons_succ, List.getElem?_cons_zero]
          simp [Bx, b1, b4, c1, c4, vbeq, only_sub]
        simp [he, d4, d2, l2]
        have hq' : ∀ A', Ext NoB A A' → Q (resR (.error e)) A' := by intro A' e'; have := hq A' e'; simp (decide := true) only [if_true, if_false] at this; rw [hx] at this; exact this
        exact hq' _ (by have := eeC.past eD (by omega); (repeat first | exact Ext.refl | assumption | refine Ext.allocN ?_ | refine Ext.setN ?_ (by first | omega | (simp; done) | (simp; omega))))
    · subst h
      simp [c4, c1, only_sub]
      refine read1_ok C (A.size + 2) (a :: t) hs c4 _ (fun x D hx d4 eD => ?_) fun e D hx he d4 eD => ?_
      · have d1 := eD.get c1 (by omega)
        have d2 := eD.get c2 (by omega)
        have l2 := AHeap.get_lt d2
        simp
        refine wE_intro ?_ ?_
        · simp only [List.all_cons, List.all_nil, chkOk, List.nil_append, List.cons_append, List.getElem?_cons_succ, List.getElem?_cons_zero]
          simp [Bx, b1, b4, c1, c4, vbeq, only_sub]
        simp [d4, d2, l2]
        have hq' : ∀ A', Ext NoB A A' → Q (resR (.ok x)) A' := by intro A' e'; have := hq A' e'; simp (decide := true) only [if_true, if_false] at this; rw [hx] at this; exact this
        exact hq' _ (by have := eeC.past eD (by omega); (repeat first | exact Ext.refl | assumption | refine Ext.allocN ?_ | refine Ext.setN ?_ (by first | omega | (simp; done) | (simp; omega))))
      · have d1 := eD.get c1 (by omega)
        have d2 := eD.get c2 (by omega)
        have l2 := AHeap.get_lt d2
        simp
        refine wE_intro ?_ ?_
        · simp only [List.all_cons, List.all_nil, chkOk, List.nil_append, List.cons_append, List.getElem?_cons_succ, List.getElem?_cons_zero]
          simp [Bx, b1, b4, c1, c4, vbeq, only_sub]
        simp [he, d4, d2, l2]
        have hq' : ∀ A', Ext NoB A A' → Q (resR (.error e)) A' := by intro A' e'; have := hq A' e'; simp (decide := true) only [if_true, if_false] at this; rw [hx] at this; exact this
        exact hq' _ (by have := eeC.past eD (by omega); (repeat first | exact Ext.refl | assumption | refine Ext.allocN ?_ | refine Ext.setN ?_ (by first | omega | (simp; done) | (simp; omega))))
    · subst h
      simp [c4, c1, only_sub]
      refine read2_ok C (A.size + 2) (a :: t) hs c4 _ (fun x D hx d4 eD => ?_) fun e D hx he d4 eD => ?_
      · have d1 := eD.get c1 (by omega)
        have d2 := eD.get c2 (by omega)
        have l2 := AHeap.get_lt d2
        simp
        refine wE_intro ?_ ?_
        · simp only [List.all_cons, List.all_nil, chkOk, List.nil_append, List.cons_append, List.getElem?_cons_succ, List.getElem?_cons_zero]
          simp [Bx, b1, b4, c1, c4, vbeq, only_sub]
        simp [d4, d2, l2]
        have hq' : ∀ A', Ext NoB A A' → Q (resR (.ok x)) A' := by intro A' e'; have := hq A' e'; simp (decide := true) only [if_true, if_false] at this; rw [hx] at this; exact this
        exact hq' _ (by have := eeC.past eD (by omega); (repeat first | exact Ext.refl | assumption | refine Ext.allocN ?_ | refine Ext.setN ?_ (by first | omega | (simp; done) | (simp; omega))))
      · have d1 := eD.get c1 (by omega)
        have d2 := eD.get c2 (by omega)
        have l2 := AHeap.get_lt d2
        simp
        refine wE_intro ?_ ?_
        · simp only [List.all_cons, List.all_nil, chkOk, List.nil_append, List.cons_append, List.getElem?_cons_succ, List.getElem?_cons_zero]
          simp [Bx, b1, b4, c1, c4, vbeq, only_sub]
        simp [he, d4, d2, l2]
        have hq' : ∀ A', Ext NoB A A' → Q (resR (.error e)) A' := by intro A' e'; have := hq A' e'; simp (decide := true) only [if_true, if_false] at this; rw [hx] at this; exact this
        exact hq' _ (by have := eeC.past eD (by omega); (repeat first | exact Ext.refl | assumption | refine Ext.allocN ?_ | refine Ext.setN ?_ (by first | omega | (simp; done) | (simp; omega))))
    · subst h
      simp [c4, c1, only_sub]
      refine read3_ok C (A.size + 2) (a :: t) hs c4 _ (fun x D hx d4 eD => ?_) fun e D hx he d4 eD => ?_
      · have d1 := eD.get c1 (by omega)
        have d2 := eD.get c2 (by omega)
        have l2 := AHeap.get_lt d2
        simp
        refine wE_intro ?_ ?_
        · simp only [List.all_cons, List.all_nil, chkOk, List.nil_append, List.cons_append, List.getElem?_cons_succ, List.getElem?_cons_zero]
          simp [Bx, b1, b4, c1, c4, vbeq, only_sub]
        simp [d4, d2, l2]
        have hq' : ∀ A', Ext NoB A A' → Q (resR (.ok x)) A' := by intro A' e'; have := hq A' e'; simp (decide := true) only [if_true, if_false] at this; rw [hx] at this; exact this
        exact hq' _ (by have := eeC.past eD (by omega); (repeat first | exact Ext.refl | assumption | refine Ext.allocN ?_ | refine Ext.setN ?_ (by first | omega | (simp; done) | (simp; omega))))
      · have d1 := eD.get c1 (by omega)
        have d2 := eD.get c2 (by omega)
        have l2 := AHeap.get_lt d2
        simp
        refine wE_intro ?_ ?_
        · simp only [List.all_cons, List.all_nil, chkOk, List.nil_append, List.cons_append, List.getElem?_cons_succ, List.getElem?_cons_zero]
          simp [Bx, b1, b4, c1, c4, vbeq, only_sub]
        simp [he, d4, d2, l2]
        have hq' : ∀ A', Ext NoB A A' → Q (resR (.error e)) A' := by intro A' e'; have := hq A' e'; simp (decide := true) only [if_true, if_false] at this; rw [hx] at this; exact this
        exact hq' _ (by have := eeC.past eD (by omega); (repeat first | exact Ext.refl | assumption | refine Ext.allocN ?_ | refine Ext.setN ?_ (by first | omega | (simp; done) | (simp; omega))))
    · subst h
      simp [c4, c1, only_sub]
      refine read4_ok C (A.size + 2) (a :: t) hs c4 _ (fun x D hx d4 eD => ?_) fun e D hx he d4 eD => ?_
      · have d1 := eD.get c1 (by omega)
        have d2 := eD.get c2 (by omega)
        have l2 := AHeap.get_lt d2
        simp
        refine wE_intro ?_ ?_
        · simp only [List.all_cons, List.all_nil, chkOk, List.nil_append, List.cons_append, List.getElem?_cons_succ, List.getElem?_cons_zero]
          simp [Bx, b1, b4, c1, c4, vbeq, only_sub]
        simp [d4, d2, l2]
        have hq' : ∀ A', Ext NoB A A' → Q (resR (.ok x)) A' := by intro A' e'; have := hq A' e'; simp (decide := true) only [if_true, if_false] at this; rw [hx] at this; exact this
        exact hq' _ (by have := eeC.past eD (by omega); (repeat first | exact Ext.refl | assumption | refine Ext.allocN ?_ | refine Ext.setN ?_ (by first | omega | (simp; done) | (simp; omega))))
      · have d1 := eD.get c1 (by omega)
        have d2 := eD.get c2 (by omega)
        have l2 := AHeap.get_lt d2
        simp
        refine wE_intro ?_ ?_
        · simp only [List.all_cons, List.all_nil, chkOk, List.nil_append, List.cons_append, List.getElem?_cons_succ, List.getElem?_cons_zero]
          simp [Bx, b1, b4, c1, c4, vbeq, only_sub]
        simp [he, d4, d2, l2]
        have hq' : ∀ A', Ext NoB A A' → Q (resR (.error e)) A' := by intro A' e'; have := hq A' e'; simp (decide := true) only [if_true, if_false] at this; rw [hx] at this; exact this
        exact hq' _ (by have := eeC.past eD (by omega); (repeat first | exact Ext.refl | assumption | refine Ext.allocN ?_ | refine Ext.setN ?_ (by first | omega | (simp; done) | (simp; omega))))
    · subst h
      simp [c4, c1, only_sub]
      refine read5_ok C (A.size + 2) (a :: t) hs c4 _ (fun x D hx d4 eD => ?_) fun e D hx he d4 eD => ?_
      · have d1 := eD.get c1 (by omega)
        have d2 := eD.get c2 (by omega)
        have l2 := AHeap.get_lt d2
        simp
        refine wE_intro ?_ ?_
        · simp only [List.all_cons, List.all_nil, chkOk, List.nil_append, List.cons_append, List.getElem?_cons_succ, List.getElem?_cons_zero]
          simp [Bx, b1, b4, c1, c4, vbeq, only_sub]
        simp [d4, d2, l2]
        have hq' : ∀ A', Ext NoB A A' → Q (resR (.ok x)) A' := by intro A' e'; have := hq A' e'; simp (decide := true) only [if_true, if_false] at this; rw [hx] at this; exact this
        exact hq' _ (by have := eeC.past eD (by omega); (repeat first | exact Ext.refl | assumption | refine Ext.allocN ?_ | refine Ext.setN ?_ (by first | omega | (simp; done) | (simp; omega))))
      · have d1 := eD.get c1 (by omega)
        have d2 := eD.get c2 (by omega)
        have l2 := AHeap.get_lt d2
        simp
        refine wE_intro ?_ ?_
        · simp only [List.all_cons, List.all_nil, chkOk, List.nil_append, List.cons_append, List.getElem?_cons_succ, List.getElem?_cons_zero]
          simp [Bx, b1, b4, c1, c4, vbeq, only_sub]
        simp [he, d4, d2, l2]
        have hq' : ∀ A', Ext NoB A A' → Q (resR (.error e)) A' := by intro A' e'; have := hq A' e'; simp (decide := true) only [if_true, if_false] at this; rw [hx] at this; exact this
        exact hq' _ (by have := eeC.past eD (by omega); (repeat first | exact Ext.refl | assumption | refine Ext.allocN ?_ | refine Ext.setN ?_ (by first | omega | (simp; done) | (simp; omega))))
    · subst h
      simp [c4, c1, only_sub]
      refine read6_ok C (A.size + 2) (a :: t) hs c4 _ (fun x D hx d4 eD => ?_) fun e D hx he d4 eD => ?_
      · have d1 := eD.get c1 (by omega)
        have d2 := eD.get c2 (by omega)
        have l2 := AHeap.get_lt d2
        simp
        refine wE_intro ?_ ?_
        · simp only [List.all_cons, List.all_nil, chkOk, List.nil_append, List.cons_append, List.getElem?_cons_succ, List.getElem?_cons_zero]
          simp [Bx, b1, b4, c1, c4, vbeq, only_sub]
        simp [d4, d2, l2]
        have hq' : ∀ A', Ext NoB A A' → Q (resR (.ok x)) A' := by intro A' e'; have := hq A' e'; simp (decide := true) only [if_true, if_false] at this; rw [hx] at this; exact this
        exact hq' _ (by have := eeC.past eD (by omega); (repeat first | exact Ext.refl | assumption | refine Ext.allocN ?_ | refine Ext.setN ?_ (by first | omega | (simp; done) | (simp; omega))))
      · have d1 := eD.get c1 (by omega)
        have d2 := eD.get c2 (by omega)
        have l2 := AHeap.get_lt d2
        simp
        refine wE_intro ?_ ?_
        · simp only [List.all_cons, List.all_nil, chkOk, List.nil_append, List.cons_append, List.getElem?_cons_succ, List.getElem?_cons_zero]
          simp [Bx, b1, b4, c1, c4, vbeq, only_sub]
        simp [he, d4, d2, l2]
        have hq' : ∀ A', Ext NoB A A' → Q (resR (.error e)) A' := by intro A' e'; have := hq A' e'; simp (decide := true) only [if_true, if_false] at this; rw [hx] at this; exact this
        exact hq' _ (by have := eeC.past eD (by omega); (repeat first | exact Ext.refl | assumption | refine Ext.allocN ?_ | refine Ext.setN ?_ (by first | omega | (simp; done) | (simp; omega))))
    · subst h
      simp [c4, c1, only_sub]
      refine read7_ok C (A.size + 2) (a :: t) hs c4 _ (fun x D hx d4 eD => ?_) fun e D hx he d4 eD => ?_
      · have d1 := eD.get c1 (by omega)
        have d2 := eD.get c2 (by omega)
        have l2 := AHeap.get_lt d2
        simp
        refine wE_intro ?_ ?_
        · simp only [List.all_cons, List.all_nil, chkOk, List.nil_append, List.cons_append, List.getElem?_cons_succ, List.getElem?_cons_zero]
          simp [Bx, b1, b4, c1, c4, vbeq, only_sub]
        simp [d4, d2, l2]
        have hq' : ∀ A', Ext NoB A A' → Q (resR (.ok x)) A' := by intro A' e'; have := hq A' e'; simp (decide := true) only [if_true, if_false] at this; rw [hx] at this; exact this
        exact hq' _ (by have := eeC.past eD (by omega); (repeat first | exact Ext.refl | assumption | refine Ext.allocN ?_ | refine Ext.setN ?_ (by first | omega | (simp; done) | (simp; omega))))
      · have d1 := eD.get c1 (by omega)
        have d2 := eD.get c2 (by omega)
        have l2 := AHeap.get_lt d2
        simp
        refine wE_intro ?_ ?_
        · simp only [List.all_cons, List.all_nil, chkOk, List.nil_append, List.cons_append, List.getElem?_cons_succ, List.getElem?_cons_zero]
          simp [Bx, b1, b4, c1, c4, vbeq, only_sub]
        simp [he, d4, d2, l2]
        have hq' : ∀ A', Ext NoB A A' → Q (resR (.error e)) A' := by intro A' e'; have := hq A' e'; simp (decide := true) only [if_true, if_false] at this; rw [hx] at this; exact this
        exact hq' _ (by have := eeC.past eD (by omega); (repeat first | exact Ext.refl | assumption | refine Ext.allocN ?_ | refine Ext.setN ?_ (by first | omega | (simp; done) | (simp; omega))))
    · subst h
      simp [c4, c1, only_sub]
      refine read8_ok C (A.size + 2) (a :: t) hs c4 _ (fun x D hx d4 eD => ?_) fun e D hx he d4 eD => ?_
      · have d1 := eD.get c1 (by omega)
        have d2 := eD.get c2 (by omega)
        have l2 := AHeap.get_lt d2
        simp
        refine wE_intro ?_ ?_
        · simp only [List.all_cons, List.all_nil, chkOk, List.nil_append, List.cons_append, List.getElem?_cons_succ, List.getElem?_cons_zero]
          simp [Bx, b1, b4, c1, c4, vbeq, only_sub]
        simp [d4, d2, l2]
        have hq' : ∀ A', Ext NoB A A' → Q (resR (.ok x)) A' := by intro A' e'; have := hq A' e'; simp (decide := true) only [if_true, if_false] at this; rw [hx] at this; exact this
        exact hq' _ (by have := eeC.past eD (by omega); (repeat first | exact Ext.refl | assumption | refine Ext.allocN ?_ | refine Ext.setN ?_ (by first | omega | (simp; done) | (simp; omega))))
      · have d1 := eD.get c1 (by omega)
        have d2 := eD.get c2 (by omega)
        have l2 := AHeap.get_lt d2
        simp
        refine wE_intro ?_ ?_
        · simp only [List.all_cons, List.all_nil, chkOk, List.nil_append, List.cons_append, List.getElem?_cons_succ, List.getElem?_cons_zero]
          simp [Bx, b1, b4, c1, c4, vbeq, only_sub]
        simp [he, d4, d2, l2]
        have hq' : ∀ A', Ext NoB A A' → Q (resR (.error e)) A' := by intro A' e'; have := hq A' e'; simp (decide := true) only [if_true, if_false] at this; rw [hx] at this; exact this
        exact hq' _ (by have := eeC.past eD (by omega); (repeat first | exact Ext.refl | assumption | refine Ext.allocN ?_ | refine Ext.setN ?_ (by first | omega | (simp; done) | (simp; omega))))
theorem op_err {k : Int} {s : List UInt8} {e : Int} (h : Op.dec k s = .error e) : e ≠ 0 := by
  intro he; subst he
  have inv : ∀ {α β : Type} {f : α → β} {r : Except Int α}, mapE f r = .error 0 → r = .error 0 := by
    intro α β f r h
    cases r with
    | ok x => cases h
    | error e => cases h; rfl
  unfold Op.dec at h
  split at h
  · cases h
  split at h
  · cases h
  split at h
  · exact cap_err (inv h) rfl
  split at h
  · exact jn_err (inv h) rfl
  split at h
  · exact ds_err (inv h) rfl
  split at h
  · exact ad_err (inv h) rfl
  split at h
  · exact rem_err (inv h) rfl
  split at h
  · exact prio_err (inv h) rfl
  split at h
  · exact big_err (inv h) rfl
  split at h
  · exact big_err (inv h) rfl
  split at h
  · exact rst_err (inv h) rfl
  · cases h
def resO : Except Int Op → Value := resD Op.cells opZ
theorem decode_ok (A : AHeap) (k : Int) (s : List UInt8) (hs : s.length < 1000000) (hE : EH A) (Q : Value → AHeap → Prop) (hq : ∀ A', Ext NoB A A' → Q (resO (Op.dec k s)) A') : wF T (.func (.func 12) #[] #[]) [.agg ⟨[.int .i64 k, .string ⟨⟨s⟩⟩]⟩] A Q := by
  refine wF_func (first := []) (captured := []) t12 ⟨rfl, by decide⟩ ?_
  dsimp only [c12]
  simp
  generalize hB : AHeap.alloc _ _ = B
  have b2 : B.get (A.size + 1) = some (.cells opZ false 0) := by subst hB; simp
  have eB : Ext NoB A B := by subst hB; (repeat first | exact Ext.refl | assumption | refine Ext.allocN ?_ | refine Ext.setN ?_ (by first | omega | (simp; done) | (simp; omega)))
  refine read_ok B k s hs _ fun C eC => ?_
  have c2 := eC.get b2 id
  have eeC := eB.trans eC
  have lC := AHeap.get_lt c2
  cases hd : Op.dec k s with
  | ok x =>
    rw [hd] at hq
    simp [resR]
    generalize hD : AHeap.alloc _ _ = D
    have d4 : D.get C.size = some (.cells x.cells false 0) := by subst hD; simp
    have d2 : D.get (A.size + 1) = some (.cells opZ false 0) := by subst hD; simp [c2, show A.size + 1 ≠ C.size by omega, show A.size ≠ C.size by omega]
    have eD : Ext NoB C D := by subst hD; (repeat first | exact Ext.refl | assumption | refine Ext.allocN ?_ | refine Ext.setN ?_ (by first | omega | (simp; done) | (simp; omega)))
    have lD := AHeap.get_lt d2
    refine asn_ok _ _ _ ?_
    simp [d4, d2, lD]
    exact hq _ (by have := eeC.trans eD; (repeat first | exact Ext.refl | assumption | refine Ext.allocN ?_ | refine Ext.setN ?_ (by first | omega | (simp; done) | (simp; omega))))
  | error e =>
    rw [hd] at hq
    simp [resR]
    generalize hD : AHeap.alloc _ _ = D
    have d2 : D.get (A.size + 1) = some (.cells opZ false 0) := by subst hD; simp [c2, show A.size + 1 ≠ C.size by omega, show A.size ≠ C.size by omega]
    have d6 : D.get (C.size + 1) = some (.cells [.int .i64 0] false 0) := by subst hD; simp
    have eD : Ext NoB C D := by subst hD; (repeat first | exact Ext.refl | assumption | refine Ext.allocN ?_ | refine Ext.setN ?_ (by first | omega | (simp; done) | (simp; omega)))
    have eeD := eeC.trans eD
    refine as_ok D e _ d6 (hE.extN eeD) _ ?_
    generalize hF : D.set _ _ = F
    have l6 := AHeap.get_lt d6
    have f2 : F.get (A.size + 1) = some (.cells opZ false 0) := by subst hF; simp [d2, show A.size ≠ C.size by omega]
    have f6 : F.get (C.size + 1) = some (.cells [.int .i64 e] false 0) := by subst hF; simp [l6]
    have eF : Ext NoB A F := by subst hF; have := eeC.size; (repeat first | exact Ext.refl | assumption | refine Ext.allocN ?_ | refine Ext.setN ?_ (by first | omega | (simp; done) | (simp; omega)))
    have lF := AHeap.get_lt f2
    simp
    refine wC_opsD_chk ?_
    simp [f2, f6, lF]
    refine wE_intro ?_ ?_
    · simp only [List.all_cons, List.all_nil, chkOk, List.nil_append, List.cons_append, List.getElem?_cons_succ, List.getElem?_cons_zero]
      simp [Bx, f6, vbeq, show C.size ≠ A.size by omega]
    simp [lF]
    exact hq _ (by (repeat first | exact Ext.refl | assumption | refine Ext.allocN ?_ | refine Ext.setN ?_ (by first | omega | (simp; done) | (simp; omega))))
end Go.Proofs.YtigknpfjhegkgaaGreatDoor
end
