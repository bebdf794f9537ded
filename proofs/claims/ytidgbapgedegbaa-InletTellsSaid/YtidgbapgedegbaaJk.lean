/- Both inlets: an act with a mapping near. -/
import Derived.Test.YtidgbapgedegbaaJj
import Derived.KernelRfl
namespace Go.Proofs.Ytidgbapgedegbaa
open Go Go.AS
set_option maxRecDepth 100000
set_option linter.unusedSimpArgs false
set_option linter.unusedVariables false
attribute [local irreducible] Trie.set Trie.get Env.rd
attribute [local simp ↓] wV_b2s
attribute [local simp] Nat.add_assoc wD_cons'' wD_nil' wC_seq wC_ops wC_opsD_nil wC_cond wC_skip wC_ret wC_exit wC_block wO_cons' wO_nil wantedA wV_eq lop qop ev wL_some wL_none wPut envOf rd_set rd_leaf eqA thenC blockC wB_true wB_false endF unwindA resultsA resA tupleA rdCell rdCells wrCells cl fillP lay rep binA unA get_set' AHeap.get_alloc oneCell beqd bned idxA

set_option maxHeartbeats 1600000 in
theorem alike_v (A : AHeap) (r h t : Nat) (s : IS) (lm : List Mp) (R : Nat → Prop) (K : Nat) (q3 q10 : Nat) (w : Nat) (off : Int) (x m : Mp) (c6 : Value) (is : Bool) (tx : List UInt8) (n : Nat) (env : Env) (Q : AExit → St → Prop) (H : RIn A r h t s lm R K) (htx : tx.length < 900000) (hw : w < 256)
    (g3 : A.get q3 = some (.cells (acx w off x c6) false 0)) (g10 : A.get q10 = some (.cells (mpc m) false 0)) (hm : m.sum = (n : Int)) (hn : n < 65536)
    (r2 : env.rd 2 = .pointer (some ⟨r, 0, none⟩)) (r3 : env.rd 3 = .pointer (some ⟨q3, 0, none⟩)) (r10 : env.rd 10 = .pointer (some ⟨q10, 0, none⟩)) (r11 : env.rd 11 = .string ⟨⟨tx⟩⟩) (r12 : env.rd 12 = .bool is)
    (hq : ∀ env' A' (n' : Nat), n' < 65536 → A'.get q10 = some (.cells (mpc { m with sum := n' }) false 0) → Ext (fun j => j = q10) A A' → env'.rd 1 = env.rd 1 → env'.rd 2 = env.rd 2 → env'.rd 3 = env.rd 3 → env'.rd 10 = env.rd 10 → Q .normal { env := env', n := 214, dfs := [], A := A' }) :
    wC T 30 none c30v { env := env, n := 214, dfs := [], A := A } Q := by
  obtain ⟨v, hv1, hv2⟩ := tmod_lt w 3 (by omega)
  have hv1' : (w : Int).tmod 3 = v := hv1
  have stay : ∀ env', env'.rd 1 = env.rd 1 → env'.rd 2 = env.rd 2 → env'.rd 3 = env.rd 3 → env'.rd 10 = env.rd 10 → Q .normal { env := env', n := 214, dfs := [], A := A } := fun env' z1 z2 z3 z4 => hq env' A n hn (by rw [g10, ← hm]) Ext.refl z1 z2 z3 z4
  simp [acx] at g3
  have l10 := AHeap.get_lt g10
  unfold c30v
  cases is with
  | false =>
    simp [r12]
    exact stay _ (by simp) (by simp) (by simp) (by simp)
  | true =>
    by_cases c : v = 0
    · simp [r12, r3, g3, hv1', c]
      exact stay _ (by simp) (by simp) (by simp) (by simp)
    · simp [r12, r3, g3, hv1', show (0 : Nat) < v by omega, show (0 : Int) < (v : Int) by omega]
      have gr := H.g
      have m4 : 4 ≤ (mpc m).length := Nat.le_refl 4
      have mt : List.take 4 (mpc m) = mpc m := rfl
      simp [r2, r10, r11, gr, g10, m4, mt]
      refine rsum_ok A s.idsn m tx htx _ fun A1 e1 => ?_
      have g101 := e1.get g10 id
      have l101 := AHeap.get_lt g101
      simp [mpc] at g101
      simp [r10, g101, l101]
      generalize hA2 : AHeap.set A1 q10 _ = A2
      have e2 : Ext (fun j => j = q10) A1 A2 := ⟨by rw [← hA2]; simp, fun j hj q => by rw [← hA2]; simp [show j ≠ q10 from q]⟩
      refine hq _ A2 (sumF s.idsn m tx) (sum_lt _ _ _) ?_ ((e1.mono fun _ _ q => q.elim).trans e2) (by simp) (by simp) (by simp) (by simp)
      rw [← hA2]; simp [l101, mpc]
set_option maxHeartbeats 3200000 in
theorem alike_d (A : AHeap) (i r h t : Nat) (s : IS) (lm : List Mp) (S R : Nat → Prop) (K : Nat) (q3 : Nat) (w : Nat) (off : Int) (x : Mp) (n : Nat) (l8 : List UInt8) (c6 : Value) (env : Env) (Q : AExit → St → Prop) (B : Bo A i r h t s lm S R K) (hK : K < 1000)
    (g3 : A.get q3 = some (.cells (acx w off x c6) false 0)) (nS : ¬ S q3) (nR : ¬ R q3) (ho : -9223372036854775808 ≤ off ∧ off < 9223372036854775808) (hx : x.sum = (n : Int)) (hn : n < 65536) (hxa : x.at_ < 9223372036854775808) (h8 : l8.length ≤ 100)
    (r1 : env.rd 1 = .pointer (some ⟨i, 0, none⟩)) (r2 : env.rd 2 = .pointer (some ⟨r, 0, none⟩)) (r3 : env.rd 3 = .pointer (some ⟨q3, 0, none⟩)) (r8 : env.rd 8 = .string ⟨⟨l8⟩⟩) (hw : w < 256) (hq : ∀ env' A' s' lm' S' R', Bo A' i r h t s' lm' S' R' (K + 1) → Ext (fun j => S j ∨ R j) A A' → (∀ j, S' j → S j ∨ A.size ≤ j) → (∀ j, R' j → R j ∨ A.size ≤ j) → env'.rd 1 = env.rd 1 → env'.rd 2 = env.rd 2 → env'.rd 3 = env.rd 3 → env'.rd 7 = .bool true → Q .normal { env := env', n := 214, dfs := [], A := A' }) : wC T 30 none c30d { env := env, n := 214, dfs := [], A := A } Q := by
  have hlq := AHeap.get_lt g3
  have big := B.ok.big
  have g3' := g3
  simp [acx] at g3
  obtain ⟨u, hu, hu2⟩ := u64_natB x.at_
  obtain ⟨a, ha1, ha2⟩ := tmod_lt u 9 (by omega)
  have ha1' : (u : Int).tmod 9 = a := ha1
  obtain ⟨y, hy, hy2⟩ := u64_natB x.len
  obtain ⟨b, hb1, hb2⟩ := tmod_lt y 9 (by omega)
  have hb1' : (y : Int).tmod 9 = b := hb1
  have wa : IntKind.i64.wrap (a : Int) = a := IntWalk.i64_in _ (by omega)
  have wb : IntKind.i64.wrap (b : Int) = b := IntWalk.i64_in _ (by omega)
  have w2 : IntKind.i64.wrap ((s.base : Int) + (a : Int)) = (s.base : Int) + (a : Int) := IntWalk.i64_in _ (by omega)
  have w3 : IntKind.i64.wrap ((s.base : Int) + (a : Int) - 1) = (s.base : Int) + (a : Int) - 1 := IntWalk.i64_in _ (by omega)
  unfold c30d
  simp [r3, g3]
  generalize hA1 : AHeap.set (A.alloc _) A.size _ = A1
  have e1 : Ext NoB A A1 := ⟨by rw [← hA1]; simp, fun j hj _ => by rw [← hA1]; simp [show j ≠ A.size by omega]⟩
  have k1 : A1.get A.size = some (.cells [.int .i64 x.at_, .int .i64 x.off, .int .i64 x.len, .int .u16 x.sum] false 0) := by rw [← hA1]; simp
  have z1 : A1.size = A.size + 1 := by rw [← hA1]; simp
  have l1 := AHeap.get_lt k1
  have B1 := B.extN e1
  refine wC_opsD_chk ?_
  simp [r2]
  refine rN_ok A1 r h t s lm R K B1.b _ ?_
  simp [k1, hu, ha1', wa, w2, w3, l1]
  refine wE_intro ?_ ?_
  · simp only [List.all_cons, List.all_nil, chkOk, List.nil_append, List.cons_append, List.getElem?_cons_succ, List.getElem?_cons_zero]
    simp [Bx, k1, vbeq]
  simp [hy, hb1', wb, l1]
  generalize hA2 : AHeap.set _ A.size _ = A2
  have e2 : Ext NoB A A2 := ⟨by rw [← hA2]; simp; omega, fun j hj _ => by rw [← hA2]; simp [show j ≠ A.size by omega]; exact e1.keep j hj id⟩
  have k2 : A2.get A.size = some (.cells (mpc ⟨(s.base : Int) + (a : Int) - 1, x.off, b, x.sum⟩) false 0) := by rw [← hA2]; simp [l1, mpc]
  have B2 := B.extN e2
  have gr2 := B2.b.g
  obtain ⟨Rh, Rt, hh, ht, _⟩ := B2.b.rs
  have k2' := k2
  simp [mpc] at k2
  simp [r2, gr2, k2]
  refine rtext_ok A2 h s.room s.base s.f Rh _ _ hh B.ok.r2 big B.ok.dom _ fun A3 e3 => ?_
  generalize htv : textV s.room s.base s.f ((s.base : Int) + (a : Int) - 1) (b : Int) = tv
  have htl : (tv.getD []).length < 900000 := by
    cases tv with
    | none => simp
    | some l =>
      unfold textV at htv
      split at htv
      · cases htv
      · have := (gatherB_some _ _ _ _ htv).1
        simp only [Option.getD_some]
        have := B.ok.r2
        omega
  have k3 := e3.get k2' id
  have e03 := e2.trans e3
  have B3 := B.extN e03
  have g33 := e03.get g3' id
  simp
  refine alike_v A3 r h t s lm R K q3 A.size w off x _ c6 tv.isSome (tv.getD []) n _ _ B3.b htl hw g33 k3 hx hn (by simp [r2]) (by simp [r3]) (by simp) (by simp) (by simp) fun env4 A4 n4 hn4 k4 e4 v1 v2 v3 v10 => ?_
  simp at v1 v2 v3 v10
  have e04 : Ext NoB A A4 := e03.trans2 e4 fun j hj q => by omega
  have B4 := B.extN e04
  have m4 : ∀ m : Mp, 4 ≤ (mpc m).length := fun _ => Nat.le_refl 4
  have mt : ∀ m : Mp, List.take 4 (mpc m) = mpc m := fun _ => rfl
  have l4 := AHeap.get_lt k4
  have nS4 : ¬ S A.size := fun q => by have := B.lS _ q; omega
  have nR4 : ¬ R A.size := fun q => by have := B.b.lt _ q; omega
  simp
  refine wC_opsD_chk ?_
  simp [v1, v2, v3, v10, r1, r2, r3, k4, m4, mt]
  refine bo_map B4 (by omega) _ (by simp only; omega) ⟨n4, rfl, hn4⟩ _ fun b A5 S1 b5 e5 hS go => ?_
  have k5 := e5.get k4 nS4
  have gr5 := b5.g
  have z4 := e04.size
  have z5 := e5.size
  simp [v2, r2, v10, gr5, k5, m4, mt]
  refine go _ fun A6 s6 lm6 R6 B6 e6 hR => ?_
  have z6 := e6.size
  simp
  refine wE_intro ?_ ?_
  · simp only [List.all_cons, List.all_nil, chkOk, List.nil_append, List.cons_append, List.getElem?_cons_succ, List.getElem?_cons_zero]
    simp [Bx, v2, r2, v10, B4.b.g, gr5, k4, k5, m4, mt, vbeq, mpc, vbeq.vbeqs]
  exact hq _ A6 s6 lm6 S1 R6 B6 (((e04.mono fun _ _ q => q.elim).trans (e5.mono fun _ _ q => .inl q)).trans (e6.mono fun _ _ q => .inr q)) (fun j hj => (hS j hj).imp id fun z => by omega) (fun j hj => (hR j hj).imp id fun z => by omega) (by simp [v1]) (by simp [v2]) (by simp [v3]) (by simp)
end Go.Proofs.Ytidgbapgedegbaa
