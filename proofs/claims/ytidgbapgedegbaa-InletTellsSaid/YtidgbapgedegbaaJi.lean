/- Both inlets: what is asked behind each act. -/
import Derived.Test.YtidgbapgedegbaaJh
import Derived.KernelRfl
namespace Go.Proofs.Ytidgbapgedegbaa
open Go Go.AS
set_option maxRecDepth 100000
set_option linter.unusedSimpArgs false
set_option linter.unusedVariables false
attribute [local irreducible] Trie.set Trie.get Env.rd
attribute [local simp ↓] wV_b2s
attribute [local simp] Nat.add_assoc wD_cons'' wD_nil' wC_seq wC_ops wC_opsD_nil wC_cond wC_skip wC_ret wC_exit wC_block wO_cons' wO_nil wantedA wV_eq lop qop ev wL_some wL_none wPut envOf rd_set rd_leaf eqA thenC blockC wB_true wB_false endF unwindA resultsA resA tupleA rdCell rdCells wrCells cl fillP lay rep binA unA get_set' AHeap.get_alloc oneCell beqd bned idxA

theorem raw_eq {s : IS} (I : IOk s) {n : Int} {l1 l2 : List UInt8} (h1 : ∀ nx : Nat, NextIs s.base s.f nx → (l1.length : Int) = max 0 (min n (nx - s.base))) (p1 : Pre s.f s.base l1) (h2 : ∀ nx : Nat, NextIs s.base s.f nx → (l2.length : Int) = max 0 (min n (nx - s.base))) (p2 : Pre s.f s.base l2) : l2 = l1 := by
  obtain ⟨nx, hx, _⟩ := nextis_ex s.base s.room s.f I.dom s.room s.base (Nat.le_refl _) (Nat.le_refl _) (fun k a b => by omega)
  have a := h1 nx hx
  have b := h2 nx hx
  refine List.ext_getElem (by omega) fun i i1 i2 => ?_
  have q1 := p1 i i2
  have q2 := p2 i i1
  rw [q1] at q2
  exact (Option.some.inj q2).symm
theorem eq_mp' (a : Mp) : eqL [(0, .i), (1, .i), (2, .i), (3, .i)] (mpc a) (mpc a) = some true := by
  simp [eqL, mpc, leafEq]
theorem mpt' (m : Mp) : List.take 4 (mpc m) = mpc m := rfl
set_option maxHeartbeats 3200000 in
theorem alike_t (A : AHeap) (i r h t : Nat) (s : IS) (lm : List Mp) (S R : Nat → Prop) (K : Nat) (q3 : Nat) (off : Int) (c0 c2 c3 c4 c5 c6 : Value) (env : Env) (Q : Value → AHeap → Prop) (B : Bo A i r h t s lm S R K) (hK : K < 100000)
    (g3 : A.get q3 = some (.cells [c0, .int .i64 off, c2, c3, c4, c5, c6] false 0))
    (r1 : env.rd 1 = .pointer (some ⟨i, 0, none⟩)) (r2 : env.rd 2 = .pointer (some ⟨r, 0, none⟩)) (r3 : env.rd 3 = .pointer (some ⟨q3, 0, none⟩)) (r7 : env.rd 7 = .bool true)
    (hq : ∀ A', Bo A' i r h t s lm S R K → Ext NoB A A' → Q (.bool true) A') :
    wC T 30 none c30t { env := env, n := 214, dfs := [], A := A } (endF [.inl 6] Q) := by
  unfold c30t
  simp [r1]
  refine inext_ok A i s S (rtF s.idsn) _ B.a B.ok.right fun A1 e1 => ?_
  obtain ⟨⟨kd, nm, nt⟩, hnv⟩ : ∃ x, x = nextV s (rtF s.idsn) := ⟨_, rfl⟩
  rw [← hnv]
  simp only
  have hmc : ∀ m : Mp, (mpc m).length = 4 := fun _ => rfl
  have hm4 : lay [.int .i64 0, .int .i64 0, .int .i64 0, .int .u16 0] 0 (mpc nm) = mpc nm := rfl
  simp [mpc]
  generalize hA2 : AHeap.set (A1.alloc _) A1.size _ = A2
  have e2 : Ext NoB A1 A2 := ⟨by rw [← hA2]; simp, fun j hj _ => by rw [← hA2]; simp [show j ≠ A1.size by omega]⟩
  have k2 : A2.get A1.size = some (.cells (mpc nm) false 0) := by rw [← hA2]; simp [mpc]
  have B2 := B.extN (e1.trans e2)
  simp [r2]
  refine rnext_ok A2 r h t s lm R K B2.b hK B2.ok _ fun A3 e3 => ?_
  rw [← hnv]
  simp only
  simp [mpc]
  generalize hA4 : AHeap.set (A3.alloc _) A3.size _ = A4
  have e4 : Ext NoB A3 A4 := ⟨by rw [← hA4]; simp, fun j hj _ => by rw [← hA4]; simp [show j ≠ A3.size by omega]⟩
  have k4 : A4.get A3.size = some (.cells (mpc nm) false 0) := by rw [← hA4]; simp [mpc]
  have k24 := e4.get (e3.get k2 id) id
  have e24 := e3.trans e4
  have e04 := (e1.trans e2).trans e24
  have g34 := e04.get g3 id
  have B4 := B.extN e04
  refine wC_opsD_chk ?_
  simp [r7, k4, k24, hmc, mpt', eq_mp', r1]
  refine iN_ok A4 i s S _ B4.a ?_
  simp [r2]
  refine rN_ok A4 r h t s lm R K B4.b _ ?_
  simp [r1, r3, g34]
  refine iraw_ok A4 i s S _ off B4.a fun A5 l1 e5 x1 x2 => ?_
  have g35 := e5.get g34 id
  have B5 := B4.extN e5
  simp [r2, r3, g35]
  refine rraw_ok A5 r h t s lm R K off B5.b B5.ok _ fun A6 l2 e6 x3 x4 => ?_
  have := raw_eq B.ok x1 x2 x3 x4
  subst this
  have g36 := e6.get g35 id
  have B6 := B5.extN e6
  simp [r1]
  refine iraw_ok A6 i s S _ 3 B6.a fun A7 l3 e7 x5 x6 => ?_
  have B7 := B6.extN e7
  simp [r2]
  refine rraw_ok A7 r h t s lm R K 3 B7.b B7.ok _ fun A8 l4 e8 x7 x8 => ?_
  have := raw_eq B.ok x5 x6 x7 x8
  subst this
  have B8 := B7.extN e8
  simp
  refine wE_intro ?_ ?_
  · simp only [List.all_cons, List.all_nil, chkOk, List.nil_append, List.cons_append, List.getElem?_cons_succ, List.getElem?_cons_zero]
    simp [Bx, g34, g35, vbeq, r3]
  simp
  exact hq A8 B8 ((((e04.trans e5).trans e6).trans e7).trans e8)
end Go.Proofs.Ytidgbapgedegbaa
