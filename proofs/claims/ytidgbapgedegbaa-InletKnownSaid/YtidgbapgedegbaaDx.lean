/- InletKnown. -/
import Derived.Test.YtidgbapgedegbaaDl
import Derived.Test.YtidgbapgedegbaaKs
import Derived.KernelRfl
namespace Go.Proofs.Ytidgbapgedegbaa
open Go Go.AS
set_option maxRecDepth 100000
set_option linter.unusedSimpArgs false
set_option linter.unusedVariables false
attribute [local irreducible] Trie.set Trie.get Env.rd
attribute [local simp ↓] wV_b2s
attribute [local simp] Nat.add_assoc wD_cons'' wD_nil' wC_seq wC_ops wC_opsD_nil wC_cond wC_skip wC_ret wC_exit wC_block wO_cons' wO_nil wantedA wV_eq lop qop ev wL_some wL_none wPut envOf rd_set rd_leaf eqA thenC blockC wB_true wB_false endF unwindA resultsA resA tupleA rdCell rdCells wrCells cl fillP lay rep binA unA get_set' AHeap.get_alloc oneCell beqd bned idxA

theorem iraw_nil (A : AHeap) (Q : Value → AHeap → Prop) (n : Int) (hq : Q (.string ⟨⟨[]⟩⟩) A) : wF T (.func (.func 34) #[] #[]) [.pointer none, .int .i64 n] A Q := by
  refine wF_func (first := []) (captured := []) t34 ⟨rfl, by decide⟩ ?_
  dsimp only [c34]; simp
  exact hq
theorem inext_nil (A : AHeap) (Q : Value → AHeap → Prop) (hq : ∀ A', Ext NoB A A' → Q (.tuple ⟨[.int .i64 0, .agg ⟨mpc mp0⟩, .string ⟨⟨[]⟩⟩]⟩) A') : wF T (.func (.func 81) #[] #[]) [.pointer none] A Q := by
  refine wF_func (first := []) (captured := []) t81 ⟨rfl, by decide⟩ ?_
  dsimp only [c81]; simp
  refine hq _ ⟨by simp, fun j hj _ => ?_⟩
  simp [show j ≠ A.size by omega, show j ≠ A.size + 1 by omega, show j ≠ A.size + 2 by omega]
theorem lnext_nil (A : AHeap) (Q : Value → AHeap → Prop) (hq : ∀ A', Ext NoB A A' → Q (.bool true) A') : wF T (.func (.func 33) #[] #[]) [.pointer none, .int .i64 0, .agg ⟨mpc mp0⟩, .string ⟨⟨[]⟩⟩] A Q := by
  refine wF_func (first := []) (captured := []) t33 ⟨rfl, by decide⟩ ?_
  dsimp only [c33]
  simp [mpc, mp0]
  generalize hA1 : A.alloc _ = A1
  obtain ⟨g1, e1, z1⟩ := alloc_facts hA1
  refine inext_nil A1 _ fun A2 e2 => ?_
  have g2 := e2.get g1 id
  have l2 := AHeap.get_lt g2
  simp [mpc, mp0, g2, eqL, leafEq]
  refine hq _ ((e1.trans e2).trans ⟨by simp, fun j hj _ => ?_⟩)
  simp [show j ≠ A2.size by omega]

theorem mpl (m : Mp) : 4 ≤ (mpc m).length := Nat.le_refl 4
theorem mpt (m : Mp) : List.take 4 (mpc m) = mpc m := rfl
def k0 : IS := ⟨2048, 0, fun _ => none, [], true, 18446744073709551615⟩
def k1 (m : Mp) : IS := ⟨2048, 1, cutB (fun _ => none) 1, [m], true, 18446744073709551615⟩
def k2 (m : Mp) : IS := ⟨2048, 1, putB 2048 1 1 [122] (cutB (fun _ => none) 1), [m], true, 18446744073709551615⟩
def k3 (m : Mp) : IS := ⟨2048, 1, cutB (putB 2048 1 1 [122] (cutB (fun _ => none) 1)) 1, [m], true, 18446744073709551615⟩
def f4 : Bytes := cutB (cutB (putB 2048 1 1 [122] (cutB (fun _ => none) 1)) 1) 2305843009213693952
def k4 : IS := ⟨2048, 2305843009213693952, f4, [], true, 18446744073709551615⟩
def f5 : Bytes := putB 2048 2305843009213693952 1 [122] f4
def k5 : IS := ⟨2048, 2305843009213693952, f5, [], true, 18446744073709551615⟩
def f6 : Bytes := putB 2048 2305843009213693952 2305843009213693952 [113] f5
def k6 : IS := ⟨2048, 2305843009213693952, f6, [], true, 18446744073709551615⟩
theorem f4_none : f4 2305843009213693952 = none := by simp [f4, cutB, putB]
theorem f5_none : f5 2305843009213693952 = none := by simp [f5, putB, f4_none]
theorem f6_some : f6 2305843009213693952 = some 113 := by simp [f6, putB, f5_none]
theorem c2_one : cntB 2048 1 (cutB (fun _ => none) 1) 1 [122] = 1 := by simp [cntB, cutB]
theorem c5_zero : cntB 2048 2305843009213693952 f4 1 [122] = 0 := by simp [cntB]
theorem c6_one : cntB 2048 2305843009213693952 f5 2305843009213693952 [113] = 1 := by simp [cntB, f5_none]
def km (n : Nat) : Mp := ⟨1, 0, 1, (n : Int)⟩
theorem n2 (rt : Mp → List UInt8 → Bool) (m : Mp) (h1 : m.at_ = 1) (h2 : m.len = 1) (h : rt m [122] = true) : nextV (k2 m) rt = (1, m, [122]) := by
  have hg : gatherB (k2 m).f ((k2 m).base : Int) m.len.toNat = some [122] := by rw [h2]; simp [k2, gatherB, putB, cutB]
  have hf : findM (k2 m).ms ((k2 m).base : Int) = some m := by simp [k2, findM, h1]
  unfold nextV
  rw [hf]; simp only
  rw [hg]; simp [h]
theorem n4 (rt : Mp → List UInt8 → Bool) : nextV k4 rt = (0, mp0, []) := by
  have hf : findM k4.ms (k4.base : Int) = none := rfl
  have he : (k4.base : Int) = 2305843009213693952 := by simp [k4]
  have hx : k4.f (k4.base : Int) = none := by rw [he]; exact f4_none
  unfold nextV
  rw [hf]; simp only
  rw [hx]; rfl
theorem n6 (rt : Mp → List UInt8 → Bool) : nextV k6 rt = (3, mp0, []) := by
  have hf : findM k6.ms (k6.base : Int) = none := rfl
  have he : (k6.base : Int) = 2305843009213693952 := by simp [k6]
  have hx : k6.f (k6.base : Int) = some 113 := by rw [he]; exact f6_some
  unfold nextV
  rw [hf]; simp only
  rw [hx]; rfl
def p0 : IS := ⟨1, 0, fun _ => none, [], false, 0⟩
def p1 : IS := ⟨1, 0, putB 1 0 0 [120, 121, 122] (fun _ => none), [], false, 0⟩
def p2 : IS := ⟨1, 0, putB 1 0 0 [120, 121, 122] (fun _ => none), [⟨0, 0, 1, 0⟩], false, 0⟩
theorem cp_one : cntB 1 0 (fun _ => none) 0 [120, 121, 122] = 1 := by simp [cntB]
theorem np (rt : Mp → List UInt8 → Bool) : nextV p2 rt = (1, ⟨0, 0, 1, 0⟩, [120]) := by
  simp [nextV, p2, findM, gatherB, putB]

set_option maxHeartbeats 1600000 in
theorem known_f (A : AHeap) (q2 : Nat) (m : Mp) (env : Env) (hm : A.get q2 = some (.cells (mpc m) false 0)) (r2 : env.rd 2 = .pointer (some ⟨q2, 0, none⟩)) (r3 : env.rd 3 = .bool true) (r4 : env.rd 4 = .bool true) (r5 : env.rd 5 = .bool true) (r7 : env.rd 7 = .bool true) :
    wC T 11 none d11f { env := env, n := 138, dfs := [], A := A } (endF [.inl 0] fun v _ => v = .bool true) := by
  unfold d11f
  simp
  refine iskip_nil A _ _ fun w => ?_
  simp
  refine yes20 A _ ?_
  simp [r3, r4, r5, r7]
  refine iput_nil A _ _ _ ?_
  simp [r2, hm, mpl, mpt]
  refine imap_nil A _ m fun A1 e1 => ?_
  simp
  refine lnext_nil A1 _ fun A2 e2 => ?_
  simp
  refine iraw_nil A2 _ _ ?_
  simp
  refine iN_nil A2 _ ?_
  simp
set_option maxHeartbeats 1600000 in
theorem known_c (A : AHeap) (q2 : Nat) (m : Mp) (env : Env) (hm : A.get q2 = some (.cells (mpc m) false 0)) (r2 : env.rd 2 = .pointer (some ⟨q2, 0, none⟩)) (r3 : env.rd 3 = .bool true) (r4 : env.rd 4 = .bool true) (r5 : env.rd 5 = .bool true) :
    wC T 11 none d11c { env := env, n := 138, dfs := [], A := A } (endF [.inl 0] fun v _ => v = .bool true) := by
  have lm := AHeap.get_lt hm
  unfold d11c
  simp
  refine inew_ok 1 false 0 (by omega) (by omega) A _ fun A1 i e1 hi hin => ?_
  simp
  refine iput_ok A1 i _ _ _ 0 [120, 121, 122] (by decide) (by decide) hin fun A2 h2 e2 => ?_
  have h2' : InAt A2 i p1 _ := h2
  simp [cp_one]
  refine imap_ok A2 i p1 _ _ ⟨0, 0, 2, 0⟩ (by decide) h2' (fun A3 _ e3 => ?_) (fun A3 p S' may => absurd may.2.1 (by decide))
  simp
  refine imap_ok A3 i p1 _ _ ⟨0, 0, 1, 0⟩ (by decide) (h2'.extN e3) (fun A4 hno _ => absurd ⟨⟨by decide, by decide, by decide, by decide, by decide⟩, rfl⟩ hno) fun A4 p S' may _ _ h4 e4 hS => ?_
  have h4' : InAt A4 i p2 S' := by simpa [p1, p2] using h4
  have R4 : RightOk p2 (rtF 0) := fun q => by cases q
  simp
  refine lnext_ok A4 i p2 S' (rtF 0) 1 ⟨0, 0, 1, 0⟩ [120] _ h4' R4 fun A5 e5 => ?_
  rw [np]
  simp only [mp_beq, decide_true, Bool.and_self]
  simp
  have g5 : A5.get q2 = some (.cells (mpc m) false 0) := e5.get (e4.get (e3.get (e2.get (e1.get hm id) (fun h => by omega)) id) (fun h => by omega)) id
  exact known_f A5 q2 m _ g5 (by simp [r2]) (by simp [r3]) (by simp [r4]) (by simp [r5]) (by simp)
set_option maxHeartbeats 1600000 in
theorem known_e (A : AHeap) (i : Nat) (S : Nat → Prop) (q2 n : Nat) (hn : n < 65536) (env : Env) (hin : InAt A i (k3 (km n)) S) (hm : A.get q2 = some (.cells (mpc (km n)) false 0)) (hq : ¬ S q2) (r1 : env.rd 1 = .pointer (some ⟨i, 0, none⟩)) (r2 : env.rd 2 = .pointer (some ⟨q2, 0, none⟩)) (r3 : env.rd 3 = .bool true) (r4 : env.rd 4 = .bool true) :
    wC T 11 none d11e { env := env, n := 138, dfs := [], A := A } (endF [.inl 0] fun v _ => v = .bool true) := by
  unfold d11e
  simp [r1]
  refine iskip_ok A i _ S _ 9223372036854775807 hin fun A1 w to hto h1 e1 => ?_
  have ht : to = 2305843009213693952 := by simp only [k3] at hto; omega
  subst ht
  have h1' : InAt A1 i k4 S := by simpa [skipS, k3, k4, f4, km] using h1
  have R4 : RightOk k4 (rtF k4.idsn) := right_in k4 fun m hm => by cases hm
  simp [r1]
  refine iN_ok A1 i k4 S _ h1' ?_
  have he4 : (k4.base : Int) = 2305843009213693952 := by simp [k4]
  rw [he4]
  simp [r1]
  refine lnext_ok A1 i k4 S _ 0 mp0 [] _ h1' R4 fun A2 e2 => ?_
  rw [n4]
  simp only [mp_beq, decide_true, Bool.and_self]
  have g2 := e2.get (e1.get hm hq) id
  simp [r1, r2, g2, mpl, mpt]
  refine imap_ok A2 i k4 S _ (km n) (by show (1 : Int) < _; decide) (h1'.extN e2) (fun A3 _ e3 => ?_) (fun A3 p S' may => absurd may.2.2.2.1 (by rw [he4]; show ¬ (2305843009213693952 : Int) ≤ 1; decide))
  have h3 := (h1'.extN e2).extN e3
  simp [r1]
  refine iput_ok A3 i k4 S _ 1 [122] (by decide) (by decide) h3 fun A4 h4 e4 => ?_
  have h4' : InAt A4 i k5 S := h4
  have z1 : cntB k4.room k4.base k4.f 1 [122] = 0 := c5_zero
  rw [z1]
  simp [r1]
  refine iput_ok A4 i k5 S _ 2305843009213693952 [113] (by decide) (by decide) h4' fun A5 h5 e5 => ?_
  have h5' : InAt A5 i k6 S := h5
  have z2 : cntB k5.room k5.base k5.f 2305843009213693952 [113] = 1 := c6_one
  rw [z2]
  simp [r1]
  have R6 : RightOk k6 (rtF k6.idsn) := right_in k6 fun m hm => by cases hm
  refine lnext_ok A5 i k6 S _ 3 mp0 [] _ h5' R6 fun A6 e6 => ?_
  rw [n6]
  simp only [mp_beq, decide_true, Bool.and_self]
  simp
  have g6 : A6.get q2 = some (.cells (mpc (km n)) false 0) := e6.get (e5.get (e4.get (e3.get g2 id) hq) hq) id
  exact known_c A6 q2 (km n) _ g6 (by simp [r2]) (by simp [r3]) (by simp [r4]) (by simp)
set_option maxHeartbeats 1600000 in
theorem known_b (A : AHeap) (i : Nat) (S : Nat → Prop) (q2 n : Nat) (hn : n < 65536) (hrt : rtF 18446744073709551615 (km n) [122] = true) (env : Env) (hin : InAt A i k0 S) (hm : A.get q2 = some (.cells (mpc (km n)) false 0)) (hq : ¬ S q2) (r1 : env.rd 1 = .pointer (some ⟨i, 0, none⟩)) (r2 : env.rd 2 = .pointer (some ⟨q2, 0, none⟩)) :
    wC T 11 none d11b { env := env, n := 138, dfs := [], A := A } (endF [.inl 0] fun v _ => v = .bool true) := by
  unfold d11b
  simp [r1]
  refine iskip_ok A i _ S _ 1 hin fun A1 w to hto h1 e1 => ?_
  have ht : to = 1 := by simp only [k0] at hto; omega
  subst ht
  have g1 := e1.get hm hq
  have l1 := AHeap.get_lt g1
  simp [r1, r2, g1, mpl, mpt]
  have h1' : InAt A1 i ⟨2048, 1, cutB (fun _ => none) 1, [], true, 18446744073709551615⟩ S := by simpa [skipS, k0] using h1
  refine imap_ok A1 i _ S _ (km n) (by show (1 : Int) < _; decide) h1' (fun A4 hno _ => absurd ⟨(⟨by show (1 : Int) ≤ 1; decide, by show (1 : Int) ≤ 2048; decide, by show (0 : Int) ≤ 0; decide, by show (1 : Int) ≤ 1; decide, by show (1 : Int) < 1 + 2048; decide⟩ : MayPut 2048 1 (km n)), rfl⟩ hno) fun A2 p S' may _ _ h2 e2 hS => ?_
  have h2' : InAt A2 i (k1 (km n)) S' := by simpa [k1] using h2
  have hq' : ¬ S' q2 := fun h => (hS q2 h).elim hq fun z => by omega
  simp [r1]
  refine iput_ok A2 i (k1 (km n)) S' _ 1 [122] (by decide) (by decide) h2' fun A3 h3 e3 => ?_
  have h3' : InAt A3 i (k2 (km n)) S' := h3
  have z1 : cntB (k1 (km n)).room (k1 (km n)).base (k1 (km n)).f 1 [122] = 1 := c2_one
  rw [z1]
  have g3 := e3.get (e2.get g1 hq) hq'
  simp [r1, r2, g3, mpl, mpt]
  have R : RightOk (k2 (km n)) (rtF (k2 (km n)).idsn) := right_in _ fun m hm => by
    have : m = km n := by simpa [k2] using hm
    subst this
    exact ⟨n, rfl, hn⟩
  refine lnext_ok A3 i (k2 (km n)) S' _ 1 (km n) [122] _ h3' R fun A4 e4 => ?_
  have en := n2 (rtF (k2 (km n)).idsn) (km n) rfl rfl hrt
  rw [en]
  simp only [mp_beq, decide_true, Bool.and_self]
  simp [r1]
  refine iskip_ok A4 i (k2 (km n)) S' _ (-3) (h3'.extN e4) fun A5 w to hto h5 e5 => ?_
  have ht : to = 1 := by simp only [k2] at hto; omega
  subst ht
  have h5' : InAt A5 i (k3 (km n)) S' := by simpa [skipS, k2, k3, km] using h5
  simp [r1]
  refine iN_ok A5 i (k3 (km n)) S' _ h5' ?_
  have he : ((k3 (km n)).base : Int) = 1 := rfl
  rw [he]
  simp [r1]
  have g5 := e5.get (e4.get g3 id) hq'
  exact known_e A5 i S' q2 n hn _ h5' g5 hq' (by simp [r1]) (by simp [r2]) (by simp) (by simp)
set_option maxHeartbeats 1600000 in
theorem known_ok (A : AHeap) : wF T (.func (.func 11) #[] #[]) [] A (fun v _ => v = .bool true) := by
  refine wF_func (first := []) (captured := []) u11' ⟨rfl, by decide⟩ ?_
  dsimp only [d11']
  simp
  refine inew_ok 2048 true 18446744073709551615 (by omega) (by omega) A _ fun A1 i e1 hi hin => ?_
  simp
  refine inew_bad 2049 false 0 (.inr (by decide)) A1 _ ?_
  simp
  refine inew_bad (-1) false 0 (.inl (by decide)) A1 _ ?_
  simp
  refine dof_ok A1 0 2 1 [122] (by decide) (by decide) (by decide) _ fun A2 e2 => ?_
  obtain ⟨n, hn⟩ : ∃ n, n = ofN ((0 : Nat) : Int) ((2 : Nat) : Int) 1 [122] := ⟨_, rfl⟩
  rw [← hn]
  have hn2 : n < 65536 := by rw [hn]; exact ofN_lt _ _ _ _
  simp
  generalize hA3 : AHeap.set _ _ _ = A3
  have s2 := e2.size
  have hil := hin.lt
  have e3 : Ext NoB A2 A3 := ⟨by rw [← hA3]; simp, fun j hj _ => by rw [← hA3]; simp [show j ≠ A2.size by omega]⟩
  have g3 : A3.get A2.size = some (.cells (mpc (km n)) false 0) := by rw [← hA3]; simp [mpc, km]
  refine known_b A3 i _ A2.size n hn2 ?_ _ ((hin.extN e2).extN e3) g3 (fun h => by omega) (by simp) (by simp)
  have d1 : dsnF 18446744073709551615 0 = ((0 : Nat) : Int) := by decide
  have d2 : ssnF 1 = ((2 : Nat) : Int) := by decide
  show rightN (dsnF 18446744073709551615 0) (ssnF 1) 1 [122] (n : Int) = true
  rw [d1, d2, hn]
  exact right_ok _ _ _ _
end Go.Proofs.Ytidgbapgedegbaa
