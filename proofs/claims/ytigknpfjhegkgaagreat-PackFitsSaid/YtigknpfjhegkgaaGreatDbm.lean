/- What is packed is as the reference says. -/
import Derived.Test.YtigknpfjhegkgaaGreatDam
import Derived.KernelRfl
namespace Go.Proofs.YtigknpfjhegkgaaGreat
open Go Go.AS
set_option maxRecDepth 100000
set_option linter.unusedSimpArgs false
set_option linter.unusedVariables false
attribute [local irreducible] Trie.set Trie.get Env.rd
attribute [local simp ↓] wV_b2s
attribute [local simp] Nat.add_assoc wD_cons'' wD_nil' wC_seq wC_ops wC_opsD_nil wC_cond wC_skip wC_ret wC_exit wC_block wO_cons' wO_nil wantedA wV_eq lop qop ev wL_some wL_none wPut envOf rd_set rd_leaf eqA thenC blockC wB_true wB_false endF unwindA resultsA resA tupleA rdCell rdCells wrCells cl fillP lay rep bi_eql bi_neq bi_lss bi_leq bi_gtr bi_geq bi_add bi_sub bs_eql bs_neq bi_shr4 unA get_set' AHeap.get_alloc oneCell beqd bned idxA
attribute [local simp] Op.len Op.one Op.take Op.at0 Op.head? Op.getCap Op.getAd Op.layAll Op.zeroC Op.vb

theorem opsC_take : ∀ (xs : List Op) (k : Nat), (opsC xs).take (k * 38) = opsC (xs.take k)
  | [], k => by simp [opsC]
  | x :: xs, 0 => by simp [opsC]
  | x :: xs, k + 1 => by
    have ih := opsC_take xs k
    show (x.cells ++ opsC xs).take ((k + 1) * 38) = x.cells ++ opsC (xs.take k)
    rw [Nat.succ_mul, Nat.add_comm, List.take_append, Op.len, Nat.add_sub_cancel_left, ih, List.take_of_length_le (by rw [Op.len]; omega)]
/-- Thirty options at most, out of an argument. -/
theorem front_thirty {A : AHeap} {v : Value} {L : List Op} (h : ArgV v L.length) (hr : ReadAt A 38 v L.length (opsC L)) : ∃ v', sliceVA A 38 v none (some (.int .i64 ((L.take 30).length : Nat))) none = some v' ∧ ReadAt A 38 v' (L.take 30).length (opsC (L.take 30)) ∧ ∀ j, Own v' j → Own v j := by
  obtain ⟨v', h1, h2, h3⟩ := h.front (k2 := .i64) hr (l := (L.take 30).length) (by rw [List.length_take]; omega)
  refine ⟨v', h1, ?_, h3⟩
  rw [opsC_take] at h2
  rwa [List.length_take, show L.take (min 30 L.length) = L.take 30 by
    by_cases q : 30 ≤ L.length
    · rw [Nat.min_eq_left q]
    · rw [Nat.min_eq_right (by omega), List.take_of_length_le (Nat.le_refl _), List.take_of_length_le (by omega)], ← List.length_take] at h2
theorem min_thirty (L : List Op) : minV (.int .i64 (L.length : Nat)) (.int .i64 30) = some (.int .i64 ((L.take 30).length : Nat)) := by
  simp only [minV, List.length_take]
  congr 2
  split <;> omega
def TnI (A0 : AHeap) (v : Value) (room : Int) (m : Nat) (st : St) : Prop := ∃ i, m + i = 3 ∧ st.n = 78 ∧ st.dfs = [] ∧ st.env.rd 0 = v ∧ st.env.rd 50 = .agg ⟨[.int .i64 room, .int .i64 (room.tmod 60), .int .i64 40]⟩ ∧ st.env.rd 51 = .int .i64 (i : Nat) ∧ Ext NoB A0 st.A
theorem tells2_ok (A0 : AHeap) (v : Value) (l : List Op) (room : Int) (hl : ReadAt A0 38 v l.length (opsC l)) (hlv : ∀ j, Own v j → j < A0.size) (hn : l.length ≤ 30) (hw : ∀ x ∈ l, OkO x) (env : Env) (r0 : env.rd 0 = v) (r1 : env.rd 1 = .int .i64 room) :
    wC T 3 none c3t { env := env, n := 78, dfs := [], A := A0 } (endF [.inl 4] (fun v _ => v = .bool true)) := by
  dsimp only [c3t]
  simp [r1, binA]
  refine wC_loop_inv (TnI A0 v room) ?_ 3 _ ⟨0, rfl, rfl, rfl, by simp [r0], by simp, by simp, Ext.refl⟩
  clear r0 r1
  rintro m ⟨env, nn, dfs, A⟩ ⟨i, k0, k1, k2, s0, s50, s51, e1⟩
  simp only at k1 k2 s0 s50 s51 e1
  subst k1; subst k2
  by_cases hi : i < 3
  case neg =>
    have hii : ¬ (i : Int) < 3 := by omega
    simp [s51, hii, hi]
    refine works_ok A _ fun A' e => ?_
    simp
  have hii : (i : Int) < 3 := by omega
  obtain ⟨n, hat⟩ : ∃ n, ([.int .i64 room, .int .i64 (room.tmod 60), .int .i64 40] : List Value)[i]? = some (.int .i64 n) := by
    match i, hi with
    | 0, _ => exact ⟨_, rfl⟩
    | 1, _ => exact ⟨_, rfl⟩
    | 2, _ => exact ⟨_, rfl⟩
  have hat' : ∀ hh, ([.int .i64 room, .int .i64 (room.tmod 60), .int .i64 40] : List Value)[i]'hh = .int .i64 n := fun hh => by rw [List.getElem?_eq_getElem hh] at hat; exact Option.some.inj hat
  have ws := wrap_succ i (by omega)
  simp [s51, hii, hi, s50, hat, hat', s0]
  refine pack_ok A v l n (hl.ext e1 fun _ _ q => q) (fun j hj => Nat.lt_of_lt_of_le (hlv j hj) e1.size) hn hw _ fun B tv fv e2 t2 f2 _ _ => ?_
  have e12 := e1.trans e2
  simp [s0]
  refine rpack_ok B v l n (hl.ext e12 fun _ _ q => q) (fun j hj => Nat.lt_of_lt_of_le (hlv j hj) e12.size) hn hw _ fun C tv' fv' e3 t3 f3 => ?_
  have e13 := e12.trans e3
  have lenT : (takeO l (min n 40)).length < 1000000 := by
    have g1 := pickO_len l (takenO l (min n 40))
    have g2 := (fitP_sub (szO l) (ordO l) (min n 40)).length_le
    have g3 := (ordO_is l).1.length_eq
    have g4 := List.length_filter_le (fun i => decide (0 < szO l i)) (List.range l.length)
    rw [List.length_range] at g4
    unfold placesO at g3
    unfold takeO takenO
    unfold takenO at g1
    omega
  have lenF : (leftO l (min n 40)).length < 1000000 := by
    have g1 := pickO_len l (leftP l (min n 40))
    have g2 := List.length_filter_le (fun i => !decide (i ∈ takenO l (min n 40))) (placesO l)
    have g4 := List.length_filter_le (fun i => decide (0 < szO l i)) (List.range l.length)
    rw [List.length_range] at g4
    unfold leftO
    unfold leftP at g1
    unfold placesO at g1 g2
    unfold leftP placesO
    omega
  simp
  refine same_ok tv tv' _ _ C _ (t2.read.ext e3 fun _ _ q => q) t3.read lenT ?_
  simp
  refine same_ok fv fv' _ _ C _ (f2.read.ext e3 fun _ _ q => q) f3.read lenF ?_
  simp [ws, s51]
  exact ⟨m - 1, by omega, i + 1, by omega, rfl, rfl, by simp [s0], by simp [s50], by simp, e13⟩
def TlI (A0 : AHeap) (v : Value) (l : List Op) (room : Int) (m : Nat) (st : St) : Prop := ∃ i, m + i = l.length ∧ st.n = 78 ∧ st.dfs = [] ∧ st.env.rd 0 = v ∧ st.env.rd 1 = .int .i64 room ∧ st.env.rd 5 = .int .i64 (i : Nat) ∧ Ext NoB A0 st.A
theorem tells_ok (A0 : AHeap) (v0 : Value) (L : List Op) (room : Int) (ha : ArgV v0 L.length) (hL : ReadAt A0 38 v0 L.length (opsC L)) (hlv : ∀ j, Own v0 j → j < A0.size) (hw : ∀ x ∈ L, x.W) : wF T (.func (.func 3) #[] #[]) [v0, .int .i64 room] A0 (fun v _ => v = .bool true) := by
  refine wF_func (first := []) (captured := []) t3 ⟨rfl, by decide⟩ ?_
  dsimp only [c3]
  obtain ⟨v', h1, h2, h3⟩ := front_thirty ha hL
  have hmin := min_thirty L
  obtain ⟨a0, c0, rfl⟩ := hL.val
  have hn : (L.take 30).length ≤ 30 := by rw [List.length_take]; omega
  have hwl : ∀ x ∈ L.take 30, OkO x := fun x hx => OkO.of (hw x (List.mem_of_mem_take hx))
  have hlv' : ∀ j, Own v' j → j < A0.size := fun j hj => hlv j (h3 j hj)
  generalize L.take 30 = l at h1 h2 hmin hn hwl
  simp [foldV, hmin, h1]
  obtain ⟨a1, c1, rfl⟩ := h2.val
  refine wC_loop_inv (TlI A0 (.slice a1 l.length c1) l room) ?_ l.length _ ⟨0, rfl, rfl, rfl, by simp, by simp, by simp, Ext.refl⟩
  rintro m ⟨env, nn, dfs, A⟩ ⟨i, k0, k1, k2, s0, s1, s5, e1⟩
  simp only at k1 k2 s0 s1 s5 e1
  subst k1; subst k2
  by_cases hi : i < l.length
  case neg =>
    have hii : ¬ (i : Int) < (l.length : Int) := by omega
    simp [s0, s5, hii, hi]
    exact tells2_ok A (.slice a1 l.length c1) l room (h2.ext e1 fun _ _ q => q) (fun j hj => Nat.lt_of_lt_of_le (hlv' j hj) e1.size) hn hwl _ (by simp [s0]) (by simp [s1])
  have hii : (i : Int) < (l.length : Int) := by omega
  obtain ⟨d1, p1, cc1, bs1, ro1, opn1, q1, q2, q3, q4⟩ := (h2.ext e1 fun _ _ q => q).elem2 hi
  rw [opsC_at l i hi] at q4
  rw [Nat.add_assoc] at q3
  cases q1
  have hok := hwl _ (List.getElem_mem hi)
  generalize l[i] = x at q4 hok
  have ws := wrap_succ i (by omega)
  simp [s0, s5, hii, hi]
  refine wC_opsD_chk ?_
  simp [s0, s5, hii, hi, q2, q3, q4]
  refine size_ok A x hok.1 _ hok.2 fun B e2 => ?_
  have qB := e2.get q2 id
  simp [s0, s5, hii, hi, qB, q3, q4]
  refine rsize_ok B x hok.1 _ hok.2 fun C e3 => ?_
  have qC := e3.get qB id
  simp [s0, s5, hii, hi, qC, q3, q4]
  refine rank_ok C x _ fun D e4 => ?_
  have qD := e4.get qC id
  simp [s0, s5, hii, hi, qD, q3, q4]
  refine rrank_ok D x _ fun E e5 => ?_
  have qE := e5.get qD id
  simp
  refine wE_intro ?_ ?_
  · simp only [List.all_cons, List.all_nil, chkOk, List.nil_append, List.cons_append, List.getElem?_cons_succ, List.getElem?_cons_zero]
    simp [Bx, q2, qB, qC, qD, qE, q3, q4, s0, s5, hii, hi, vbeq]
    done
  · simp [ws, s5]
    exact ⟨m - 1, by omega, i + 1, by omega, rfl, rfl, by simp [s0], by simp [s1], by simp, (((e1.trans e2).trans e3).trans e4).trans e5⟩
end Go.Proofs.YtigknpfjhegkgaaGreat
