/- Mappings: put. -/
import Derived.Test.YtidgbapgedegbaaRc
import Derived.KernelRfl
namespace Go.Proofs.Ytidgbapgedegbaa
open Go Go.AS
set_option maxRecDepth 100000
set_option linter.unusedSimpArgs false
set_option linter.unusedVariables false
attribute [local irreducible] Trie.set Trie.get Env.rd
attribute [local simp] Nat.add_assoc wD_cons'' wD_nil' wC_seq wC_ops wC_opsD_nil wC_cond wC_skip wC_ret wC_exit wC_block wO_cons' wO_nil wantedA wV_eq lop qop ev wL_some wL_none wPut envOf rd_set rd_leaf eqA thenC blockC wB_true wB_false endF unwindA resultsA resA tupleA rdCell rdCells wrCells cl fillP lay rep binA unA get_set' AHeap.get_alloc oneCell beqd bned idxA

def MayPut (room begin : Nat) (m : Mp) : Prop := 1 ≤ m.len ∧ m.len ≤ room ∧ 0 ≤ m.off ∧ (begin : Int) ≤ m.at_ ∧ m.at_ < (begin : Int) + room

theorem find_ins {ms : List Mp} {m : Mp} {i : Nat} (h : Place ms m.at_ i) (hn : findM ms m.at_ = none) (at_ : Int) : findM (ms.take i ++ m :: ms.drop i) at_ = if at_ = m.at_ then some m else findM ms at_ := by
  have e : ms = ms.take i ++ ms.drop i := (List.take_append_drop i ms).symm
  unfold findM at *
  rw [List.find?_append, List.find?_cons]
  by_cases c : at_ = m.at_
  · subst c
    rw [if_pos rfl]
    have : (ms.take i).find? (fun x => decide (x.at_ = m.at_)) = none := by
      rw [List.find?_eq_none] at hn ⊢
      exact fun x hx => hn x (List.mem_of_mem_take hx)
    rw [this]; simp
  · rw [if_neg c]
    simp only [show ¬ m.at_ = at_ from fun q => c q.symm, decide_false]
    conv => rhs; rw [e]
    rw [List.find?_append]

theorem rise_ins {ms : List Mp} {m : Mp} {i : Nat} (rise : Rise ms) (h : Place ms m.at_ i) (hn : findM ms m.at_ = none) : Rise (ms.take i ++ m :: ms.drop i) := by
  have hne : ∀ x ∈ ms, x.at_ ≠ m.at_ := fun x hx q => by
    unfold findM at hn
    rw [List.find?_eq_none] at hn
    have := hn x hx
    simp [q] at this
  have lo : ∀ x ∈ ms.take i, x.at_ < m.at_ := fun x hx => by
    obtain ⟨k, hk, rfl⟩ := List.getElem_of_mem hx
    rw [List.length_take] at hk
    rw [List.getElem_take]
    exact h.2.1 k (by omega) (by omega)
  have hi : ∀ x ∈ ms.drop i, m.at_ < x.at_ := fun x hx => by
    have hm := hne x (List.mem_of_mem_drop hx)
    obtain ⟨k, hk, rfl⟩ := List.getElem_of_mem hx
    rw [List.length_drop] at hk
    rw [List.getElem_drop] at hm ⊢
    have := h.2.2 (i + k) (by omega) (by omega)
    omega
  unfold Rise at *
  rw [List.pairwise_append, List.pairwise_cons]
  refine ⟨rise.sublist (List.take_sublist _ _), ⟨hi, rise.sublist (List.drop_sublist _ _)⟩, fun a ha b hb => ?_⟩
  have a1 := lo a ha
  rcases List.mem_cons.1 hb with q | q
  · subst q; exact a1
  · have := hi b q; omega

theorem tput_ok (A : AHeap) (p room begin : Nat) (ms : List Mp) (S : Nat → Prop) (m : Mp) (Q : Value → AHeap → Prop) (hr : m.at_ < 9223372036854775808) (h : TabAt A p room begin ms S) (ok : TabOk room begin ms)
    (hQ0 : ∀ A', ¬ (MayPut room begin m ∧ findM ms m.at_ = none) → Ext NoB A A' → Q (.bool false) A')
    (hQ1 : ∀ A' i S', MayPut room begin m → findM ms m.at_ = none → Place ms m.at_ i → TabAt A' p room begin (ms.take i ++ m :: ms.drop i) S' → TabOk room begin (ms.take i ++ m :: ms.drop i) → Ext S A A' → (∀ j, S' j → S j ∨ (A.size ≤ j ∧ j < A'.size)) → Q (.bool true) A') :
    wF T (.func (.func 85) #[] #[]) [.pointer (some ⟨p, 0, none⟩), .agg ⟨mpc m⟩] A Q := by
  have hl := ok.len; have hro := ok.room2; have hb := ok.big
  have lp := h.lt
  have h0 := h
  obtain ⟨v, h1, h2, h3, h4, h5⟩ := h
  refine wF_func (first := []) (captured := []) t85 ⟨rfl, by decide⟩ ?_
  dsimp only [c85]
  by_cases g1 : m.len < 1
  · simp [mpc, g1, undef]
    exact hQ0 _ (fun q => by have := q.1.1; omega) Ext.alloc
  by_cases g2 : (room : Int) < m.len
  · simp [mpc, g1, g2, undef, h1, show p ≠ A.size by omega]
    exact hQ0 _ (fun q => by have := q.1.2.1; omega) Ext.alloc
  by_cases g3 : m.off < 0
  · simp [mpc, g1, g2, g3, undef, h1, show p ≠ A.size by omega]
    exact hQ0 _ (fun q => by have := q.1.2.2.1; omega) Ext.alloc
  by_cases g4 : m.at_ < (begin : Int)
  · simp [mpc, g1, g2, g3, g4, undef, h1, show p ≠ A.size by omega]
    exact hQ0 _ (fun q => by have := q.1.2.2.2.1; omega) Ext.alloc
  have w1 : IntKind.i64.wrap (m.at_ - (begin : Int)) = m.at_ - (begin : Int) := IntWalk.i64_in _ (by omega)
  by_cases g5 : (room : Int) ≤ m.at_ - (begin : Int)
  · simp [mpc, g1, g2, g3, g4, g5, w1, undef, h1, show p ≠ A.size by omega]
    exact hQ0 _ (fun q => by have := q.1.2.2.2.2; omega) Ext.alloc
  have may : MayPut room begin m := ⟨by omega, by omega, by omega, by omega, by omega⟩
  simp [mpc, g1, g2, g3, g4, g5, w1, undef, h1, show p ≠ A.size by omega]
  generalize hA1 : A.alloc _ = A1
  obtain ⟨gm, e1, z1⟩ := alloc_facts hA1
  have t1 := h0.ext e1 fun _ _ => id
  refine find_ok A1 p room begin ms S m.at_ _ t1 ok.rise (by omega) fun A2 i e2 pl => ?_
  have fp := find_place ok.rise pl
  have g1' := e2.get (e1.get h1 id) id
  have gm' := e2.get gm id
  have s2 := (h2.ext e1 fun _ _ => id).ext e2 fun _ _ => id
  cases ha : isAt ms i m.at_ with
  | true =>
    simp
    refine hQ0 A2 (fun q => ?_) (e1.trans e2)
    rw [ha, if_pos rfl] at fp
    unfold isAt at ha
    rw [← fp, q.2] at ha; cases ha
  | false =>
    rw [ha] at fp
    simp only [Bool.false_eq_true, if_false] at fp
    obtain ⟨a', c', hv'⟩ := s2.read.val
    subst hv'
    have ea : Ext NoB A2 (A2.alloc (.cells [.int .i64 m.at_, .int .i64 m.off, .int .i64 m.len, .int .u16 m.sum] false 0)) := Ext.alloc
    have lp2 := AHeap.get_lt g1'
    obtain ⟨v1, v2, A4, v3, v4, A5, c1, c2, c3, c4, c5, c6, x4, x5, ow⟩ := (s2.ext ea fun _ _ => id).ins (i := i) (q := A2.size) (x := mpc m) (bytes := 32) (k1 := .i64) (k2 := .i64) (k3 := .i64) (ro := false) (opq := 0) (by decide) pl.1 (by omega) (by rw [AHeap.get_alloc, if_pos rfl]; rfl) rfl rfl (encs_one mpco ms) (by decide)
    obtain ⟨a3, n3, c3v, hv3⟩ := sliceVA_val c3
    subst hv3
    have c1' : sliceVA A2 4 (.slice a' ms.length c') none (some (.int .i64 (i : Int))) (some (.int .i64 (i : Int))) = some v1 := by
      rcases s2 with ⟨k1, k2, k3⟩ | ⟨d, o, c, bs, opn, k1, k2, _⟩
      · rw [k1] at c1 ⊢; exact c1
      · cases k1
        have k2' := ea.get k2 id
        simp only [sliceVA, k2, k2'] at c1 ⊢
        exact c1
    have npv : ¬ Own (.slice a' ms.length c') p := h4
    have g4p := x4.get (ea.get g1' id) npv
    have g5p := x5.get (ea.get g1' id) npv
    have lp5 := AHeap.get_lt g5p
    obtain ⟨a1, c1n, hv1⟩ : ∃ a c, v4 = .slice a (ms.length + 1) c := c6.read.val
    subst hv1
    simp
    refine wC_opsD_chk ?_
    simp [g1', c1', gm', c2, g4p, c3, c5, g5p, lp5]
    refine wE_intro ?_ ?_
    · simp only [List.all_cons, List.all_nil, chkOk, List.nil_append, List.cons_append, List.getElem?_cons_succ, List.getElem?_cons_zero]
      simp [Bx, g1', g4p, vbeq, vbeq.vbeqs, c3, c4, ea.get g1' id]
    · generalize hA6 : AHeap.set A5 p _ = A6
      obtain ⟨g6, e6, z6⟩ := set_facts lp5 hA6
      simp
      have lst : (encs mpc ms).take (i * 4) ++ mpc m ++ (encs mpc ms).drop (i * 4) = encs mpc (ms.take i ++ m :: ms.drop i) := by
        have e : ms = ms.take i ++ ms.drop i := (List.take_append_drop i ms).symm
        have k : i * 4 = (encs mpc (ms.take i)).length := by rw [encs_len mpcz, List.length_take, Nat.min_eq_left pl.1]
        have t1 : (encs mpc ms).take (i * 4) = encs mpc (ms.take i) := by
          conv => lhs; rw [e, encs_append]
          rw [k, List.take_left]
        have t2 : (encs mpc ms).drop (i * 4) = encs mpc (ms.drop i) := by
          conv => lhs; rw [e, encs_append]
          rw [k, List.drop_left]
        rw [t1, t2, encs_append, encs_cons, List.append_assoc]
      have ln : (ms.take i ++ m :: ms.drop i).length = ms.length + 1 := by
        have := pl.1
        simp only [List.length_append, List.length_cons, List.length_take, List.length_drop]; omega
      have np5 : ¬ Own (.slice a1 (ms.length + 1) c1n) p := fun q => by
        have := ow p q
        have := ea.size; have := e2.size; omega
      refine hQ1 A6 i (fun j => S j ∨ (A.size ≤ j ∧ j < A6.size)) may fp pl ⟨_, g6, ?_, .inl h3, np5, ?_⟩ ⟨rise_ins ok.rise pl fp, ?_, hb, ok.room1, ok.room2, ?_⟩ ?_ (fun j hj => hj)
      · rw [ln, ← lst]
        exact c6.ext e6 fun j hj q => np5 (q ▸ hj)
      · intro j hj
        have := ow j hj
        have := ea.size; have := e2.size
        have := c6.own_lt hj
        exact .inr ⟨by omega, by omega⟩
      · intro x hx
        rcases List.mem_append.1 hx with q | q
        · exact ok.dom x (List.mem_of_mem_take q)
        · rcases List.mem_cons.1 q with q | q
          · subst q; exact ⟨may.2.2.2.1, may.2.2.2.2⟩
          · exact ok.dom x (List.mem_of_mem_drop q)
      · intro x hx
        rcases List.mem_append.1 hx with q | q
        · exact ok.lens x (List.mem_of_mem_take q)
        · rcases List.mem_cons.1 q with q | q
          · subst q; exact ⟨may.1, may.2.1⟩
          · exact ok.lens x (List.mem_of_mem_drop q)
      · exact ((((e1.trans e2).trans ea).mono fun _ _ q => q.elim).trans2 x5 fun j _ q => h5 j q).trans2 e6 fun j _ q => q ▸ h3
end Go.Proofs.Ytidgbapgedegbaa
