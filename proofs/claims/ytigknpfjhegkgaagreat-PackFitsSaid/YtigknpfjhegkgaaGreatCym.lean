/- How often an option stands in a row; rows that are built at once. -/
import Derived.Test.YtigknpfjhegkgaaGreatNe
import Derived.Test.YtigknpfjhegkgaaGreatKo
import Derived.KernelRfl
namespace Go.Proofs.YtigknpfjhegkgaaGreat
open Go Go.AS
set_option maxRecDepth 100000
set_option linter.unusedSimpArgs false
set_option linter.unusedVariables false
attribute [local irreducible] Trie.set Trie.get Env.rd
attribute [local simp ↓] wV_b2s
attribute [local simp] Nat.add_assoc wD_cons'' wD_nil' wC_seq wC_ops wC_opsD_nil wC_cond wC_skip wC_ret wC_exit wC_block wO_cons' wO_nil wantedA wV_eq lop qop ev wL_some wL_none wPut envOf rd_set rd_leaf eqA thenC blockC wB_true wB_false endF unwindA resultsA resA tupleA rdCell rdCells wrCells cl fillP lay rep bi_eql bi_neq bi_lss bi_leq bi_gtr bi_geq bi_add bi_sub bs_eql bs_neq bi_shr4 unA get_set' AHeap.get_alloc oneCell beqd bned idxA
attribute [local simp] Op.len Op.one Op.take Op.at0 Op.head? Op.getCap Op.getAd Op.layAll Op.zeroC Op.vb
theorem enc_len {x : Op} (hw : x.W) {l : List UInt8} (h : x.enc = some l) : l.length < 1000000 := by
  have hb : ∀ (b : Bool), wide b ≤ 8 := fun b => by cases b <;> decide
  unfold Op.enc at h
  split at h
  case isFalse => cases h
  unfold Op.lay at h
  have inv : ∀ (c : Bool) (z : List UInt8), (if c = true then some z else none) = some l → z = l := fun c z q => by cases c <;> cases q; rfl
  split at h
  · have := inv _ _ h
    rw [← this]
    simp only [Cap.body, List.length_append, be_len]
    split <;> split <;> split <;> split <;> simp [be_len]
  have inv2 : ∀ (c : Bool) (z : List UInt8), (if c = true then some z else none) = some l → c = true := fun c z q => by cases c <;> first | rfl | cases q
  split at h
  · have := inv _ _ h
    have hm : x.jn.mac.length ≤ 20 := by
      have := inv2 _ _ h
      simp only [Jn.may, decide_eq_true_eq] at this
      rcases this.2.2 with q | q | q
      · rw [q.2]; decide
      · omega
      · omega
    rw [← this, Jn.body]
    split
    · simp [Jn.head, be_len]
    split
    · simp [Jn.head, be_len]; omega
    · simp [Jn.head, be_len]; omega
  split at h
  · have := inv _ _ h
    rw [← this]
    simp only [Ds.body, List.length_append, be_len]
    have h1 := hb x.ds.longAck
    have h2 := hb x.ds.longDsn
    split <;> split <;> split <;> simp [be_len] <;> omega
  split at h
  · have := inv _ _ h
    have h1 : x.ad.ip.length ≤ 16 ∧ x.ad.mac.length ≤ 8 := by
      have := inv2 _ _ h
      simp only [Ad.may, Bool.and_eq_true, decide_eq_true_eq] at this
      have h8 := this.2
      have h4 := this.1.1.1.2
      rw [h8]
      exact ⟨by omega, by split <;> omega⟩
    rw [← this]
    simp only [Ad.body, List.length_append, be_len]
    split <;> simp [be_len] <;> omega
  split at h
  · unfold remE at h
    split at h
    · cases h; simp; omega
    · cases h
  split at h
  · cases h; simp [prioE, be_len]
  split at h
  · cases h; simp [bigE, be_len]
  split at h
  · cases h; simp [bigE, be_len]
  split at h
  · unfold rstE at h
    split at h
    · cases h; simp [be_len]
    · cases h
  · cases h
theorem OkO.of {x : Op} (h : x.W) : OkO x := ⟨h, fun _ q => enc_len h q⟩
def partsO : Nat → List Op → List (Nat × Nat × Value)
  | _, [] => []
  | k, x :: r => (k * 38, 38, .agg ⟨x.cells⟩) :: partsO (k + 1) r
theorem fill_parts : ∀ (xs pre : List Op), fillP (opsC pre ++ rep xs.length opZ) (partsO pre.length xs) = some (opsC (pre ++ xs))
  | [], pre => by simp [partsO, fillP, rep]
  | x :: xs, pre => by
    have ih := fill_parts xs (pre ++ [x])
    have hl : (opsC pre).length = pre.length * 38 := opsC_len pre
    have hz : opZ.length = 38 := rfl
    have hr : rep (x :: xs).length opZ = opZ ++ rep xs.length opZ := by simp only [rep, List.length_cons, List.replicate_succ, List.flatten_cons]
    have hlay : AS.lay (opsC pre ++ (opZ ++ rep xs.length opZ)) (pre.length * 38) x.cells = opsC (pre ++ [x]) ++ rep xs.length opZ := by
      have g : ∀ (vs pre' mid rest : List Value), mid.length = vs.length → AS.lay (pre' ++ (mid ++ rest)) pre'.length vs = pre' ++ (vs ++ rest) := by
        intro vs
        induction vs with
        | nil => intro pre' mid rest h; obtain rfl := List.length_eq_zero_iff.1 h; rfl
        | cons v vs ih =>
          intro pre' mid rest h
          cases mid with
          | nil => simp at h
          | cons m mid =>
            have := ih (pre' ++ [v]) mid rest (by simpa using h)
            simp only [List.append_assoc, List.cons_append, List.nil_append, List.length_append, List.length_cons, List.length_nil] at this
            show AS.lay ((pre' ++ (m :: (mid ++ rest))).set pre'.length v) (pre'.length + 1) vs = _
            rw [List.set_append_right _ _ (Nat.le_refl _), Nat.sub_self, List.set_cons_zero]
            exact this
      have := g x.cells (opsC pre) opZ (rep xs.length opZ) (by rw [hz, Op.len])
      rw [← hl, this, opsC_app, List.append_assoc]
    show (if (x.cells).length ≠ 38 || pre.length * 38 + (x.cells).length > (opsC pre ++ rep (x :: xs).length opZ).length then none else fillP (AS.lay (opsC pre ++ rep (x :: xs).length opZ) (pre.length * 38) x.cells) (partsO (pre.length + 1) xs)) = _
    rw [hr, hlay]
    rw [if_neg (by simp [Op.len, hl, hz])]
    have e : (pre ++ [x]).length = pre.length + 1 := by simp
    rw [e] at ih
    rw [ih]; simp
theorem fill_row (xs : List Op) : fillP (rep xs.length opZ) (partsO 0 xs) = some (opsC xs) := by simpa [opsC] using fill_parts xs []

def CtI (A0 : AHeap) (lv : Value) (l : List Op) (x : Op) (d : Nat) (m : Nat) (st : St) : Prop := ∃ i, m + i = l.length ∧ st.n = 22 ∧ st.dfs = [] ∧ st.A = A0 ∧ st.env.rd 0 = lv ∧ st.env.rd 3 = .pointer (some ⟨d, 0, none⟩) ∧ st.env.rd 5 = .int .i64 ((l.take i).count x : Nat) ∧ st.env.rd 6 = .int .i64 (i : Nat)
theorem count_ok (A : AHeap) (lv : Value) (l : List Op) (x : Op) (hl : ReadAt A 38 lv l.length (opsC l)) (hn : l.length < 1000000) (Q : Value → AHeap → Prop) (hq : ∀ A', Ext NoB A A' → Q (.int .i64 (l.count x : Nat)) A') : wF T (.func (.func 18) #[] #[]) [lv, .agg ⟨x.cells⟩] A Q := by
  obtain ⟨a1, c1, rfl⟩ := hl.val
  refine wF_func (first := []) (captured := []) t18 ⟨rfl, by decide⟩ ?_
  dsimp only [c18]
  simp
  generalize hA1 : AHeap.alloc A _ = A1
  have e1 : Ext NoB A A1 := by subst hA1; exact Ext.alloc
  have g1 : A1.get A.size = some (.cells x.cells false 0) := by subst hA1; simp
  refine wC_loop_inv (CtI A1 (.slice a1 l.length c1) l x A.size) ?_ l.length _ ⟨0, rfl, rfl, rfl, rfl, by simp, by simp, by simp, by simp⟩
  rintro m ⟨env, n, dfs, A'⟩ ⟨i, k1, k2, k3, k4, k5, k6, k7, k8⟩
  simp only at k2 k3 k4 k5 k6 k7 k8
  subst k2; subst k3; subst k4
  by_cases hi : i < l.length
  case neg =>
    rw [List.take_of_length_le (by omega)] at k7
    have hii : ¬ (i : Int) < (l.length : Int) := by omega
    simp [k5, k8, hi, hii, k7]
    exact hq _ e1
  have hii : (i : Int) < (l.length : Int) := by omega
  obtain ⟨d1, p1, cc1, bs1, ro1, opn1, q1, q2, q3, q4⟩ := (hl.ext e1 fun _ _ q => q).elem2 hi
  cases q1
  rw [Nat.add_assoc] at q3
  rw [opsC_at l i hi] at q4
  have et : (l.take (i + 1)).count x = (l.take i).count x + if l[i] = x then 1 else 0 := by
    rw [List.take_add_one, List.getElem?_eq_getElem hi, List.count_append]
    congr 1
    show List.count x [l[i]] = _
    rw [List.count_singleton]
    by_cases h : l[i] = x <;> simp [h]
  have hcl : (l.take i).count x ≤ i := by have := List.count_le_length (a := x) (l := l.take i); rw [List.length_take] at this; omega
  generalize l[i] = y at q4 et
  have ws := wrap_succ i (by omega)
  by_cases he : y = x
  · subst he
    rw [if_pos rfl] at et
    have wc := wrap_succ ((l.take i).count y) (by omega)
    simp [k5, k6, k7, k8, hi, hii, q2, q3, q4, g1, eqOp, ws, wc]
    exact ⟨m - 1, by omega, i + 1, by omega, rfl, rfl, rfl, by simp [k5], by simp [k6], by simp [et], by simp⟩
  · rw [if_neg he, Nat.add_zero] at et
    simp [k5, k6, k7, k8, hi, hii, q2, q3, q4, g1, eqOp, ws, he]
    exact ⟨m - 1, by omega, i + 1, by omega, rfl, rfl, rfl, by simp [k5], by simp [k6], by simp [et, k7], by simp⟩
end Go.Proofs.YtigknpfjhegkgaaGreat
