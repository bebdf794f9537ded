/- The ranks of places, compared. -/
import Derived.Test.YtigknpfjhegkgaaGreatCrm
import Derived.KernelRfl
namespace Go.Proofs.YtigknpfjhegkgaaGreat
open Go Go.AS
set_option maxRecDepth 100000
set_option linter.unusedSimpArgs false
set_option linter.unusedVariables false
attribute [local irreducible] Trie.set Trie.get Env.rd
attribute [local simp ↓] wV_b2s
attribute [local simp] Nat.add_assoc wD_cons'' wD_nil' wC_seq wC_ops wC_opsD_nil wC_cond wC_skip wC_ret wC_exit wC_block wO_cons' wO_nil wantedA wV_eq lop qop ev wL_some wL_none wPut envOf rd_set rd_leaf eqA thenC blockC wB_true wB_false endF unwindA resultsA resA tupleA rdCell rdCells wrCells cl fillP lay rep bi_eql bi_neq bi_lss bi_leq bi_gtr bi_geq bi_add bi_sub bs_eql bs_neq bi_shr4 unA get_set' AHeap.get_alloc oneCell beqd bned idxA
attribute [local simp] Op.len Op.one Op.take Op.at0 Op.head? Op.getCap Op.getAd Op.layAll Op.zeroC Op.vb

def rkO (l : List Op) (i : Nat) : Int := match l[i]? with
  | some x => rankO x
  | none => -1
def szO (l : List Op) (i : Nat) : Nat := match l[i]? with
  | some x => takes x
  | none => 0
theorem rkO_at {l : List Op} {i : Nat} (h : i < l.length) : rkO l i = rankO l[i] := by
  unfold rkO; rw [List.getElem?_eq_getElem h]
theorem szO_at {l : List Op} {i : Nat} (h : i < l.length) : szO l i = takes l[i] := by
  unfold szO; rw [List.getElem?_eq_getElem h]
theorem rankO_in (x : Op) : 0 ≤ rankO x ∧ rankO x < 10 := by
  unfold rankO
  (repeat' split) <;> omega
theorem rkO_in {l : List Op} {i : Nat} (h : 0 ≤ rkO l i) : i < l.length := by
  unfold rkO at h
  by_cases q : i < l.length
  · exact q
  · rw [List.getElem?_eq_none (by omega)] at h
    simp at h
/-- The rank of the thing at a place. -/
def numV (b : Nat) : Value := .func (.func 23) #[] #[.pointer (some ⟨b, 0, none⟩)]
theorem num_ok (A : AHeap) (b opn : Nat) (lv : Value) (l : List Op) (i : Nat) (hb : A.get b = some (.cells [lv] false opn)) (hl : ReadAt A 38 lv l.length (opsC l)) (hi : i < l.length) (hn : l.length < 1000000) (Q : Value → AHeap → Prop) (hq : ∀ A', Ext NoB A A' → Q (.int .i64 (rkO l i)) A') : wF T (numV b) [.int .i64 (i : Nat)] A Q := by
  refine wF_func (first := []) (captured := [.pointer (some ⟨b, 0, none⟩)]) t23 ⟨rfl, by decide⟩ ?_
  dsimp only [c23]
  obtain ⟨d1, p1, cc1, bs1, ro1, opn1, q1, q2, q3, q4⟩ := hl.elem2 hi
  rw [opsC_at l i hi] at q4
  rw [Nat.add_assoc] at q3
  rw [rkO_at hi] at hq
  subst q1
  generalize l[i] = x at q4 hq
  simp [hb, hi, q2, q3, q4]
  refine rank_ok A x _ fun A' e => ?_
  simp
  exact hq _ e
/-- What compares two places. -/
def cmpV (k : Nat) : Value := .func (.func 31) #[] #[.pointer (some ⟨k, 0, none⟩)]
theorem cmp_ok (A : AHeap) (b k d opn opk : Nat) (lv : Value) (l : List Op) (hb : A.get b = some (.cells [lv] false opn)) (hk : A.get k = some (.cells [numV b] false opk)) (hl : ReadAt A 38 lv l.length (opsC l)) (hn : l.length < 1000000) (hbd : b ≠ d) (hkd : k ≠ d) (hld : ¬ Own lv d) : Cmp (rkO l) (cmpV k) d A := by
  intro B eB x y hx hy Q hq
  have hx' := rkO_in hx.2
  have hy' := rkO_in hy.2
  have gb := eB.get hb hbd
  have gk := eB.get hk hkd
  have hl' := hl.ext eB fun j hj q => hld (by cases q; exact hj)
  refine wF_func (first := []) (captured := [.pointer (some ⟨k, 0, none⟩)]) t31 ⟨rfl, by decide⟩ ?_
  dsimp only [c31]
  simp
  refine wC_opsD_chk ?_
  simp [gk]
  refine num_ok B b opn lv l x gb hl' hx' hn _ fun B1 e1 => ?_
  have gk1 := e1.get gk id
  simp [gk1]
  refine num_ok B1 b opn lv l y (e1.get gb id) (hl'.ext e1 fun _ _ q => q) hy' hn _ fun B2 e2 => ?_
  have r1 := rankO_in (l[x])
  have r2 := rankO_in (l[y])
  rw [rkO_at hx', rkO_at hy'] at hq ⊢
  have w : IntKind.i64.wrap (rankO l[x] - rankO l[y]) = rankO l[x] - rankO l[y] := IntWalk.i64_in _ (by omega)
  simp [w]
  refine wE_intro ?_ ?_
  · simp only [List.all_cons, List.all_nil, chkOk, List.nil_append, List.cons_append, List.getElem?_cons_succ, List.getElem?_cons_zero]
    simp [Bx, gk, gk1, numV, vbeq, vbeq.vbeqs]
  · simp
    exact hq B2 _ (e1.trans e2) (by omega)
theorem RowAt.of {A : AHeap} {d o c : Nat} {L : List Nat} (h : SliceAt A 1 (.slice (some ⟨d, o, none⟩) L.length c) L.length (L.map pc)) : RowAt A d o L := by
  rcases h with ⟨h, _⟩ | ⟨d', o', c', bs, opn, h1, h2, h3, h4, _⟩
  · cases h
  · cases h1
    exact ⟨bs, opn, h2, by omega, by rw [h4, Nat.mul_one]⟩
theorem clone_ok (A : AHeap) (d o c : Nat) (L : List Nat) (hr : ReadAt A 1 (.slice (some ⟨d, o, none⟩) L.length c) L.length (L.map pc)) (hn : L.length < 1000000) (Q : Value → AHeap → Prop)
    (hq : ∀ A' d' o' c', Ext NoB A A' → RowAt A' d' o' L → A.size ≤ d' → Q (.slice (some ⟨d', o', none⟩) L.length c') A') : wF T (.func (.func 29) #[] #[]) [.slice (some ⟨d, o, none⟩) L.length c] A Q := by
  refine wF_func (first := []) (captured := []) t29 ⟨rfl, by decide⟩ ?_
  dsimp only [c29]
  simp
  by_cases h0 : L = []
  · subst h0
    simp [appA, lenA, fitsA, isStr, firstA]
    exact hq _ _ _ _ Ext.alloc ⟨[], 0, by simp, by simp, rfl⟩ (Nat.le_refl _)
  obtain ⟨a', c', A', k1, k2, k3, k4⟩ := copyP A (.slice (some ⟨d, o, none⟩) L.length c) L (hr.ext (S := NoB) Ext.alloc fun _ _ q => q) hn
  simp [k1]
  have hp : 0 < L.length := List.length_pos_iff.2 h0
  rcases k2 with ⟨h, _⟩ | ⟨d', o', c'', bs, opn, h1, h2, h3, h4, h5⟩
  · have h := (Value.slice.inj h).2.1; omega
  · have h1' := Value.slice.inj h1
    obtain rfl := h1'.1; obtain rfl := h1'.2.2
    exact hq A' _ _ _ k3 ⟨bs, opn, h2, by omega, by rw [h4, Nat.mul_one]⟩ (k4 d' ⟨o', _, _, rfl⟩)
theorem sorted_ok (A : AHeap) (b opn d o c : Nat) (lv : Value) (l : List Op) (L : List Nat) (hb : A.get b = some (.cells [lv] false opn)) (hl : ReadAt A 38 lv l.length (opsC l)) (hn : l.length ≤ 30) (hL : L.Pairwise (· < ·)) (hLn : L.length ≤ 30) (hv : ∀ y ∈ L, y < l.length)
    (hr : ReadAt A 1 (.slice (some ⟨d, o, none⟩) L.length c) L.length (L.map pc)) (hlv : ∀ j, Own lv j → j < A.size) (Q : Value → AHeap → Prop)
    (hq : ∀ A' d' o' c' L', Ext NoB A A' → IsOrd (rkO l) L L' → RowAt A' d' o' L' → A.size ≤ d' → Q (.slice (some ⟨d', o', none⟩) L.length c') A') : wF T (.func (.func 22) #[] #[]) [.slice (some ⟨d, o, none⟩) L.length c, numV b] A Q := by
  refine wF_func (first := []) (captured := []) t22 ⟨rfl, by decide⟩ ?_
  dsimp only [c22]
  simp [numV]
  generalize hB : AHeap.alloc A _ = B
  have eB : Ext NoB A B := by subst hB; exact Ext.alloc
  have gB : B.get A.size = some (.cells [numV b] false 0) := by subst hB; simp [numV]
  have zB : B.size = A.size + 1 := by subst hB; rfl
  refine clone_ok B d o c L (hr.ext eB fun _ _ q => q) (by omega) _ fun C d' o' c' e1 r1 l1 => ?_
  have lb := AHeap.get_lt hb
  simp
  refine sorts_ok (rkO l) C d' o' c' L (cmpV A.size) r1 (cmp_ok C b A.size d' opn 0 lv l ((eB.trans e1).get hb id) (e1.get gB id) (hl.ext (eB.trans e1) fun _ _ q => q) (by omega) (by omega) (by omega) (fun q => by have := hlv _ q; omega)) hL hLn
    (fun y hy => ⟨by have := hv y hy; omega, by rw [rkO_at (hv y hy)]; exact (rankO_in _).1⟩) _ fun D L' e2 o2 r2 => ?_
  simp
  refine hq D d' o' c' L' ?_ o2 r2 (by omega)
  exact (eB.trans e1).trans2 e2 fun j hj q => by cases q; omega
end Go.Proofs.YtigknpfjhegkgaaGreat
