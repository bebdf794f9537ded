/- A row of places in memory, and places changed for each other. -/
import Derived.Test.YtigknpfjhegkgaaGreatKm
import Derived.Test.YtigknpfjhegkgaaGreatBc
import Derived.Test.YtigknpfjhegkgaaGreatZp
import Derived.Test.YtigknpfjhegkgaaGreatZq
import Derived.Test.YtigknpfjhegkgaaGreatZb
import Derived.KernelRfl
namespace Go.Proofs.YtigknpfjhegkgaaGreat
open Go Go.AS
set_option maxRecDepth 100000
set_option linter.unusedSimpArgs false
set_option linter.unusedVariables false
attribute [local irreducible] Trie.set Trie.get Env.rd
attribute [local simp ↓] wV_b2s
attribute [local simp] Nat.add_assoc wD_cons'' wD_nil' wC_seq wC_ops wC_opsD_nil wC_cond wC_skip wC_ret wC_exit wC_block wO_cons' wO_nil wantedA wV_eq lop qop ev wL_some wL_none wPut envOf rd_set rd_leaf eqA thenC blockC wB_true wB_false endF unwindA resultsA resA tupleA rdCell rdCells wrCells cl fillP lay rep bi_eql bi_neq bi_lss bi_leq bi_gtr bi_geq bi_add bi_sub bs_eql bs_neq bi_shr4 unA get_set' AHeap.get_alloc oneCell beqd bned idxA


def pc (p : Nat) : Value := .int .i64 (p : Nat)
structure RowB (A : AHeap) (d o : Nat) (l : List Nat) (bs : List Value) (opn : Nat) : Prop where
  get : A.get d = some (.cells bs false opn)
  le : o + l.length ≤ bs.length
  eq : (bs.drop o).take l.length = l.map pc
def RowAt (A : AHeap) (d o : Nat) (l : List Nat) : Prop := ∃ bs opn, RowB A d o l bs opn
theorem RowB.at {A : AHeap} {d o : Nat} {l : List Nat} {bs : List Value} {opn : Nat} (h : RowB A d o l bs opn) {i : Nat} (hi : i < l.length) : bs[o + i]? = some (.int .i64 (l.getD i 0 : Nat)) := by
  have := congrArg (fun x => x[i]?) h.eq
  simp only [List.getElem?_map, List.getElem?_take, if_pos hi, List.getElem?_drop] at this
  rw [this, List.getD_eq_getElem?_getD, List.getElem?_eq_getElem hi]; rfl
theorem RowB.set {A : AHeap} {d o : Nat} {l : List Nat} {bs : List Value} {opn : Nat} (h : RowB A d o l bs opn) (i v : Nat) : RowB (A.set d (.cells (bs.set (o + i) (.int .i64 (v : Nat))) false opn)) d o (l.set i v) (bs.set (o + i) (.int .i64 (v : Nat))) opn where
  get := by rw [get_set', if_pos rfl, if_pos (AHeap.get_lt h.get)]
  le := by simpa using h.le
  eq := by
    rw [List.length_set, List.drop_set, if_neg (by omega), Nat.add_sub_cancel_left, List.take_set, h.eq, List.map_set]
    rfl
theorem RowAt.ext {S : Nat → Prop} {A A' : AHeap} {d o : Nat} {l : List Nat} (h : RowAt A d o l) (e : Ext S A A') (hs : ¬ S d) : RowAt A' d o l := by
  obtain ⟨bs, opn, h1, h2, h3⟩ := h
  exact ⟨bs, opn, e.get h1 hs, h2, h3⟩
def Only (d : Nat) : Nat → Prop := fun j => j = d
def SwI (A0 : AHeap) (d o c n0 : Nat) (a b : Nat) (fin : List Nat) (N : Nat) (m : Nat) (st : St) : Prop := ∃ i l, m + i = N ∧ st.n = 38 ∧ st.dfs = [] ∧ (st.env.rd 0 = .slice (some ⟨d, o, none⟩) n0 c ∧ st.env.rd 1 = .int .i64 (a : Nat) ∧ st.env.rd 2 = .int .i64 (b : Nat) ∧ st.env.rd 3 = .int .i64 (N : Nat) ∧ st.env.rd 10 = .int .i64 (i : Nat)) ∧ RowAt st.A d o l ∧ l.length = n0 ∧ swp l (a + i) (b + i) m = fin ∧ Ext (Only d) A0 st.A
theorem swapRange_ok (A : AHeap) (d o c : Nat) (l : List Nat) (a b n : Nat) (cv : Value) (h : RowAt A d o l) (ha : a + n ≤ l.length) (hb : b + n ≤ l.length) (hl : l.length < 1000000) (Q : Value → AHeap → Prop) (hq : ∀ A', Ext (Only d) A A' → RowAt A' d o (swp l a b n) → Q (.tuple ⟨[]⟩) A') :
    wF T (.func (.func 153) #[] #[]) [.slice (some ⟨d, o, none⟩) l.length c, .int .i64 (a : Nat), .int .i64 (b : Nat), .int .i64 (n : Nat), cv] A Q := by
  refine wF_func (first := []) (captured := []) t153 ⟨rfl, by decide⟩ ?_
  dsimp only [c153]
  simp
  refine wC_loop_inv (SwI A d o c l.length a b (swp l a b n) n) ?_ n _ ⟨0, l, rfl, rfl, rfl, ⟨by simp, by simp, by simp, by simp, by simp⟩, h, rfl, rfl, Ext.refl⟩
  rintro m ⟨env, nn, dfs, B⟩ ⟨i, k, hmi, k1, k2, ⟨r0, r1, r2, r3, r10⟩, hr, hkl, hfin, eB⟩
  simp only at k1 k2 r0 r1 r2 r3 r10 hr eB
  subst k1; subst k2
  by_cases hi : i < n
  case neg =>
    have hii : ¬ (i : Int) < (n : Int) := by omega
    have hm0 : m = 0 := by omega
    subst hm0
    simp [r3, r10, hii, hi]
    refine hq B eB ?_
    have : swp k (a + i) (b + i) 0 = k := rfl
    rw [← hfin, this]
    exact hr
  obtain ⟨m, rfl⟩ : ∃ m', m = m' + 1 := ⟨m - 1, by omega⟩
  obtain ⟨bs, opn, hB⟩ := hr
  have g1 := hB.get
  have g2 := hB.le
  have hii : (i : Int) < (n : Int) := by omega
  have wa : IntKind.i64.wrap ((a : Int) + (i : Int)) = ((a + i : Nat) : Int) := IntWalk.i64_in _ (by omega)
  have wb : IntKind.i64.wrap ((b : Int) + (i : Int)) = ((b + i : Nat) : Int) := IntWalk.i64_in _ (by omega)
  have w1 : IntKind.i64.wrap ((i : Int) + 1) = ((i + 1 : Nat) : Int) := IntWalk.i64_in _ (by omega)
  obtain ⟨x, hx⟩ : ∃ x, x = a + i := ⟨_, rfl⟩
  obtain ⟨y, hy⟩ : ∃ y, y = b + i := ⟨_, rfl⟩
  rw [← hx] at wa
  rw [← hy] at wb
  have hxl : x < k.length := by omega
  have hyl : y < k.length := by omega
  have gx := hB.at hxl
  have gy := hB.at hyl
  obtain ⟨u, hu⟩ : ∃ u, u = k.getD x 0 := ⟨_, rfl⟩
  obtain ⟨v, hv⟩ : ∃ v, v = k.getD y 0 := ⟨_, rfl⟩
  rw [← hu] at gx
  rw [← hv] at gy
  simp [r0, r1, r2, r3, r10, hii, hi, wa, wb, ← hkl, hxl, hyl, g1, gx, gy, show o + (x + 1) ≤ bs.length by omega, show o + (y + 1) ≤ bs.length by omega, AHeap.get_lt g1]
  refine ⟨m, by omega, i + 1, swap1 k x y, by omega, rfl, rfl, ⟨by simp [r0, hkl], by simp [r1], by simp [r2], by simp [r3], by simpa using w1⟩, ?_, by rw [swap1_len], ?_, ?_⟩
  · have h2 := (hB.set x v).set y u
    rw [hu, hv] at h2
    rw [hu, hv]
    exact ⟨_, _, h2⟩
  · rw [← hfin, hx, hy]
    rfl
  · exact (eB.trans (Ext.set rfl)).trans (Ext.set rfl)
end Go.Proofs.YtigknpfjhegkgaaGreat
