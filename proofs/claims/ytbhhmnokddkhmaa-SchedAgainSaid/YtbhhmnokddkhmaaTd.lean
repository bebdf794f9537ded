/- The closures of Again: stage 25. -/
import Derived.Test.YtbhhmnokddkhmaaTc
import Derived.KernelRfl
namespace Go.Proofs.Ytbhhmnokddkhmaa
open Go Go.AS
set_option maxRecDepth 100000
set_option linter.unusedSimpArgs false
set_option linter.unusedVariables false
attribute [local irreducible] Trie.set Trie.get Env.rd
attribute [local simp] Nat.add_assoc wD_cons'' wD_nil' wC_seq wC_ops wC_opsD_nil wC_cond wC_skip wC_ret wC_exit wC_block wO_cons' wO_nil wantedA wV_eq lop qop ev wL_some wL_none wPut envOf rd_set rd_leaf eqA thenC blockC wB_true wB_false endF unwindA resultsA resA tupleA rdCell rdCells wrCells cl fillP lay rep binA unA get_set' AHeap.get_alloc oneCell

def has (cs : List Int) (x : Int) : Bool := cs.any fun c => x == c

def S4 (v : Value) (x : Int) (cs : List Int) (A : AHeap) (m : Nat) (st : St) : Prop := ∃ i, m + i = cs.length ∧ has (cs.take i) x = false ∧ st.n = 19 ∧ st.dfs = [] ∧ st.A = A ∧ st.env.rd 0 = v ∧ st.env.rd 1 = .int .i64 x ∧ st.env.rd 7 = .int .i64 (cs.length : Nat) ∧ st.env.rd 8 = .int .i64 (i : Nat)

theorem indexi_ok (cs : List Int) (v : Value) (x : Int) (A : AHeap) (Q : Value → AHeap → Prop) (h : ReadAt A 1 v cs.length (ints cs)) (hn : cs.length ≤ 1000) (hq : ∀ r : Int, decide ((0 : Int) ≤ r) = has cs x → Q (.int .i64 r) A) : wF T (.func (.func 28) #[] #[]) [v, .int .i64 x] A Q := by
  obtain ⟨a1, c1, rfl⟩ := h.val
  refine wF_func (first := []) (captured := []) t28 ⟨rfl, by decide⟩ ?_
  dsimp only [c28]; simp
  refine wC_loop_inv (S4 (.slice a1 cs.length c1) x cs A) ?_ cs.length _ ⟨0, by omega, by simp [has], rfl, rfl, rfl, by simp, by simp, by simp, by simp⟩
  rintro m ⟨env, nn, dfs, A'⟩ ⟨i, k0, kt, k1, k2, k3, r0, r1, r7, r8⟩
  simp only at k1 k2 k3 r0 r1 r7 r8
  subst k1; subst k2; subst k3
  by_cases hi : i < cs.length
  · obtain ⟨d, o, c, bs, ro, opn, q1, q2, q3⟩ := intc h hi
    cases q1
    have ht : cs.take (i + 1) = cs.take i ++ [cs[i]] := by rw [List.take_add_one, List.getElem?_eq_getElem hi]; rfl
    have hm : cs[i] ∈ cs := List.getElem_mem hi
    generalize cs[i] = y at q3 ht hm
    have ws := wrap_succ i (by omega)
    cases hxy : (x == y)
    · simp [r0, r1, r7, r8, hi, idxA, q2, q3, hxy]
      refine ⟨m - 1, by omega, i + 1, by omega, ?_, rfl, rfl, rfl, by simp [r0], by simp [r1], by simp [r7], by simpa using ws⟩
      unfold has at kt ⊢
      rw [ht, List.any_append, kt]; simp [hxy]
    · simp [r0, r1, r7, r8, hi, idxA, q2, q3, hxy]
      refine hq _ ?_
      have : has cs x = true := List.any_eq_true.2 ⟨y, hm, hxy⟩
      rw [this]; simp
  · simp [r0, r1, r7, r8, hi]
    refine hq (-1) ?_
    rw [List.take_of_length_le (by omega)] at kt
    rw [kt]; rfl

theorem hasi_ok (cs : List Int) (v : Value) (x : Int) (A : AHeap) (Q : Value → AHeap → Prop) (h : ReadAt A 1 v cs.length (ints cs)) (hn : cs.length ≤ 1000) (hq : Q (.bool (has cs x)) A) : wF T (.func (.func 20) #[] #[]) [v, .int .i64 x] A Q := by
  refine wF_func (first := []) (captured := []) t20 ⟨rfl, by decide⟩ ?_
  dsimp only [c20]; simp
  refine indexi_ok cs v x A _ h hn fun r hr => ?_
  simp [hr]
  exact hq

theorem ag1_ok (x : La) (b : Nat) (cs : List Int) (cv : Value) (A : AHeap) (Q : Value → AHeap → Prop) (h : A.get b = some (.cells [cv] false 0)) (hc : ReadAt A 1 cv cs.length (ints cs)) (hn : cs.length ≤ 1000) (hq : ∀ A', Ext NoB A A' → Q (.bool (has cs x.path)) A') : wF T (.func (.func 19) ⟨[]⟩ ⟨[.pointer (some ⟨b, 0, none⟩)]⟩) [.agg ⟨x.cells⟩] A Q := by
  obtain ⟨a1, c1, rfl⟩ := hc.val
  have nb : b ≠ A.size := by have := AHeap.get_lt h; omega
  refine wF_func t19 ⟨rfl, by decide⟩ ?_
  dsimp only [c19]
  simp [La.cells, h, nb]
  have e : Ext NoB A (A.alloc (.cells [.int .i64 x.path, .bool x.up, .bool x.backup, .int .i64 x.flight] false 0)) := Ext.alloc
  refine hasi_ok cs _ x.path _ _ (hc.ext e fun _ _ q => q) hn ?_
  simp
  exact hq _ e

theorem ag2_ok (x : La) (b n9 : Nat) (cs : List Int) (cv : Value) (A : AHeap) (Q : Value → AHeap → Prop) (h9 : A.get n9 = some (.cells [.func (.func 19) ⟨[]⟩ ⟨[.pointer (some ⟨b, 0, none⟩)]⟩] false 0)) (h : A.get b = some (.cells [cv] false 0)) (hc : ReadAt A 1 cv cs.length (ints cs)) (hn : cs.length ≤ 1000) (hq : ∀ A', Ext NoB A A' → Q (.bool (x.up && has cs x.path)) A') : wF T (.func (.func 21) ⟨[]⟩ ⟨[.pointer (some ⟨n9, 0, none⟩)]⟩) [.agg ⟨x.cells⟩] A Q := by
  have nb : n9 ≠ A.size := by have := AHeap.get_lt h9; omega
  refine wF_func t21 ⟨rfl, by decide⟩ ?_
  dsimp only [c21]
  have e : Ext NoB A (A.alloc (.cells x.cells false 0)) := Ext.alloc
  obtain ⟨p, up, bk, fl⟩ := x
  cases up
  · simp [La.cells, h9, nb, nb.symm, undef]
    simpa [La.cells] using hq _ e
  · simp [La.cells, h9, nb, nb.symm]
    refine ag1_ok ⟨p, true, bk, fl⟩ b cs cv _ _ (e.get h fun q => q) (hc.ext e fun _ _ q => q) hn fun A2 e2 => ?_
    simp
    simpa using hq _ (e.trans e2)

theorem ag3_ok (x : La) (b n7 n9 : Nat) (limit : Int) (cs : List Int) (cv : Value) (A : AHeap) (Q : Value → AHeap → Prop) (h7 : A.get n7 = some (.cells [.int .i64 limit] false 0)) (h9 : A.get n9 = some (.cells [.func (.func 19) ⟨[]⟩ ⟨[.pointer (some ⟨b, 0, none⟩)]⟩] false 0)) (h : A.get b = some (.cells [cv] false 0)) (hc : ReadAt A 1 cv cs.length (ints cs)) (hn : cs.length ≤ 1000) (hq : ∀ A', Ext NoB A A' → Q (.bool (x.up && decide (x.flight < limit) && !has cs x.path)) A') : wF T (.func (.func 22) ⟨[]⟩ ⟨[.pointer (some ⟨n7, 0, none⟩), .pointer (some ⟨n9, 0, none⟩)]⟩) [.agg ⟨x.cells⟩] A Q := by
  have nb : n9 ≠ A.size := by have := AHeap.get_lt h9; omega
  have n7' : n7 ≠ A.size := by have := AHeap.get_lt h7; omega
  refine wF_func t22 ⟨rfl, by decide⟩ ?_
  dsimp only [c22]
  have e : Ext NoB A (A.alloc (.cells x.cells false 0)) := Ext.alloc
  obtain ⟨p, up, bk, fl⟩ := x
  cases up
  · simp [La.cells, h7, h9, nb, nb.symm, n7', n7'.symm, undef]
    simpa [La.cells] using hq _ e
  · by_cases hl : fl < limit
    · simp [La.cells, h7, h9, nb, nb.symm, n7', n7'.symm, hl]
      refine ag1_ok ⟨p, true, bk, fl⟩ b cs cv _ _ (e.get h fun q => q) (hc.ext e fun _ _ q => q) hn fun A2 e2 => ?_
      simp
      simpa [hl] using hq _ (e.trans e2)
    · simp [La.cells, h7, h9, nb, nb.symm, n7', n7'.symm, hl, undef]
      simpa [La.cells, hl] using hq _ e

/-- The yield within Again. -/
def GI (l t d : Nat) (e : Env) (B : Nat) (ys : List La) (A : AHeap) : Prop := A.get l = some (.loop .ready none 8 32 e [22] c8a c8b d) ∧ ∃ sv, A.get t = some (.cells [sv] false 0) ∧ SliceAt A 1 sv ys.length (ints (ys.map (·.path))) ∧ ∀ j, Own sv j → B ≤ j

theorem gyield_ok (l t d : Nat) (e : Env) (B : Nat) (ys : List La) (y : La) (A : AHeap) (Q : Value → AHeap → Prop) (hlt : l ≠ t) (lB : l < B) (tB : t < B) (hB : B ≤ A.size) (he : e.rd 8 = .pointer (some ⟨t, 0, none⟩)) (hk : ys.length ≤ 1000) (h : GI l t d e B ys A)
    (hq : ∀ A', Ext (fun j => j = t ∨ j = l ∨ B ≤ j) A A' → GI l t d e B (ys ++ [y]) A' → Q (.bool true) A') : wF T (.func (.yield l) #[] #[]) [.agg ⟨y.cells⟩] A Q := by
  obtain ⟨hl, sv, ht, hs, ho⟩ := h
  have b1 := AHeap.get_lt hl
  have b2 := AHeap.get_lt ht
  have n1 : l ≠ A.size := by omega
  have n2 : t ≠ A.size := by omega
  obtain ⟨al, cl', hv⟩ := hs.read.val
  subst hv
  have hol : ¬ Own (.slice al ys.length cl') l := fun q => by have := ho l q; omega
  have hot : ¬ Own (.slice al ys.length cl') t := fun q => by have := ho t q; omega
  refine wF_yield hl rfl (by decide) ?_
  dsimp only [c8a, c8b]
  simp [La.cells, midY, hl, b1, n1, n1.symm, he, ht, n2, n2.symm, hlt, hlt.symm]
  generalize hA3 : AHeap.alloc (AHeap.set (AHeap.set (AHeap.alloc A _) A.size _) l _) _ = A3
  have z3 : A3.size = A.size + 2 := by rw [← hA3]; rfl
  have e3 : Ext (fun j => j = l) A A3 := ⟨by omega, fun j hj hs => by rw [← hA3]; simp [show j ≠ A.size by omega, show j ≠ A.size + 1 by omega, show ¬ j = l from hs]⟩
  have g1 : A3.get l = some (.loop .busy none 8 32 e [22] c8a c8b d) := by rw [← hA3]; simp [show l ≠ A.size + 1 by omega, show l < A.size + 1 by omega, c8a, c8b]
  have g2 := e3.get ht hlt.symm
  have g5 : A3.get (A.size + 1) = some (.cells [.int .i64 y.path] false 0) := by rw [← hA3]; simp
  have d3 := hs.ext e3 (fun j hj q => hol (q ▸ hj))
  obtain ⟨v', A4, k1, k2, k3, k4⟩ := d3.append (x := .slice (some ⟨A.size + 1, 0, none⟩) 1 1) (m := 1) (bytes := 8) (new := [.int .i64 y.path]) (by decide) rfl (by simp [firstA, rdCells, g5, ENDCAP]) (by simp [oneCell]) rfl (by omega) (by decide) (by simp [isStr])
  have g6 := k3.get g2 hot
  have g7 := k3.get g1 hol
  have b4 := AHeap.get_lt g6
  have b5 := AHeap.get_lt g7
  obtain ⟨a', c', hv'⟩ := k2.read.val
  subst hv'
  simp [k1, g6, g7, b4, b5, he, hlt, hlt.symm, endY, jumpOf]
  have o0 : ∀ j, Own (.slice a' (ys.length + 1) c') j → B ≤ j := fun j hj => by
    rcases k4 j hj with q | q
    · exact ho j q
    · omega
  have f : Ext (fun j => j = t ∨ j = l) A4 ((A4.set t (.cells [.slice a' (ys.length + 1) c'] false 0)).set l (.loop .ready none 8 32 e [22] c8a c8b d)) := (Ext.set (.inl rfl)).trans (Ext.set (.inr rfl))
  refine hq _ (((e3.mono fun _ _ q => .inr (.inl q)).trans (k3.mono fun j _ q => .inr (.inr (ho j q)))).trans (f.mono fun _ _ q => q.imp id .inl)) ⟨by simp [b5], .slice a' (ys.length + 1) c', by simp [b4, hlt.symm], ?_, o0⟩
  have k2' : SliceAt A4 1 (.slice a' (ys.length + 1) c') (ys ++ [y]).length (ints ((ys ++ [y]).map (·.path))) := by simpa [ints] using k2
  exact k2'.ext f fun j hj q => by
    have := o0 j hj
    rcases q with q | q <;> omega
end Go.Proofs.Ytbhhmnokddkhmaa
