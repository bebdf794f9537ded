/- Again: stage 25. -/
import Derived.Test.YtbhhmnokddkhmaaTd
import Derived.KernelRfl
namespace Go.Proofs.Ytbhhmnokddkhmaa
open Go Go.AS
set_option maxRecDepth 100000
set_option linter.unusedSimpArgs false
set_option linter.unusedVariables false
attribute [local irreducible] Trie.set Trie.get Env.rd
attribute [local simp] Nat.add_assoc wD_cons'' wD_nil' wC_seq wC_ops wC_opsD_nil wC_cond wC_skip wC_ret wC_exit wC_block wO_cons' wO_nil wantedA wV_eq lop qop ev wL_some wL_none wPut envOf rd_set rd_leaf eqA thenC blockC wB_true wB_false endF unwindA resultsA resA tupleA rdCell rdCells wrCells cl fillP lay rep binA unA get_set' AHeap.get_alloc oneCell

theorem those1b_ok (l x1 x2 : Nat) (ls : List La) (lv fv : Value) (p : La → Bool) (S : Nat → Prop) (I : List La → AHeap → Prop) (A : AHeap) (Q : Value → AHeap → Prop)
    (h1 : A.get x1 = some (.cells [lv] false 0)) (h2 : A.get x2 = some (.cells [fv] false 0)) (n1 : ¬ S x1) (n2 : ¬ S x2) (h : ReadAt A 4 lv ls.length (lcells ls)) (ho : ∀ j, Own lv j → ¬ S j) (hn : ls.length ≤ 1000) (hf : Asks fv p A S)
    (hI : ∀ ys A' A'', I ys A' → Ext NoB A' A'' → I ys A'')
    (hy : ∀ ys y A' Q', ys.length < ls.length → Ext S A A' → I ys A' → (∀ A'', Ext S A A'' → I (ys ++ [y]) A'' → A'.size ≤ A''.size → Q' (.bool true) A'') → wF T (.func (.yield l) #[] #[]) [.agg ⟨y.cells⟩] A' Q')
    (h0 : I [] A) (hq : ∀ A' v, Ext S A A' → I (ls.filter p) A' → Q v A') :
    wF T (.func (.func 26) ⟨[]⟩ ⟨[.pointer (some ⟨x1, 0, none⟩), .pointer (some ⟨x2, 0, none⟩)]⟩) [.func (.yield l) #[] #[]] A Q := by
  obtain ⟨a1, c1, rfl⟩ := h.val
  refine wF_func t26 ⟨rfl, by decide⟩ ?_
  dsimp only [c26]; simp [h1]
  refine wC_loop_inv (ThI ls p (.slice a1 ls.length c1) l x2 S I A) ?_ ls.length _ ⟨0, by omega, rfl, rfl, by simp, by simp, by simp, by simp, by simp, Ext.refl, by simpa using h0⟩
  rintro m ⟨env, nn, dfs, A1⟩ ⟨i, k0, k1, k2, r0, r2, r6, r7, r8, e1, i1⟩
  simp only at k1 k2 r0 r2 r6 r7 r8 e1 i1
  subst k1; subst k2
  by_cases hi : i < ls.length
  · obtain ⟨d1, p1, cc1, bs1, ro1, opn1, q1, q2, q3, q4⟩ := (h.ext e1 ho).elem2 hi
    rw [lcells_at ls i hi] at q4
    cases q1
    rw [Nat.add_assoc] at q3
    have ht : ls.take (i + 1) = ls.take i ++ [ls[i]] := by rw [List.take_add_one, List.getElem?_eq_getElem hi]; rfl
    generalize ls[i] = x at q4 ht
    have ws := wrap_succ i (by omega)
    have g2 := e1.get h2 n2
    have nx : x2 ≠ A1.size := by have := AHeap.get_lt g2; omega
    simp [r0, r2, r6, r7, r8, hi, idxA, q2, q3, q4, g2, nx]
    generalize hH : AHeap.set (AHeap.alloc A1 _) A1.size _ = H
    have zH : H.size = A1.size + 1 := by rw [← hH]; rfl
    have eH : Ext NoB A1 H := ⟨by omega, fun j hj _ => by rw [← hH]; simp [show j ≠ A1.size by omega]⟩
    have gx : H.get A1.size = some (.cells x.cells false 0) := by rw [← hH]; simp [La.cells]
    refine hf H x _ (e1.trans2 eH fun _ _ q => q.elim) fun A2 e2 => ?_
    have gx2 := e2.get gx fun q => q
    have iA2 := hI _ _ _ (hI _ _ _ i1 eH) e2
    have eA2 : Ext S A A2 := (e1.trans2 eH fun _ _ q => q.elim).trans2 e2 fun _ _ q => q.elim
    cases hp : p x
    · simp [r0, r2, r6, r7, r8]
      exact ⟨m - 1, by omega, i + 1, by omega, rfl, rfl, by simp [r0], by simp [r2], by simp [r6], by simp [r7], by simpa using ws, eA2, by rw [ht]; simpa [hp] using iA2⟩
    · simp [r0, r2, r6, r7, r8, gx2, La.cells]
      refine hy _ x A2 _ (Nat.lt_of_le_of_lt (List.length_filter_le _ _) (by rw [List.length_take]; omega)) eA2 iA2 fun A3 e3 i3 _ => ?_
      simp [r0, r2, r6, r7, r8]
      exact ⟨m - 1, by omega, i + 1, by omega, rfl, rfl, by simp [r0], by simp [r2], by simp [r6], by simp [r7], by simpa using ws, e3, by rw [ht]; simpa [hp] using i3⟩
  · simp [r0, r2, r6, r7, r8, hi]
    rw [List.take_of_length_le (by omega)] at i1
    exact hq A1 _ e1 i1

def agR (cs : List Int) (limit : Int) (x : La) : Bool := x.up && decide (x.flight < limit) && !has cs x.path
def alive (cs : List Int) (ls : List La) : Bool := ls.any fun x => x.up && has cs x.path

theorem tail_ok (st : St) (ls : List La) (cs : List Int) (limit : Int) (a1 : Option Addr) (c1 : Nat) (cv : Value) (b t n7 n9 : Nat) (A0 : AHeap) (Q : Value → AHeap → Prop) (k0 : st.n = 32) (k1 : st.dfs = []) (r0 : st.env.rd 0 = .slice a1 ls.length c1) (r7 : st.env.rd 7 = .pointer (some ⟨n7, 0, none⟩)) (r8 : st.env.rd 8 = .pointer (some ⟨t, 0, none⟩)) (r9 : st.env.rd 9 = .pointer (some ⟨n9, 0, none⟩))
    (h7 : st.A.get n7 = some (.cells [.int .i64 limit] false 0)) (h9 : st.A.get n9 = some (.cells [.func (.func 19) ⟨[]⟩ ⟨[.pointer (some ⟨b, 0, none⟩)]⟩] false 0)) (hb : st.A.get b = some (.cells [cv] false 0)) (ht : st.A.get t = some (.cells [.slice none 0 0] false 0)) (nt7 : n7 ≠ t) (nt9 : n9 ≠ t) (ntb : b ≠ t)
    (h : ReadAt st.A 4 (.slice a1 ls.length c1) ls.length (lcells ls)) (hc : ReadAt st.A 1 cv cs.length (ints cs)) (hlo : ∀ j, Own (.slice a1 ls.length c1) j → j < st.A.size ∧ j ≠ t) (hco : ∀ j, Own cv j → j < st.A.size ∧ j ≠ t) (hn : ls.length ≤ 20) (hcn : cs.length ≤ 1000) (he : Ext NoB A0 st.A) (ht0 : A0.size ≤ t)
    (hinc : Inc ((ls.filter (agR cs limit)).map (·.path)))
    (hq : ∀ A' sv, Ext NoB A0 A' → SliceAt A' 1 sv ((ls.filter (agR cs limit)).map (·.path)).length (ints ((ls.filter (agR cs limit)).map (·.path))) → Q sv A') : wC T 8 none c8t st (endF [.inr (8, 1, false)] Q) := by
  obtain ⟨env, nn, dfs, A⟩ := st
  simp only at k0 k1 r0 r7 r8 r9 h7 h9 hb ht h hc hlo hco he
  subst k0; subst k1
  have z7 := AHeap.get_lt h7
  have z9 := AHeap.get_lt h9
  have zb := AHeap.get_lt hb
  have zt := AHeap.get_lt ht
  unfold c8t
  simp [r0, r7, r9]
  refine those_ok _ _ _ _ _ A _ ?_
  simp
  refine wC_range ?_
  simp
  refine those1b_ok (A.size + 3) A.size (A.size + 1) ls (.slice a1 ls.length c1) (.func (.func 22) ⟨[]⟩ ⟨[.pointer (some ⟨n7, 0, none⟩), .pointer (some ⟨n9, 0, none⟩)]⟩) (agR cs limit) (fun j => j = t ∨ j = A.size + 3) (GI (A.size + 3) t (A.size + 2) _ (A.size + 4)) _ _
    (by simp) (by simp) (by omega) (by omega) (h.ext (S := NoB) (Ext.alloc.trans (Ext.alloc.trans (Ext.alloc.trans Ext.alloc))) fun _ _ q => q) (fun j hj q => by have := hlo j hj; omega) (by omega)
    ?hf ?hI ?hy ⟨get_alloc_top (by simp), .slice none 0 0, ?ht, .nil, fun j ⟨_, _, _, q⟩ => by cases q⟩ ?hq
  case ht =>
    exact Ext.get (S := NoB) (Ext.alloc.trans (Ext.alloc.trans (Ext.alloc.trans Ext.alloc))) ht fun q => q
  case hf =>
    intro A' x Q' e1 k
    have e2 : Ext (fun j => j = t ∨ A.size ≤ j) A A' := (Ext.trans (Ext.alloc.trans (Ext.alloc.trans (Ext.alloc.trans Ext.alloc))) (e1.mono fun j _ q => by rcases q with q | q; exact .inl q; exact .inr (by omega)))
    exact ag3_ok x b n7 n9 limit cs cv A' Q' (e2.get h7 (by omega)) (e2.get h9 (by omega)) (e2.get hb (by omega)) (hc.ext e2 fun j hj q => by have := hco j hj; omega) hcn k
  case hI =>
    intro ys A' A'' hi e
    obtain ⟨i1, sv, i2, i3, i4⟩ := hi
    exact ⟨e.get i1 fun q => q, sv, e.get i2 fun q => q, i3.ext e fun _ _ q => q, i4⟩
  case hy =>
    intro ys y A' Q' hys e1 hi k
    have hsz := e1.size
    simp at hsz
    refine gyield_ok (A.size + 3) t (A.size + 2) _ (A.size + 4) ys y A' Q' (by omega) (by omega) (by omega) (by omega) (by simp [r8]) (by omega) hi fun A'' e2 hi2 => ?_
    refine k A'' (e1.trans2 e2 fun j hj q => ?_) hi2 e2.size
    simp at hj
    rcases q with q | q | q
    · exact .inl q
    · exact .inr q
    · omega
  case hq =>
    intro A' v e1 hi
    obtain ⟨i1, sv, i2, i3, i4⟩ := hi
    have gd := e1.get (b := A.size + 2) (x := .dfr false) (by simp) (by omega)
    have e0 : Ext (fun j => j = t ∨ A.size ≤ j) A A' := (Ext.trans (Ext.alloc.trans (Ext.alloc.trans (Ext.alloc.trans Ext.alloc))) (e1.mono fun j _ q => by rcases q with q | q; exact .inl q; exact .inr (by omega)))
    have zz := AHeap.get_lt i1
    obtain ⟨av, c, hv⟩ := i3.read.val
    subst hv
    simp [endR, i1]
    refine ⟨.normal, rfl, ?_⟩
    generalize hA6 : A'.set (A.size + 3) _ = A6
    have e6 : Ext (fun j => j = A.size + 3) A' A6 := by rw [← hA6]; exact Ext.set rfl
    have z6 := e6.size
    have gd6 := e6.get gd (by omega)
    have gt6 := e6.get i2 (by omega)
    have i3' := i3.ext e6 fun j hj q => by have := i4 j hj; omega
    have hl2 : ((ls.filter (agR cs limit)).map (·.path)).length = (ls.filter (agR cs limit)).length := by simp
    have hle : (ls.filter (agR cs limit)).length ≤ ls.length := List.length_filter_le _ _
    rw [← hl2] at i3' gt6 i4
    generalize (ls.filter (agR cs limit)).map (·.path) = sl at i3' gt6 i4 hinc hq hl2
    simp [r8, gt6]
    refine sort_ok sl _ A6 _ i3'.read hinc (by omega) fun A7 w e7 => ?_
    have gd7 := e7.get gd6 fun q => q
    have gt7 := e7.get gt6 fun q => q
    have i7 := i3'.ext e7 fun _ _ q => q
    simp [r8, gt7]
    refine compact_ok sl _ A7 _ i7.read hinc (by omega) ?_
    have z7' := e7.size
    have w1 : t < A7.size := by omega
    have w2 : A.size + 2 < A7.size := by omega
    simp [r8, gt7, gd7, w1, w2, show A.size + 2 ≠ t by omega, show t ≠ A.size + 2 by omega]
    have f : Ext (fun j => j = t ∨ j = A.size + 2) A7 ((A7.set t (.cells [.slice av sl.length c] false 0)).set (A.size + 2) (.dfr true)) := (Ext.set (.inl rfl)).trans (Ext.set (.inr rfl))
    refine hq _ _ ?_ (i7.ext f fun j hj q => by have := i4 j hj; omega)
    exact ((((he.trans2 e0 fun j hj q => by have := he.size; omega).trans2 e6 fun j hj q => by have := he.size; omega).trans2 e7 fun _ _ q => q).trans2 f fun j hj q => by have := he.size; omega)
end Go.Proofs.Ytbhhmnokddkhmaa
