/- Texts of this claim, one behind the other. -/
import Derived.Test.YtigknpfjhegkgaaGreatNb
import Derived.KernelRfl
section
/- A merge's great arm: what follows the search. -/
namespace Go.Proofs.YtigknpfjhegkgaaGreat
open Go Go.AS
set_option maxRecDepth 100000
set_option linter.unusedSimpArgs false
set_option linter.unusedVariables false
attribute [local irreducible] Trie.set Trie.get Env.rd
attribute [local simp ↓] wV_b2s
attribute [local simp] Nat.add_assoc wD_cons'' wD_nil' wC_seq wC_ops wC_opsD_nil wC_cond wC_skip wC_ret wC_exit wC_block wO_cons' wO_nil wantedA wV_eq lop qop ev wL_some wL_none wPut envOf rd_set rd_leaf eqA thenC blockC wB_true wB_false endF unwindA resultsA resA tupleA rdCell rdCells wrCells cl fillP lay rep bi_eql bi_neq bi_lss bi_leq bi_gtr bi_geq bi_add bi_sub bs_eql bs_neq bi_shr4 unA get_set' AHeap.get_alloc oneCell beqd bned idxA


def SymOk (r : Nat → Int) (d o c : Nat) (cv : Value) (N : Nat) : Prop := ∀ (A : AHeap) (l : List Nat) (a m b : Nat) (x L B z : List Nat), Halves r l a m b x L B z → 0 < L.length → 0 < B.length → b - a ≤ N → RowAt A d o l → l.length < 1000000 → Cmp r cv d A → (∀ y ∈ l, Vd r y) → ∀ Q : Value → AHeap → Prop, (∀ A' t, Ext (Only d) A A' → IsOrd r (L ++ B) t → RowAt A' d o (x ++ (t ++ z)) → Q (.tuple ⟨[]⟩) A') →
  wF T (.func (.func 127) #[] #[]) [.slice (some ⟨d, o, none⟩) l.length c, .int .i64 (a : Nat), .int .i64 (m : Nat), .int .i64 (b : Nat), cv] A Q
theorem triv_ord {r : Nat → Int} {L B : List Nat} (hL : Ord r L) (hB : Ord r B) (h : L = [] ∨ B = []) : IsOrd r (L ++ B) (L ++ B) := by
  refine ⟨List.Perm.refl _, ?_⟩
  rcases h with rfl | rfl
  · simpa using hB
  · simpa using hL
theorem last_ok (r : Nat → Int) (d o c N : Nat) (cv : Value) (ih : SymOk r d o c cv N) (A : AHeap) (l : List Nat) (mid e b : Nat) (x L B z : List Nat) (H : Halves r l mid e b x L B z) (hN : b - mid ≤ N) (h : RowAt A d o l) (hl : l.length < 1000000) (hc : Cmp r cv d A) (hv : ∀ y ∈ l, Vd r y)
    (env : Env) (r0 : env.rd 0 = .slice (some ⟨d, o, none⟩) l.length c) (r3 : env.rd 3 = .int .i64 (b : Nat)) (r4 : env.rd 4 = cv) (r18 : env.rd 18 = .int .i64 (mid : Nat)) (r24 : env.rd 24 = .int .i64 (e : Nat)) (K : AExit → St → Prop) (hK : ∀ env' A' t, Ext (Only d) A A' → IsOrd r (L ++ B) t → RowAt A' d o (x ++ (t ++ z)) → K .normal { env := env', n := 220, dfs := [], A := A' }) :
    wC T 127 none c127l { env := env, n := 220, dfs := [], A := A } K := by
  dsimp only [c127l]
  have hlm := H.lm
  have hlb := H.lb
  have hrow : RowAt A d o (x ++ ((L ++ B) ++ z)) := by have := h; rw [H.eq] at this; simpa using this
  by_cases h1 : mid < e
  case neg =>
    have h1i : ¬ (mid : Int) < (e : Int) := by omega
    simp [r18, r24, h1, h1i]
    exact hK _ _ _ Ext.refl (triv_ord H.oA H.oB (.inl (List.length_eq_zero_iff.1 (by omega)))) hrow
  have h1i : (mid : Int) < (e : Int) := by omega
  by_cases h2 : e < b
  case neg =>
    have h2i : ¬ (e : Int) < (b : Int) := by omega
    simp [r3, r18, r24, h1, h1i, h2, h2i]
    exact hK _ _ _ Ext.refl (triv_ord H.oA H.oB (.inr (List.length_eq_zero_iff.1 (by omega)))) hrow
  have h2i : (e : Int) < (b : Int) := by omega
  simp [r0, r3, r4, r18, r24, h1, h1i, h2, h2i]
  refine ih A l mid e b x L B z H (by omega) (by omega) hN h hl hc hv _ fun A' t e1 o1 k1 => ?_
  simp
  exact hK _ _ _ e1 o1 k1
theorem merge_ok (r : Nat → Int) (d o c N : Nat) (cv : Value) (ih : SymOk r d o c cv N) (A : AHeap) (l : List Nat) (a s mid e b : Nat) (x A1 B1 A2 B2 z : List Nat) (he : l = x ++ (A1 ++ (B1 ++ (A2 ++ (B2 ++ z))))) (la : x.length = a) (ls : a + A1.length = s) (lmid : s + B1.length = mid) (le : mid + A2.length = e) (lb : e + B2.length = b)
    (oA : Ord r (A1 ++ A2)) (oB : Ord r (B1 ++ B2)) (up : ∀ u ∈ A1 ++ A2, ∀ v ∈ B1 ++ B2, u < v) (h1 : ∀ u ∈ A1, ∀ v ∈ B2, Be r u v) (h2 : ∀ u ∈ B1, ∀ v ∈ A2, Be r u v) (hN1 : mid - a ≤ N) (hN2 : b - mid ≤ N) (h : RowAt A d o l) (hl : l.length < 1000000) (hc : Cmp r cv d A) (hv : ∀ y ∈ l, Vd r y)
    (env : Env) (r0 : env.rd 0 = .slice (some ⟨d, o, none⟩) l.length c) (r1 : env.rd 1 = .int .i64 (a : Nat)) (r3 : env.rd 3 = .int .i64 (b : Nat)) (r4 : env.rd 4 = cv) (r18 : env.rd 18 = .int .i64 (mid : Nat)) (r20 : env.rd 20 = .int .i64 (s : Nat)) (r24 : env.rd 24 = .int .i64 (e : Nat)) (K : AExit → St → Prop) (hK : ∀ env' A' t, Ext (Only d) A A' → IsOrd r ((A1 ++ A2) ++ (B1 ++ B2)) t → RowAt A' d o (x ++ (t ++ z)) → K .normal { env := env', n := 220, dfs := [], A := A' }) :
    wC T 127 none c127k { env := env, n := 220, dfs := [], A := A } K := by
  dsimp only [c127k]
  have after : ∀ (A' : AHeap) (t1 : List Nat) (env' : Env), Ext (Only d) A A' → IsOrd r (A1 ++ B1) t1 → RowAt A' d o (x ++ (t1 ++ (A2 ++ (B2 ++ z)))) → env'.rd 0 = env.rd 0 → env'.rd 3 = env.rd 3 → env'.rd 4 = env.rd 4 → env'.rd 18 = env.rd 18 → env'.rd 24 = env.rd 24 → wC T 127 none c127l { env := env', n := 220, dfs := [], A := A' } K := by
    intro A' t1 env' e1 o1 k1 z0 z3 z4 z18 z24
    have t1l : t1.length = A1.length + B1.length := by rw [o1.1.length_eq, List.length_append]
    have hll : (x ++ (t1 ++ (A2 ++ (B2 ++ z)))).length = l.length := by rw [he]; simp only [List.length_append, t1l]; omega
    have H : Halves r (x ++ (t1 ++ (A2 ++ (B2 ++ z)))) mid e b (x ++ t1) A2 B2 z := ⟨by simp, by simp only [List.length_append, t1l]; omega, le, lb, oA.right, oB.right, fun u hu v hv' => up u (List.mem_append_right _ hu) v (List.mem_append_right _ hv')⟩
    refine last_ok r d o c N cv ih A' _ mid e b (x ++ t1) A2 B2 z H hN2 k1 (by rw [hll]; exact hl) (hc.ext e1) (fun y hy => hv y ?_) env' (by rw [z0, r0, hll]) (by rw [z3, r3]) (by rw [z4, r4]) (by rw [z18, r18]) (by rw [z24, r24]) K fun env2 A2' t2 e2 o2 k2 => ?_
    · rw [he]
      simp only [List.mem_append] at hy ⊢
      rcases hy with q | q | q | q | q
      · exact .inl q
      · rcases List.mem_append.1 (o1.1.subset q) with p | p
        · exact .inr (.inl p)
        · exact .inr (.inr (.inl p))
      · exact .inr (.inr (.inr (.inl q)))
      · exact .inr (.inr (.inr (.inr (.inl q))))
      · exact .inr (.inr (.inr (.inr (.inr q))))
    · exact hK env2 A2' (t1 ++ t2) (e1.trans e2) (sym_merge oA oB h1 h2 o1 o2) (by simpa using k2)
  have hrow : RowAt A d o (x ++ ((A1 ++ B1) ++ (A2 ++ (B2 ++ z)))) := by have := h; rw [he] at this; simpa using this
  by_cases c1 : a < s
  case neg =>
    have c1i : ¬ (a : Int) < (s : Int) := by omega
    simp [r1, r20, c1, c1i]
    exact after A _ _ Ext.refl (triv_ord oA.left oB.left (.inl (List.length_eq_zero_iff.1 (by omega)))) hrow (by simp) (by simp) (by simp) (by simp) (by simp)
  have c1i : (a : Int) < (s : Int) := by omega
  by_cases c2 : s < mid
  case neg =>
    have c2i : ¬ (s : Int) < (mid : Int) := by omega
    simp [r1, r18, r20, c1, c1i, c2, c2i]
    exact after A _ _ Ext.refl (triv_ord oA.left oB.left (.inr (List.length_eq_zero_iff.1 (by omega)))) hrow (by simp) (by simp) (by simp) (by simp) (by simp)
  have c2i : (s : Int) < (mid : Int) := by omega
  have H : Halves r l a s mid x A1 B1 (A2 ++ (B2 ++ z)) := ⟨he, la, ls, lmid, oA.left, oB.left, fun u hu v hv' => up u (List.mem_append_left _ hu) v (List.mem_append_left _ hv')⟩
  simp [r0, r1, r4, r18, r20, c1, c1i, c2, c2i]
  refine ih A l a s mid x A1 B1 (A2 ++ (B2 ++ z)) H (by omega) (by omega) hN1 h hl hc hv _ fun A' t e1 o1 k1 => ?_
  simp
  exact after A' t _ e1 o1 k1 (by simp) (by simp) (by simp) (by simp) (by simp)
end Go.Proofs.YtigknpfjhegkgaaGreat
end

section
/- A merge, whole. -/
namespace Go.Proofs.YtigknpfjhegkgaaGreat
open Go Go.AS
set_option maxRecDepth 100000
set_option linter.unusedSimpArgs false
set_option linter.unusedVariables false
attribute [local irreducible] Trie.set Trie.get Env.rd
attribute [local simp ↓] wV_b2s
attribute [local simp] Nat.add_assoc wD_cons'' wD_nil' wC_seq wC_ops wC_opsD_nil wC_cond wC_skip wC_ret wC_exit wC_block wO_cons' wO_nil wantedA wV_eq lop qop ev wL_some wL_none wPut envOf rd_set rd_leaf eqA thenC blockC wB_true wB_false endF unwindA resultsA resA tupleA rdCell rdCells wrCells cl fillP lay rep bi_eql bi_neq bi_lss bi_leq bi_gtr bi_geq bi_add bi_sub bs_eql bs_neq bi_shr4 unA get_set' AHeap.get_alloc oneCell beqd bned idxA


theorem turned_ok (r : Nat → Int) (d o c N : Nat) (cv : Value) (ih : SymOk r d o c cv N) (A : AHeap) (l : List Nat) (a m b s mid e n : Nat) (x L B z : List Nat) (H : Halves r l a m b x L B z) (hs1 : a ≤ s) (hs2 : s ≤ m) (he1 : m ≤ e) (he2 : e ≤ b) (hn : n = mid + m) (hne : n = s + e)
    (c1 : s = a ∨ e = b ∨ ∃ u v, l[s - 1]? = some u ∧ l[e]? = some v ∧ a < s ∧ e < b ∧ Be r u v) (c2 : s = m ∨ e = m ∨ ∃ u v, l[e - 1]? = some u ∧ l[s]? = some v ∧ m < e ∧ s < m ∧ Be r u v) (hN1 : mid - a ≤ N) (hN2 : b - mid ≤ N) (h : RowAt A d o l) (hl : l.length < 1000000) (hc : Cmp r cv d A) (hv : ∀ y ∈ l, Vd r y)
    (env : Env) (r0 : env.rd 0 = .slice (some ⟨d, o, none⟩) l.length c) (r1 : env.rd 1 = .int .i64 (a : Nat)) (r2 : env.rd 2 = .int .i64 (m : Nat)) (r3 : env.rd 3 = .int .i64 (b : Nat)) (r4 : env.rd 4 = cv) (r18 : env.rd 18 = .int .i64 (mid : Nat)) (r19 : env.rd 19 = .int .i64 (n : Nat)) (r20 : env.rd 20 = .int .i64 (s : Nat)) (K : AExit → St → Prop) (hK : ∀ env' A' t, Ext (Only d) A A' → IsOrd r (L ++ B) t → RowAt A' d o (x ++ (t ++ z)) → K .normal { env := env', n := 220, dfs := [], A := A' }) :
    wC T 127 none c127e { env := env, n := 220, dfs := [], A := A } K := by
  dsimp only [c127e]
  obtain ⟨A1, A2, B1, B2, rfl, rfl, q1, q2, x1, x2⟩ := H.cut hs1 hs2 he1 he2 c1 c2
  have hlm := H.lm
  have hlb := H.lb
  have hla := H.la
  simp only [List.length_append] at hlm hlb
  have hlen : l.length = x.length + (A1.length + A2.length) + (B1.length + B2.length) + z.length := by rw [H.eq]; simp only [List.length_append]; omega
  have w1 : IntKind.i64.wrap ((n : Int) - (s : Int)) = (e : Nat) := by rw [show (n : Int) - (s : Int) = (e : Nat) by omega]; exact IntWalk.i64_in _ (by omega)
  have hmid : s + B1.length = mid := by omega
  have after : ∀ (A' : AHeap) (env' : Env), Ext (Only d) A A' → RowAt A' d o (x ++ (A1 ++ (B1 ++ (A2 ++ (B2 ++ z))))) → env'.rd 0 = env.rd 0 → env'.rd 1 = env.rd 1 → env'.rd 3 = env.rd 3 → env'.rd 4 = env.rd 4 → env'.rd 18 = env.rd 18 → env'.rd 20 = env.rd 20 → env'.rd 24 = .int .i64 (e : Nat) → wC T 127 none c127k { env := env', n := 220, dfs := [], A := A' } K := by
    intro A' env' e1 k1 z0 z1 z3 z4 z18 z20 z24
    have hll : (x ++ (A1 ++ (B1 ++ (A2 ++ (B2 ++ z))))).length = l.length := by rw [hlen]; simp only [List.length_append]; omega
    refine merge_ok r d o c N cv ih A' _ a s mid e b x A1 B1 A2 B2 z rfl hla q1 hmid (by omega) (by omega) H.oA H.oB H.up x1 x2 hN1 hN2 k1 (by rw [hll]; exact hl) (hc.ext e1) (fun y hy => hv y ?_) env' (by rw [z0, r0, hll]) (by rw [z1, r1]) (by rw [z3, r3]) (by rw [z4, r4]) (by rw [z18, r18]) (by rw [z20, r20]) z24 K fun env2 A2' t e2 o2 k2 => hK env2 A2' t (e1.trans e2) o2 k2
    rw [H.eq]
    simp only [List.mem_append] at hy ⊢
    rcases hy with q | q | q | q | q | q <;> simp [q]
  by_cases g1 : s < m
  case neg =>
    have g1i : ¬ (s : Int) < (m : Int) := by omega
    have hA2 : A2 = [] := List.length_eq_zero_iff.1 (by omega)
    subst hA2
    simp [r2, r19, r20, w1, g1, g1i]
    exact after A _ Ext.refl (by have := h; rw [H.eq] at this; simpa using this) (by simp) (by simp) (by simp) (by simp) (by simp) (by simp) (by simp)
  have g1i : (s : Int) < (m : Int) := by omega
  by_cases g2 : m < e
  case neg =>
    have g2i : ¬ (m : Int) < (e : Int) := by omega
    have hB1 : B1 = [] := List.length_eq_zero_iff.1 (by omega)
    subst hB1
    simp [r2, r19, r20, w1, g1, g1i, g2, g2i]
    exact after A _ Ext.refl (by have := h; rw [H.eq] at this; simpa using this) (by simp) (by simp) (by simp) (by simp) (by simp) (by simp) (by simp)
  have g2i : (m : Int) < (e : Int) := by omega
  have hT : Turn l (x ++ (A1 ++ (B1 ++ (A2 ++ (B2 ++ z))))) m (m - s) (e - m) := ⟨x ++ A1, A2, B1, B2 ++ z, by rw [H.eq]; simp, by simp, by omega, by omega, by simp only [List.length_append]; omega⟩
  simp [r0, r2, r4, r19, r20, w1, g1, g1i, g2, g2i]
  refine rotate_ok A d o c l _ s m e cv h g1 g2 hT hl _ fun A' e1 k1 => ?_
  simp
  exact after A' _ e1 k1 (by simp) (by simp) (by simp) (by simp) (by simp) (by simp) (by simp)
end Go.Proofs.YtigknpfjhegkgaaGreat
end

section
/- A merge, whole: the search, and the recursion. -/
namespace Go.Proofs.YtigknpfjhegkgaaGreat
open Go Go.AS
set_option maxRecDepth 100000
set_option linter.unusedSimpArgs false
set_option linter.unusedVariables false
attribute [local irreducible] Trie.set Trie.get Env.rd
attribute [local simp ↓] wV_b2s
attribute [local simp] Nat.add_assoc wD_cons'' wD_nil' wC_seq wC_ops wC_opsD_nil wC_cond wC_skip wC_ret wC_exit wC_block wO_cons' wO_nil wantedA wV_eq lop qop ev wL_some wL_none wPut envOf rd_set rd_leaf eqA thenC blockC wB_true wB_false endF unwindA resultsA resA tupleA rdCell rdCells wrCells cl fillP lay rep bi_eql bi_neq bi_lss bi_leq bi_gtr bi_geq bi_add bi_sub bs_eql bs_neq bi_shr4 unA get_set' AHeap.get_alloc oneCell beqd bned idxA


def SyI (A0 : AHeap) (d o c a m b mid n s0 t0 : Nat) (cv : Value) (r : Nat → Int) (l : List Nat) (q : Nat) (st : St) : Prop := ∃ s t, q = t - s ∧ s0 ≤ s ∧ s ≤ t ∧ t ≤ t0 ∧ (s = s0 ∨ ∃ u v, l[s - 1]? = some u ∧ l[n - s]? = some v ∧ Be r u v) ∧ (t = t0 ∨ ∃ u v, l[n - t - 1]? = some u ∧ l[t]? = some v ∧ Be r u v) ∧ st.n = 220 ∧ st.dfs = [] ∧
  (st.env.rd 0 = .slice (some ⟨d, o, none⟩) l.length c ∧ st.env.rd 1 = .int .i64 (a : Nat) ∧ st.env.rd 2 = .int .i64 (m : Nat) ∧ st.env.rd 3 = .int .i64 (b : Nat) ∧ st.env.rd 4 = cv ∧ st.env.rd 18 = .int .i64 (mid : Nat) ∧ st.env.rd 19 = .int .i64 (n : Nat) ∧ st.env.rd 20 = .int .i64 (s : Nat) ∧ st.env.rd 21 = .int .i64 (t : Nat) ∧ st.env.rd 22 = .int .i64 ((n - 1 : Nat) : Int)) ∧ RowAt st.A d o l ∧ Ext (Only d) A0 st.A
theorem search_ok (r : Nat → Int) (d o c N : Nat) (cv : Value) (ih : SymOk r d o c cv N) (A : AHeap) (l : List Nat) (a m b mid n s0 t0 : Nat) (x L B z : List Nat) (H : Halves r l a m b x L B z) (hn : n = mid + m) (ham : a < m) (hmb : m < b) (hmid : mid = (a + b) / 2) (hs : (m > mid ∧ s0 = n - b ∧ t0 = mid) ∨ (m ≤ mid ∧ s0 = a ∧ t0 = m)) (hN1 : mid - a ≤ N) (hN2 : b - mid ≤ N) (h : RowAt A d o l) (hl : l.length < 1000000) (hc : Cmp r cv d A) (hv : ∀ y ∈ l, Vd r y)
    (env : Env) (r0 : env.rd 0 = .slice (some ⟨d, o, none⟩) l.length c) (r1 : env.rd 1 = .int .i64 (a : Nat)) (r2 : env.rd 2 = .int .i64 (m : Nat)) (r3 : env.rd 3 = .int .i64 (b : Nat)) (r4 : env.rd 4 = cv) (r18 : env.rd 18 = .int .i64 (mid : Nat)) (r19 : env.rd 19 = .int .i64 (n : Nat)) (r20 : env.rd 20 = .int .i64 (s0 : Nat)) (r21 : env.rd 21 = .int .i64 (t0 : Nat)) (K : AExit → St → Prop) (hK : ∀ env' A' t, Ext (Only d) A A' → IsOrd r (L ++ B) t → RowAt A' d o (x ++ (t ++ z)) → K .normal { env := env', n := 220, dfs := [], A := A' }) :
    wC T 127 none c127h { env := env, n := 220, dfs := [], A := A } K := by
  dsimp only [c127h]
  have hlm := H.lm
  have hlb := H.lb
  have hla := H.la
  have hlen : l.length = x.length + L.length + B.length + z.length := by rw [H.eq]; simp only [List.length_append]; omega
  have wp : IntKind.i64.wrap ((n : Int) - 1) = ((n - 1 : Nat) : Int) := by rw [show (n : Int) - 1 = ((n - 1 : Nat) : Int) by omega]; exact IntWalk.i64_in _ (by omega)
  have hs0 : a ≤ s0 ∧ s0 ≤ t0 ∧ t0 ≤ m := by rcases hs with ⟨g1, g2, g3⟩ | ⟨g1, g2, g3⟩ <;> omega
  obtain ⟨p, hp⟩ : ∃ p, p = n - 1 := ⟨_, rfl⟩
  rw [← hp] at wp
  simp [r19, wp]
  refine wC_loop_inv (SyI A d o c a m b mid n s0 t0 cv r l) ?_ (t0 - s0) _ ⟨s0, t0, rfl, by omega, by omega, by omega, .inl rfl, .inl rfl, rfl, rfl, ⟨by simp [r0], by simp [r1], by simp [r2], by simp [r3], by simp [r4], by simp [r18], by simp [r19], by simp [r20], by simp [r21], by simp [hp]⟩, h, Ext.refl⟩
  rintro q ⟨env, nn, dfs, C⟩ ⟨s, t, rfl, hi1, hij, hj1, hlo, hhi, k1, k2, ⟨r0, r1, r2, r3, r4, r18, r19, r20, r21, r22⟩, hr, eC⟩
  simp only at k1 k2 r0 r1 r2 r3 r4 r18 r19 r20 r21 r22 hr eC
  subst k1; subst k2
  rw [← hp] at r22
  by_cases hlt : s < t
  case neg =>
    have hii : ¬ (s : Int) < (t : Int) := by omega
    have hje : t = s := by omega
    subst hje
    simp [r20, r21, hii, hlt]
    refine turned_ok r d o c N cv ih C l a m b t mid (n - t) n x L B z H (by omega) (by omega) ?_ ?_ hn ?_ ?_ ?_ hN1 hN2 hr hl (hc.ext eC) hv _ (by simp [r0]) (by simp [r1]) (by simp [r2]) (by simp [r3]) (by simp [r4]) (by simp [r18]) (by simp [r19]) (by simp [r20]) K fun env' A' t' e1 o1 k1 => hK env' A' t' (eC.trans e1) o1 k1
    · rcases hs with ⟨g1, g2, g3⟩ | ⟨g1, g2, g3⟩ <;> omega
    · rcases hs with ⟨g1, g2, g3⟩ | ⟨g1, g2, g3⟩ <;> omega
    · omega
    · rcases hlo with q | ⟨u, v, e1, e2, e3⟩
      · rcases hs with ⟨g1, g2, g3⟩ | ⟨g1, g2, g3⟩
        · exact .inr (.inl (by omega))
        · exact .inl (by omega)
      · rcases Nat.lt_or_ge s0 t with q | q
        · exact .inr (.inr ⟨u, v, e1, e2, by omega, by rcases hs with ⟨g1, g2, g3⟩ | ⟨g1, g2, g3⟩ <;> omega, e3⟩)
        · rcases hs with ⟨g1, g2, g3⟩ | ⟨g1, g2, g3⟩
          · exact .inr (.inl (by omega))
          · exact .inl (by omega)
    · rcases hhi with q | ⟨u, v, e1, e2, e3⟩
      · rcases hs with ⟨g1, g2, g3⟩ | ⟨g1, g2, g3⟩
        · exact .inr (.inl (by omega))
        · exact .inl (by omega)
      · rcases Nat.lt_or_ge t t0 with q | q
        · exact .inr (.inr ⟨u, v, e1, e2, by rcases hs with ⟨g1, g2, g3⟩ | ⟨g1, g2, g3⟩ <;> omega, by omega, e3⟩)
        · rcases hs with ⟨g1, g2, g3⟩ | ⟨g1, g2, g3⟩
          · exact .inr (.inl (by omega))
          · exact .inl (by omega)
  have hii : (s : Int) < (t : Int) := by omega
  obtain ⟨y, hh, hy, hhm, w1, w2, w3, w4, w5⟩ := mid_facts s t (by omega)
  have hh1 : s ≤ hh := by omega
  have hh2 : hh < t := by omega
  have hpb : m ≤ p - hh ∧ p - hh < b ∧ hh ≤ p := by rcases hs with ⟨g1, g2, g3⟩ | ⟨g1, g2, g3⟩ <;> omega
  have wph : IntKind.i64.wrap ((p : Int) - (hh : Int)) = ((p - hh : Nat) : Int) := by rw [show (p : Int) - (hh : Int) = ((p - hh : Nat) : Int) by omega]; exact IntWalk.i64_in _ (by omega)
  obtain ⟨ph, hph⟩ : ∃ ph, ph = p - hh := ⟨_, rfl⟩
  rw [← hph] at wph hpb
  obtain ⟨u, w, eu, ew, mu, mw, huw, c1, c2⟩ := H.cmp (i := hh) (j := ph) (by omega) (by omega) hpb.1 hpb.2.1
  obtain ⟨bs, opn, hB⟩ := hr
  have g1 := hB.get
  have g2 := hB.le
  have hphl : ph < l.length := by omega
  have hhl : hh < l.length := by omega
  have gu : bs[o + hh]? = some (.int .i64 (u : Nat)) := by
    have := hB.at hhl
    rw [List.getD_eq_getElem?_getD, eu] at this
    exact this
  have gw : bs[o + ph]? = some (.int .i64 (w : Nat)) := by
    have := hB.at hphl
    rw [List.getD_eq_getElem?_getD, ew] at this
    exact this
  simp [r0, r4, r20, r21, r22, hii, hlt, w1, w2, w3, w4, wph, g1, gu, gw, hphl, hhl, show o + (ph + 1) ≤ bs.length by omega, show o + (hh + 1) ≤ bs.length by omega]
  refine hc C eC w u (hv w (List.mem_of_getElem? ew)) (hv u (List.mem_of_getElem? eu)) _ fun D k eD hk => ?_
  by_cases hneg : k < 0
  · have hb : Be r w u := c1.2 (hk.1 hneg)
    simp [hneg]
    exact ⟨hh - s, by omega, s, hh, rfl, hi1, hh1, by omega, hlo, .inr ⟨w, u, by rw [show n - hh - 1 = ph by omega]; exact ew, eu, hb⟩, rfl, rfl, ⟨by simp [r0], by simp [r1], by simp [r2], by simp [r3], by simp [r4], by simp [r18], by simp [r19], by simp [r20], by simp, by simp [r22, hp]⟩, RowAt.ext ⟨bs, opn, hB⟩ eD (fun q => q), eC.trans (only eD)⟩
  · have hb : Be r u w := c2.2 fun q => hneg (hk.2 q)
    simp [hneg, w5]
    exact ⟨t - (hh + 1), by omega, hh + 1, t, rfl, by omega, by omega, hj1, .inr ⟨u, w, by rw [Nat.add_sub_cancel]; exact eu, by rw [show n - (hh + 1) = ph by omega]; exact ew, hb⟩, hhi, rfl, rfl, ⟨by simp [r0], by simp [r1], by simp [r2], by simp [r3], by simp [r4], by simp [r18], by simp [r19], by simp, by simp [r21], by simp [r22, hp]⟩, RowAt.ext ⟨bs, opn, hB⟩ eD (fun q => q), eC.trans (only eD)⟩
end Go.Proofs.YtigknpfjhegkgaaGreat
end

section
/- A merge's contract. -/
namespace Go.Proofs.YtigknpfjhegkgaaGreat
open Go Go.AS
set_option maxRecDepth 100000
set_option linter.unusedSimpArgs false
set_option linter.unusedVariables false
attribute [local irreducible] Trie.set Trie.get Env.rd
attribute [local simp ↓] wV_b2s
attribute [local simp] Nat.add_assoc wD_cons'' wD_nil' wC_seq wC_ops wC_opsD_nil wC_cond wC_skip wC_ret wC_exit wC_block wO_cons' wO_nil wantedA wV_eq lop qop ev wL_some wL_none wPut envOf rd_set rd_leaf eqA thenC blockC wB_true wB_false endF unwindA resultsA resA tupleA rdCell rdCells wrCells cl fillP lay rep bi_eql bi_neq bi_lss bi_leq bi_gtr bi_geq bi_add bi_sub bs_eql bs_neq bi_shr4 unA get_set' AHeap.get_alloc oneCell beqd bned idxA


theorem sym_ok (r : Nat → Int) (d o c : Nat) (cv : Value) : ∀ N, SymOk r d o c cv N
  | 0 => by
    intro A l a m b x L B z H h1 h2 hN
    have := H.lm
    have := H.lb
    omega
  | N + 1 => by
    intro A l a m b x L B z H h1 h2 hN h hl hc hv Q hq
    have ih := sym_ok r d o c cv N
    have hlm := H.lm
    have hlb := H.lb
    have hla := H.la
    have hlen : l.length = x.length + L.length + B.length + z.length := by rw [H.eq]; simp only [List.length_append]; omega
    refine wF_func (first := []) (captured := []) t127 ⟨rfl, by decide⟩ ?_
    dsimp only [c127]
    have w1 : IntKind.i64.wrap ((m : Int) - (a : Int)) = ((m - a : Nat) : Int) := by rw [show (m : Int) - (a : Int) = ((m - a : Nat) : Int) by omega]; exact IntWalk.i64_in _ (by omega)
    have w2 : IntKind.i64.wrap ((b : Int) - (m : Int)) = ((b - m : Nat) : Int) := by rw [show (b : Int) - (m : Int) = ((b - m : Nat) : Int) by omega]; exact IntWalk.i64_in _ (by omega)
    obtain ⟨ma, hma⟩ : ∃ y, y = m - a := ⟨_, rfl⟩
    obtain ⟨bm, hbm⟩ : ∃ y, y = b - m := ⟨_, rfl⟩
    rw [← hma] at w1
    rw [← hbm] at w2
    by_cases g1 : ma = 1
    · have g1i : (ma : Int) = 1 := by omega
      have hL1 : ∃ v, L = [v] := List.length_eq_one_iff.1 (by omega)
      obtain ⟨v, rfl⟩ := hL1
      simp [w1, g1, g1i]
      refine arm1_ok r A d o c l a m b x B z v cv H h hl hc hv _ (by simp) (by simp) (by simp) (by simp) (by simp) _ fun env' A' t e1 o1 k1 => ?_
      simp
      exact hq A' t e1 o1 k1
    have g1i : ¬ (ma : Int) = 1 := by omega
    by_cases g2 : bm = 1
    · have g2i : (bm : Int) = 1 := by omega
      have hB1 : ∃ v, B = [v] := List.length_eq_one_iff.1 (by omega)
      obtain ⟨v, rfl⟩ := hB1
      simp [w1, w2, g1, g1i, g2, g2i]
      refine arm2_ok r A d o c l a m b x L z v cv H h hl hc hv _ (by simp) (by simp) (by simp) (by simp) _ fun env' A' t e1 o1 k1 => ?_
      simp
      exact hq A' t e1 o1 k1
    have g2i : ¬ (bm : Int) = 1 := by omega
    simp [w1, w2, g1, g1i, g2, g2i]
    dsimp only [c127g]
    obtain ⟨y, mid, hy, hmid, y1, y2, y3, y4, y5⟩ := mid_facts a b (by omega)
    have w3 : IntKind.i64.wrap ((mid : Int) + (m : Int)) = ((mid + m : Nat) : Int) := IntWalk.i64_in _ (by omega)
    obtain ⟨n, hn⟩ : ∃ n, n = mid + m := ⟨_, rfl⟩
    rw [← hn] at w3
    by_cases g3 : mid < m
    · have g3i : (mid : Int) < (m : Int) := by omega
      have w4 : IntKind.i64.wrap ((n : Int) - (b : Int)) = ((n - b : Nat) : Int) := by rw [show (n : Int) - (b : Int) = ((n - b : Nat) : Int) by omega]; exact IntWalk.i64_in _ (by omega)
      obtain ⟨s0, hs0⟩ : ∃ n', n' = n - b := ⟨_, rfl⟩
      rw [← hs0] at w4
      simp [y1, y2, y3, y4, w3, g3, g3i, w4]
      refine search_ok r d o c N cv ih A l a m b mid n s0 mid x L B z H hn (by omega) (by omega) (by rw [hmid, hy]) (.inl ⟨g3, hs0, rfl⟩) (by omega) (by omega) h hl hc hv _ (by simp) (by simp) (by simp) (by simp) (by simp) (by simp) (by simp) (by simp) (by simp) _ fun env' A' t e1 o1 k1 => ?_
      simp
      exact hq A' t e1 o1 k1
    · have g3i : ¬ (mid : Int) < (m : Int) := by omega
      simp [y1, y2, y3, y4, w3, g3, g3i]
      refine search_ok r d o c N cv ih A l a m b mid n a m x L B z H hn (by omega) (by omega) (by rw [hmid, hy]) (.inr ⟨by omega, rfl, rfl⟩) (by omega) (by omega) h hl hc hv _ (by simp) (by simp) (by simp) (by simp) (by simp) (by simp) (by simp) (by simp) (by simp) _ fun env' A' t e1 o1 k1 => ?_
      simp
      exact hq A' t e1 o1 k1
end Go.Proofs.YtigknpfjhegkgaaGreat
end

section
/- A stable sort of thirty places at most. -/
namespace Go.Proofs.YtigknpfjhegkgaaGreat
open Go Go.AS
set_option maxRecDepth 100000
set_option linter.unusedSimpArgs false
set_option linter.unusedVariables false
attribute [local irreducible] Trie.set Trie.get Env.rd
attribute [local simp ↓] wV_b2s
attribute [local simp] Nat.add_assoc wD_cons'' wD_nil' wC_seq wC_ops wC_opsD_nil wC_cond wC_skip wC_ret wC_exit wC_block wO_cons' wO_nil wantedA wV_eq lop qop ev wL_some wL_none wPut envOf rd_set rd_leaf eqA thenC blockC wB_true wB_false endF unwindA resultsA resA tupleA rdCell rdCells wrCells cl fillP lay rep bi_eql bi_neq bi_lss bi_leq bi_gtr bi_geq bi_add bi_sub bs_eql bs_neq bi_shr4 unA get_set' AHeap.get_alloc oneCell beqd bned idxA


theorem insertion0_ok (A : AHeap) (sv cv : Value) (a : Nat) (ha : a < 1000000) (Q : Value → AHeap → Prop) (hq : Q (.tuple ⟨[]⟩) A) : wF T (.func (.func 126) #[] #[]) [sv, .int .i64 (a : Nat), .int .i64 (a : Nat), cv] A Q := by
  refine wF_func (first := []) (captured := []) t126 ⟨rfl, by decide⟩ ?_
  dsimp only [c126]
  have w1 : IntKind.i64.wrap ((a : Int) + 1) = ((a + 1 : Nat) : Int) := IntWalk.i64_in _ (by omega)
  obtain ⟨a1, ha1⟩ : ∃ n, n = a + 1 := ⟨_, rfl⟩
  rw [← ha1] at w1
  have h1 : ¬ (a1 : Int) < (a : Int) := by omega
  have h2 : ¬ a1 < a := by omega
  simp [w1]
  refine wC_loop ?_
  simp [h1, h2]
  exact hq
theorem stable_ok (r : Nat → Int) (A : AHeap) (d o c : Nat) (L : List Nat) (cv : Value) (hr : RowAt A d o L) (hc : Cmp r cv d A) (hL : L.Pairwise (· < ·)) (hn : L.length ≤ 30) (hv : ∀ y ∈ L, Vd r y) (Q : Value → AHeap → Prop) (hq : ∀ A' L', Ext (Only d) A A' → IsOrd r L L' → RowAt A' d o L' → Q (.tuple ⟨[]⟩) A') :
    wF T (.func (.func 77) #[] #[]) [.slice (some ⟨d, o, none⟩) L.length c, .int .i64 (L.length : Nat), cv] A Q := by
  refine wF_func (first := []) (captured := []) t77 ⟨rfl, by decide⟩ ?_
  dsimp only [c77]
  have e40 : IntKind.i64.wrap 40 = 40 := by decide
  have e20 : IntKind.i64.wrap 20 = 20 := by decide
  simp
  refine wC_loop ?_
  by_cases h20 : L.length < 20
  · have g1 : ¬ (20 : Int) ≤ (L.length : Int) := by omega
    have g2 : ¬ 20 ≤ L.length := by omega
    have g3 : ¬ (20 : Int) < (L.length : Int) := by omega
    have g4 : ¬ 20 < L.length := by omega
    simp [g1, g2]
    by_cases h0 : L.length = 0
    · have hnil : L = [] := List.length_eq_zero_iff.1 h0
      subst hnil
      refine insertion0_ok A _ cv 0 (by decide) _ ?_
      simp
      refine wC_loop ?_
      simp
      exact hq A [] Ext.refl ⟨List.Perm.refl _, by simp [Ord]⟩ hr
    · have hi := insertion_ok r A d o c [] L [] cv (by simpa using hr) hc hL (by simp; omega) hv (by omega)
      simp only [List.append_nil, List.nil_append, List.length_nil, Nat.zero_add] at hi
      refine hi _ fun A' L' e1 o1 k1 => ?_
      simp
      refine wC_loop ?_
      simp [g3, g4]
      exact hq A' L' e1 o1 k1
  · have g1 : (20 : Int) ≤ (L.length : Int) := by omega
    have g2 : 20 ≤ L.length := by omega
    have hLs : L = L.take 20 ++ L.drop 20 := (List.take_append_drop 20 L).symm
    have l1 : (L.take 20).length = 20 := by rw [List.length_take]; omega
    have l2 : (L.drop 20).length = L.length - 20 := by rw [List.length_drop]
    obtain ⟨n, hnn⟩ : ∃ n, n = L.length := ⟨_, rfl⟩
    generalize L.take 20 = L1 at hLs l1
    generalize L.drop 20 = L2 at hLs l2
    have hp := List.pairwise_append.1 (hLs ▸ hL)
    have hv1 : ∀ y ∈ L1, Vd r y := fun y hy => hv y (by rw [hLs]; exact List.mem_append_left _ hy)
    have hv2 : ∀ y ∈ L2, Vd r y := fun y hy => hv y (by rw [hLs]; exact List.mem_append_right _ hy)
    have hLl : L.length = L1.length + L2.length := by rw [hLs]; simp
    have m1 : ¬ (40 : Int) ≤ (L.length : Int) := by omega
    have m2 : ¬ 40 ≤ L.length := by omega
    have m3 : ¬ (40 : Int) < (L.length : Int) := by omega
    have m4 : ¬ 40 < L.length := by omega
    simp [g1, g2]
    have hi := insertion_ok r A d o c [] L1 L2 cv (by have := hr; rw [hLs] at this; simpa using this) hc hp.1 (by simp; omega) hv1 (by omega)
    simp only [List.nil_append, List.length_nil, Nat.zero_add, List.length_append, l1] at hi
    rw [show 20 + L2.length = L.length by omega] at hi
    refine hi _ fun A1 K1 e1 o1 k1 => ?_
    have lk1 : K1.length = 20 := by rw [o1.1.length_eq, l1]
    simp [e40, e20]
    refine wC_loop ?_
    simp [m1, m2]
    have hvk : ∀ y ∈ K1, Vd r y := fun y hy => hv1 y (o1.1.subset hy)
    have two : ∀ (A2 : AHeap) (K2 : List Nat) (env' : Env), Ext (Only d) A A2 → IsOrd r L2 K2 → RowAt A2 d o (K1 ++ K2) → env'.rd 0 = .slice (some ⟨d, o, none⟩) L.length c → env'.rd 1 = .int .i64 (L.length : Nat) → env'.rd 2 = cv → env'.rd 6 = .int .i64 20 → True := fun _ _ _ _ _ _ _ _ _ _ => trivial
    by_cases h0 : L2.length = 0
    · have hnil : L2 = [] := List.length_eq_zero_iff.1 h0
      have hl20 : L.length = 20 := by omega
      subst hnil
      rw [hl20]
      refine insertion0_ok A1 _ cv 20 (by decide) _ ?_
      simp
      refine wC_loop ?_
      simp
      refine hq A1 K1 e1 ?_ (by simpa using k1)
      rw [hLs]; simpa using o1
    · have hi2 := insertion_ok r A1 d o c K1 L2 [] cv (by simpa using k1) (hc.ext e1) hp.2.1 (by simp; omega) hv2 (by omega)
      simp only [List.append_nil, List.length_append, lk1] at hi2
      rw [show 20 + L2.length = L.length by omega] at hi2
      refine hi2 _ fun A2 K2 e2 o2 k2 => ?_
      have lk2 : K2.length = L2.length := o2.1.length_eq
      have g3 : (20 : Int) < (L.length : Int) := by omega
      have g4 : 20 < L.length := by omega
      have e402 : binA .mul (.int .i64 2) (.int .i64 20) = some (.int .i64 40) := by rfl
      have e403 : binA .mul (.int .i64 20) (.int .i64 2) = some (.int .i64 40) := by rfl
      simp
      refine wC_loop ?_
      simp [g3, g4, e402, e403]
      refine wC_loop ?_
      simp [m1, m2, g3, g4, e20]
      have hlk : (K1 ++ K2).length = L.length := by rw [List.length_append, lk1, lk2]; omega
      have H : Halves r (K1 ++ K2) 0 20 L.length [] K1 K2 [] := ⟨by simp, rfl, by omega, by omega, o1.2, o2.2, fun u hu v hv' => hp.2.2 u (o1.1.subset hu) v (o2.1.subset hv')⟩
      have hs := sym_ok r d o c cv L.length A2 (K1 ++ K2) 0 20 L.length [] K1 K2 [] H (by omega) (by omega) (by omega) (by simpa using k2) (by omega) ((hc.ext e1).ext e2) (fun y hy => by
        rcases List.mem_append.1 hy with q | q
        · exact hvk y q
        · exact hv2 y (o2.1.subset q))
      rw [hlk] at hs
      refine hs _ fun A3 K3 e3 o3 k3 => ?_
      simp [e403, e40]
      refine wC_loop ?_
      simp [m3, m4]
      refine hq A3 K3 ((e1.trans e2).trans e3) ⟨?_, o3.2⟩ (by simpa using k3)
      rw [hLs]
      exact o3.1.trans (o1.1.append o2.1)
end Go.Proofs.YtigknpfjhegkgaaGreat
end
