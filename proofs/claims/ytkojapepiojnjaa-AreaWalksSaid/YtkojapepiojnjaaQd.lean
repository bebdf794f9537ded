/- Contracts of Same, items and Size of stage 4. -/
import Derived.Test.YtkojapepiojnjaaQc
import Derived.KernelRfl
namespace Go.Proofs.Ytkojapepiojnjaa
open Go Go.AS
set_option maxRecDepth 100000
set_option linter.unusedSimpArgs false
set_option linter.unusedVariables false
attribute [local irreducible] Trie.set Trie.get Env.rd
attribute [local simp] Nat.add_assoc wD_cons'' wD_nil' wC_seq wC_ops wC_opsD_nil wC_cond wC_skip wC_ret wC_exit wC_block wO_cons' wO_nil wantedA wV_eq lop qop ev wL_some wL_none wPut envOf rd_set rd_leaf eqA thenC blockC wB_true wB_false endF unwindA resultsA resA tupleA rdCell rdCells wrCells cl fillP lay rep binA unA get_set' AHeap.get_alloc oneCell

theorem same_ok (v1 v2 : Value) (l1 l2 : List It) (A : AHeap) (Q : Value → AHeap → Prop) (h1 : ReadAt A 2 v1 l1.length (icells l1)) (h2 : ReadAt A 2 v2 l2.length (icells l2)) (hb : l1.length < 1000000) (hq : Q (.bool (decide (l1 = l2))) A) : wF T (.func (.func 15) #[] #[]) [v1, v2] A Q := by
  obtain ⟨a1, c1, rfl⟩ := h1.val
  obtain ⟨a2, c2, rfl⟩ := h2.val
  refine wF_func (first := []) (captured := []) t15 ⟨rfl, by decide⟩ ?_
  dsimp only [c15]
  by_cases hn : l1.length = l2.length
  · have hn' : ((l1.length : Int) != (l2.length : Int)) = false := by simp [hn]
    simp [hn']
    refine wC_loop_inv (fun m st => ∃ i, m + i = l1.length ∧ l1.take i = l2.take i ∧ st.n = 26 ∧ st.dfs = [] ∧ st.A = A ∧ st.env.rd 0 = .slice a1 l1.length c1 ∧ st.env.rd 1 = .slice a2 l2.length c2 ∧ st.env.rd 5 = .int .i64 (i : Nat)) ?_ l1.length _ ⟨0, rfl, rfl, rfl, rfl, rfl, by simp, by simp, by simp⟩
    rintro m ⟨env, n, dfs, A'⟩ ⟨i, k1, k2, k3, k4, k5, k6, k7, k8⟩
    simp only at k3 k4 k5 k6 k7 k8
    subst k3; subst k4; subst k5
    by_cases hi : i < l1.length
    · have hi2 : i < l2.length := by omega
      obtain ⟨d1, p1, cc1, bs1, ro1, opn1, q1, q2, q3, q4⟩ := h1.elem2 hi
      obtain ⟨d2, p2, cc2, bs2, ro2, opn2, r1, r2, r3, r4⟩ := h2.elem2 hi2
      cases q1; cases r1
      rw [Nat.add_assoc] at q3 r3
      rw [icells_at l1 i hi] at q4
      rw [icells_at l2 i hi2] at r4
      have e1 : l1.take (i + 1) = l1.take i ++ [l1[i]] := by rw [List.take_add_one, List.getElem?_eq_getElem hi]; rfl
      have e2 : l2.take (i + 1) = l2.take i ++ [l2[i]] := by rw [List.take_add_one, List.getElem?_eq_getElem hi2]; rfl
      have hne : l1[i] ≠ l2[i] → l1 ≠ l2 := fun q z => q (by subst z; rfl)
      generalize l1[i] = x at q4 e1 hne
      generalize l2[i] = y at r4 e2 hne
      have ws := wrap_succ i (by omega)
      by_cases he : x = y
      · subst he
        simp [k6, k7, k8, hi, hi2, idxA, q2, q3, q4, r2, r3, r4, eqL, leafEq]
        refine ⟨m - 1, by omega, i + 1, by omega, ?_, by simpa using ws⟩
        rw [e1, e2, k2]
      · have hne := hne he
        have hk : (!x.kind == y.kind || !x.body.data == y.body.data) = true := by
          by_cases z : x.kind = y.kind
          · have w : x.body.data ≠ y.body.data := fun w => he (by
              obtain ⟨xk, ⟨xd⟩⟩ := x; obtain ⟨yk, ⟨yd⟩⟩ := y
              simp only at z w
              subst z; subst w; rfl)
            simp [w]
          · simp [z]
        have hf : decide (l1 = l2) = false := by simp [hne]
        rw [hf] at hq
        simp [k6, k7, k8, hi, hi2, idxA, q2, q3, q4, r2, r3, r4, eqL, leafEq, hk]
        exact hq
    · have hl : l1 = l2 := by
        have := k2
        rwa [List.take_of_length_le (by omega), List.take_of_length_le (by omega)] at this
      have hf : decide (l1 = l2) = true := by simp [hl]
      rw [hf] at hq
      simp [k6, k7, k8, hi]
      exact hq
  · have hne : l1 ≠ l2 := fun q => hn (by rw [q])
    have hn' : ((l1.length : Int) != (l2.length : Int)) = true := by simp; omega
    have hf : decide (l1 = l2) = false := by simp [hne]
    rw [hf] at hq
    simp [hn']
    exact hq

theorem size_ok (its : List It) (lv : Value) (A0 : AHeap) (Q : Value → AHeap → Prop) (h : ReadAt A0 2 lv its.length (icells its)) (hn : its.length ≤ 1000)
    (hq : ∀ A', Ext NoB A0 A' → Q (.int .i64 ((layR its).1.size : Nat)) A') : wF T (.func (.func 11) #[] #[]) [lv] A0 Q := by
  refine wF_func (first := []) (captured := []) t11 ⟨rfl, by decide⟩ ?_
  dsimp only [c11]; simp
  refine lay_ok its lv A0 _ h hn fun A' e => ?_
  simp
  exact hq A' e

/-- A draft: a byte and a Body. -/
structure Dr where
  kind : Nat
  body : ByteArray
def dcells (l : List Dr) : List Value := l.flatMap fun x => [.int .u8 (x.kind : Int), .string x.body]
theorem dcells_at (l : List Dr) (i : Nat) (hi : i < l.length) : ((dcells l).drop (i * 2)).take 2 = [.int .u8 (l[i].kind : Int), .string l[i].body] := by
  induction l generalizing i with
  | nil => simp at hi
  | cons p l ih =>
    cases i with
    | zero => simp [dcells]
    | succ i =>
      have := ih i (by simpa using hi)
      rw [show (i + 1) * 2 = 2 + i * 2 by omega, ← List.drop_drop]
      simpa [dcells] using this

/-- What is known of the items of drafts. -/
def itemsP (its : List It) (n : Nat) : Prop := (∀ x ∈ its, x.ok) ∧ (raw its).length = n ∧ n ≤ 40 ∧ its.length ≤ n

theorem itemsP.snoc {its : List It} {n : Nat} (h : itemsP its n) {x : It} (hx : x.ok) (hn : n + (2 + x.body.size) ≤ 40) : itemsP (its ++ [x]) (n + (2 + x.body.size)) := by
  obtain ⟨h1, h2, h3, h4⟩ := h
  refine ⟨fun y hy => ?_, ?_, hn, ?_⟩
  · rcases List.mem_append.1 hy with q | q
    · exact h1 y q
    · rw [List.mem_singleton] at q; subst q; exact hx
  · rw [raw_app, List.length_append, h2, It.raw_len]
  · simp; omega

def MI (A0 : AHeap) (lv : Value) (len : Nat) (m : Nat) (st : St) : Prop := ∃ i v its n, m + i = len ∧ st.n = 49 ∧ st.dfs = [] ∧ st.env.rd 0 = lv ∧ st.env.rd 3 = v ∧ st.env.rd 4 = .int .i64 (n : Nat) ∧ st.env.rd 5 = .int .i64 (i : Nat) ∧
  Ext NoB A0 st.A ∧ SliceAt st.A 2 v its.length (icells its) ∧ (∀ j, Own v j → A0.size ≤ j) ∧ itemsP its n ∧ 2 * i ≤ n

theorem items_ok (ds : List Dr) (lv : Value) (A0 : AHeap) (Q : Value → AHeap → Prop) (h : ReadAt A0 2 lv ds.length (dcells ds)) (hk : ∀ x ∈ ds, x.kind < 256)
    (hq : ∀ A' v its n, Ext NoB A0 A' → SliceAt A' 2 v its.length (icells its) → (∀ j, Own v j → A0.size ≤ j) → itemsP its n → Q v A') : wF T (.func (.func 16) #[] #[]) [lv] A0 Q := by
  obtain ⟨a1, c1, rfl⟩ := h.val
  refine wF_func (first := []) (captured := []) t16 ⟨rfl, by decide⟩ ?_
  dsimp only [c16]; simp
  refine wC_loop_inv (MI A0 (.slice a1 ds.length c1) ds.length) ?_ ds.length _ ⟨0, .slice none 0 0, [], 0, by omega, rfl, rfl, by simp, by simp, by simp, by simp, Ext.refl, .nil, (fun j ⟨_, _, _, q⟩ => by cases q), ⟨by simp, rfl, by omega, by simp⟩, by omega⟩
  rintro m ⟨env, nn, dfs, A⟩ ⟨i, v, its, n, k0, k1, k2, j0, k3, k4, k5, e1, s1, o1, hp, hin⟩
  have hn40' := hp.2.2.1
  simp only at k1 k2 j0 k3 k4 k5 e1 s1
  subst k1; subst k2
  obtain ⟨av, cv, hv⟩ := s1.read.val
  subst hv
  by_cases hi : i < ds.length
  · obtain ⟨d1, p1, cc1, bs1, ro1, opn1, q1, q2, q3, q4⟩ := (h.ext e1 fun _ _ q => q).elem2 hi
    cases q1
    rw [Nat.add_assoc] at q3
    rw [dcells_at ds i hi] at q4
    obtain ⟨b1, b2⟩ := take2 q4
    rw [Nat.add_assoc] at b2
    have hd := hk _ (List.getElem_mem hi)
    generalize ds[i] = x at q4 b1 b2 hd
    have m1 : ∃ z : Int, 0 ≤ z ∧ z ≤ x.body.size ∧ z ≤ 14 ∧ (if (14 : Int) < x.body.size then 14 else (x.body.size : Int)) = z := by
      split
      · exact ⟨14, by omega, by omega, by omega, rfl⟩
      · exact ⟨_, by omega, by omega, by omega, rfl⟩
    obtain ⟨z, z0, z1, z2, z3⟩ := m1
    have zs := sliceS_to x.body .i64 z z0 z1
    have w1 : IntKind.i64.wrap (x.kind : Int) = (x.kind : Int) := IntWalk.i64_in _ (by omega)
    have w2 : IntKind.i64.wrap (2 + (x.kind : Int).tmod 254) = 2 + (x.kind : Int).tmod 254 := IntWalk.i64_in _ (by rw [IntWalk.rem_in _ _ (by omega)]; omega)
    have w3 : 0 ≤ (x.kind : Int).tmod 254 ∧ (x.kind : Int).tmod 254 ≤ 253 := by rw [IntWalk.rem_in _ _ (by omega)]; omega
    generalize ht : (⟨⟨x.body.data.toList.take z.toNat⟩⟩ : ByteArray) = t at zs
    have ts : t.size ≤ 14 := by
      rw [← ht]
      show (x.body.data.toList.take z.toNat).length ≤ 14
      rw [List.length_take]; omega
    have hn40 := hp.2.2.1
    have hlen := hp.2.2.2
    have w4 : IntKind.i64.wrap ((n : Int) + 2) = (n : Int) + 2 := IntWalk.i64_in _ (by omega)
    have w5 : IntKind.i64.wrap ((n : Int) + 2 + (t.size : Int)) = ((n + (2 + t.size) : Nat) : Int) := by
      rw [IntWalk.i64_in _ (by omega)]; push_cast; omega
    have ws := wrap_succ i (by omega)
    by_cases h40 : n + (2 + t.size) ≤ 40
    · have h40' : ¬ (40 : Int) < ((n + (2 + t.size) : Nat) : Int) := by omega
      push_cast at w5 h40'
      simp [j0, k3, k4, k5, hi, idxA, q2, q3, b1, b2, foldV, minV, z3, zs, w1, w2, w4, w5, h40']
      generalize hH : (A.alloc _).set A.size _ = H
      have zH : H.size = A.size + 1 := by rw [← hH]; rfl
      have eH : Ext NoB A H := ⟨by omega, fun j hj _ => by rw [← hH]; simp [show j ≠ A.size by omega]⟩
      obtain ⟨a2, c2, A2, s2, t2, u2, v2⟩ := appI H (H.alloc (.cells [.int .i64 (2 + (x.kind : Int).tmod 254), .string t] false 0)) _ (.slice (some ⟨A.size + 1, 0, none⟩) 1 1) its ⟨2 + (x.kind : Int).tmod 254, t⟩ (s1.ext eH fun _ _ q => q) Ext.alloc rfl (by simp [firstA, rdCells, ENDCAP, zH]) (by omega)
      simp [s2, k5]
      have hx : It.ok ⟨2 + (x.kind : Int).tmod 254, t⟩ := ⟨by simp only; omega, by simp only; omega, by simp only; omega⟩
      refine ⟨m - 1, by omega, i + 1, _, its ++ [⟨2 + (x.kind : Int).tmod 254, t⟩], n + (2 + t.size), by omega, rfl, rfl, by simp [j0], by simp, by simp, by simpa using ws, (e1.trans eH).trans2 u2 fun j hj q => by have := o1 j q; omega, t2, fun j hj => ?_, hp.snoc hx h40, by omega⟩
      have := e1.size
      rcases v2 j hj with q | q
      · exact o1 j q
      · omega
    · have h40' : (40 : Int) < ((n + (2 + t.size) : Nat) : Int) := by omega
      push_cast at w5 h40'
      simp [j0, k3, k4, k5, hi, idxA, q2, q3, b1, b2, foldV, minV, z3, zs, w1, w2, w4, w5, h40']
      have eH : ∀ y, Ext NoB A ((A.alloc (.cells [.int .i64 0, .string ⟨⟨[]⟩⟩] false 0)).set A.size y) := fun y => ⟨by simp, fun j hj _ => by simp [show j ≠ A.size by omega]⟩
      exact hq _ _ its n (e1.trans (eH _)) (s1.ext (eH _) fun _ _ q => q) o1 hp
  · simp [j0, k3, k4, k5, hi]
    exact hq _ _ its n e1 s1 o1 hp
end Go.Proofs.Ytkojapepiojnjaa
