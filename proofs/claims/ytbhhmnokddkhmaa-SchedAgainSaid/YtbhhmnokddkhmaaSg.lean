/- SchedBest of stage 25. -/
import Derived.Test.YtbhhmnokddkhmaaSf
import Derived.Test.YtbhhmnokddkhmaaAsZG
import Derived.KernelRfl
namespace Go.Proofs.Ytbhhmnokddkhmaa
open Go Go.AS
set_option maxRecDepth 100000
set_option linter.unusedSimpArgs false
set_option linter.unusedVariables false
attribute [local irreducible] Trie.set Trie.get Env.rd
attribute [local simp] Nat.add_assoc wD_cons'' wD_nil' wC_seq wC_ops wC_opsD_nil wC_cond wC_skip wC_ret wC_exit wC_block wO_cons' wO_nil wantedA wV_eq lop qop ev wL_some wL_none wPut envOf rd_set rd_leaf eqA thenC blockC wB_true wB_false endF unwindA resultsA resA tupleA rdCell rdCells wrCells cl fillP lay rep binA unA get_set' AHeap.get_alloc oneCell

def Yes : AExit → St → Prop := endF [.inl 4] (fun v _ => v = .bool true)

/-- What is known of the path that was picked. -/
def Pk (limit : Int) (cur : List La) (r : Int) : Prop := (r = -1 ∧ ∀ x ∈ cur, may limit cur x = false) ∨
  ∃ (j : Nat) (hj : j < cur.length), r = (j : Int) ∧ may limit cur cur[j] = true ∧ ∀ (i : Nat) (hi : i < cur.length), may limit cur cur[i] = true → ¬ cur[i].flight < cur[j].flight ∧ ¬ (cur[i].flight = cur[j].flight ∧ i < j)

theorem pick_pk (limit : Int) (cur : List La) (hp : ∀ (i : Nat) (hi : i < cur.length), cur[i].path = (i : Int)) : Pk limit cur (pickR limit cur) := by
  obtain ⟨h1, h2⟩ := least_spec _ (cur.filter (may limit cur)) rfl
  unfold pickR
  cases hb : least (cur.filter (may limit cur)) with
  | none =>
    refine .inl ⟨rfl, fun x hx => ?_⟩
    cases hm : may limit cur x with
    | false => rfl
    | true =>
      have : x ∈ cur.filter (may limit cur) := List.mem_filter.2 ⟨hx, hm⟩
      rw [h1 hb] at this
      exact absurd this (by simp)
  | some x =>
    obtain ⟨m1, m2⟩ := h2 x hb
    obtain ⟨m3, m4⟩ := List.mem_filter.1 m1
    obtain ⟨j, hj, hjx⟩ := List.getElem_of_mem m3
    subst hjx
    refine .inr ⟨j, hj, hp j hj, m4, fun i hi hm => ?_⟩
    have := m2 cur[i] (List.mem_filter.2 ⟨List.getElem_mem hi, hm⟩)
    simp only [less, Bool.or_eq_false_iff, Bool.and_eq_false_iff, decide_eq_false_iff_not] at this
    rw [hp i hi, hp j hj] at this
    refine ⟨this.1, fun q => ?_⟩
    rcases this.2 with w | w
    · exact w q.1
    · exact w (by omega)

theorem may_true {limit : Int} {cur : List La} {x : La} {f : Bool} (hf : f = first limit cur) (h : may limit cur x = true) : x.up = true ∧ x.flight < limit ∧ (f = false ∨ f = true ∧ x.backup = false) := by
  unfold may at h
  rw [← hf] at h
  cases hu : x.up <;> cases hb : x.backup <;> cases f <;> simp_all
theorem may_false {limit : Int} {cur : List La} {x : La} {f : Bool} (hf : f = first limit cur) (h : may limit cur x = false) : x.up = false ∨ x.up = true ∧ ¬ x.flight < limit ∨ x.up = true ∧ x.flight < limit ∧ f = true ∧ x.backup = true := by
  unfold may at h
  rw [← hf] at h
  cases hu : x.up <;> cases hb : x.backup <;> cases f <;> by_cases hl : x.flight < limit <;> simp_all

def WI (st0 : St) (lv : Value) (z : Nat) (limit r : Int) (f : Bool) (m : Nat) (st : St) : Prop := ∃ i, m + i = z ∧ st.n = 158 ∧ st.dfs = [] ∧ st.A = st0.A ∧ st.env.rd 0 = lv ∧ st.env.rd 1 = .int .i64 limit ∧ st.env.rd 5 = .bool f ∧ st.env.rd 7 = .int .i64 r ∧ st.env.rd 8 = .int .i64 (i : Nat)

theorem w_ok (st : St) (a : Option Addr) (z c : Nat) (limit r : Int) (f : Bool) (cur : List La) (n0 : st.n = 158) (n1 : st.dfs = []) (r0 : st.env.rd 0 = .slice a z c) (r1 : st.env.rd 1 = .int .i64 limit) (r5 : st.env.rd 5 = .bool f) (r7 : st.env.rd 7 = .int .i64 r) (hz : cur.length = z) (hz2 : z ≤ 20)
    (hs : SliceAt st.A 4 (.slice a z c) z (lcells cur)) (hf : f = first limit cur) (hr : Pk limit cur r) : wC T 3 none c3w st Yes := by
  obtain ⟨env, nn, dfs, A⟩ := st
  simp only at n0 n1 r0 r1 r5 r7 hs
  subst n0; subst n1
  unfold c3w
  simp
  refine wC_loop_inv (WI ⟨env, 158, [], A⟩ (.slice a z c) z limit r f) ?_ z _ ⟨0, by omega, rfl, rfl, rfl, by simp [r0], by simp [r1], by simp [r5], by simp [r7], by simp⟩
  rintro m ⟨env, nn, dfs, A'⟩ ⟨i, k0, k1, k2, k3, r0, r1, r5, r7, r8⟩
  simp only at k1 k2 k3 r0 r1 r5 r7 r8
  subst k1; subst k2; subst k3
  by_cases hi : i < z
  · have hic : i < cur.length := by omega
    obtain ⟨d, o, cc, bs, ro, opn, q1, q2, q3, q4⟩ := hs.read.elem2 hi
    cases q1
    rw [lcells_at cur i hic] at q4
    obtain ⟨b0, b1, b2, b3⟩ := take4 q4
    rw [Nat.add_assoc] at b1 b2 b3
    have ws := wrap_succ i (by omega)
    have go : ∀ env', Env.rd env' 0 = .slice (some ⟨d, o, none⟩) z c → Env.rd env' 1 = .int .i64 limit → Env.rd env' 5 = .bool f → Env.rd env' 7 = .int .i64 r → Env.rd env' 8 = .int .i64 (IntKind.i64.wrap ((i : Int) + 1)) → ∃ m', m' < m ∧ WI ⟨env, 158, [], A'⟩ (.slice (some ⟨d, o, none⟩) z c) z limit r f m' ⟨env', 158, [], A'⟩ := by
      intro env' t0 t1 t5 t7 t8
      exact ⟨m - 1, by omega, i + 1, by omega, rfl, rfl, rfl, t0, t1, t5, t7, by rw [t8, ws]⟩
    cases hm : may limit cur cur[i] with
    | false =>
      rcases may_false hf hm with u1 | ⟨u1, u2⟩ | ⟨u1, u2, u3, u4⟩
      · rw [u1] at b1
        simp [r0, r1, r5, r7, r8, hi, idxA, q2, b1, undef]
        refine go _ ?_ ?_ ?_ ?_ ?_ <;> simp [r0, r1, r5, r7]
      · rw [u1] at b1
        have u2' : limit ≤ cur[i].flight := by omega
        simp [r0, r1, r5, r7, r8, hi, idxA, q2, b1, b3, u2', undef]
        refine go _ ?_ ?_ ?_ ?_ ?_ <;> simp [r0, r1, r5, r7]
      · rw [u1] at b1
        rw [u4] at b2
        subst u3
        have u2' : ¬ limit ≤ cur[i].flight := by omega
        simp [r0, r1, r5, r7, r8, hi, idxA, q2, b1, b2, b3, u2']
        refine go _ ?_ ?_ ?_ ?_ ?_ <;> simp [r0, r1, r5, r7]
    | true =>
      obtain ⟨u1, u2, u3⟩ := may_true hf hm
      rw [u1] at b1
      have u2' : ¬ limit ≤ cur[i].flight := by omega
      rcases hr with ⟨hr1, hr2⟩ | ⟨j, hj, hr1, _, hr2⟩
      · rw [hr2 cur[i] (List.getElem_mem hic)] at hm; cases hm
      · obtain ⟨v1, v2⟩ := hr2 i hic hm
        subst hr1
        obtain ⟨d', o', cc', bs', ro', opn', w1, w2, w3, w4⟩ := hs.read.elem2 (show j < z by omega)
        cases w1
        rw [q2] at w2
        cases w2
        rw [lcells_at cur j hj] at w4
        obtain ⟨_, _, _, y3⟩ := take4 w4
        rw [Nat.add_assoc] at y3
        have hjz : j < z := by omega
        have hj0 : ¬ (j : Int) < 0 := by omega
        rcases u3 with u3 | ⟨u3, u4⟩
        · subst u3
          by_cases he : cur[i].flight = cur[j].flight
          · have hij : ¬ (i : Int) < (j : Int) := fun q => v2 ⟨he, by omega⟩
            have he' : (cur[i].flight == cur[j].flight) = true := by simp [he]
            simp [r0, r1, r5, r7, r8, hi, idxA, q2, b1, b2, b3, u2', hj0, hjz, y3, v1, he', hij]
            refine go _ ?_ ?_ ?_ ?_ ?_ <;> simp [r0, r1, r5, r7]
          · have he' : (cur[i].flight == cur[j].flight) = false := by simp [he]
            simp [r0, r1, r5, r7, r8, hi, idxA, q2, b1, b2, b3, u2', hj0, hjz, y3, v1, he']
            refine go _ ?_ ?_ ?_ ?_ ?_ <;> simp [r0, r1, r5, r7]
        · subst u3
          rw [u4] at b2
          by_cases he : cur[i].flight = cur[j].flight
          · have hij : ¬ (i : Int) < (j : Int) := fun q => v2 ⟨he, by omega⟩
            have he' : (cur[i].flight == cur[j].flight) = true := by simp [he]
            simp [r0, r1, r5, r7, r8, hi, idxA, q2, b1, b2, b3, u2', hj0, hjz, y3, v1, he', hij]
            refine go _ ?_ ?_ ?_ ?_ ?_ <;> simp [r0, r1, r5, r7]
          · have he' : (cur[i].flight == cur[j].flight) = false := by simp [he]
            simp [r0, r1, r5, r7, r8, hi, idxA, q2, b1, b2, b3, u2', hj0, hjz, y3, v1, he']
            refine go _ ?_ ?_ ?_ ?_ ?_ <;> simp [r0, r1, r5, r7]
  · unfold Yes
    simp [r0, r1, r5, r7, r8, hi]
end Go.Proofs.Ytbhhmnokddkhmaa
