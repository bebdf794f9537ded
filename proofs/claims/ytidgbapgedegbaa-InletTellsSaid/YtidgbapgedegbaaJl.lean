/- InletTells. -/
import Derived.Test.YtidgbapgedegbaaJk
import Derived.KernelRfl
namespace Go.Proofs.Ytidgbapgedegbaa
open Go Go.AS
set_option maxRecDepth 100000
set_option linter.unusedSimpArgs false
set_option linter.unusedVariables false
attribute [local irreducible] Trie.set Trie.get Env.rd
attribute [local simp ↓] wV_b2s
attribute [local simp] Nat.add_assoc wD_cons'' wD_nil' wC_seq wC_ops wC_opsD_nil wC_cond wC_skip wC_ret wC_exit wC_block wO_cons' wO_nil wantedA wV_eq lop qop ev wL_some wL_none wPut envOf rd_set rd_leaf eqA thenC blockC wB_true wB_false endF unwindA resultsA resA tupleA rdCell rdCells wrCells cl fillP lay rep binA unA get_set' AHeap.get_alloc oneCell beqd bned idxA

theorem min100 (n : Nat) : foldV minV (.int .i64 (n : Int)) [.int .i64 100] = some (.int .i64 ((min n 100 : Nat) : Int)) := by
  simp only [foldV, minV]; congr 2; omega
set_option maxHeartbeats 3200000 in
theorem alike_ok (A : AHeap) (i r h t : Nat) (s : IS) (lm : List Mp) (S R : Nat → Prop) (K : Nat) (w : Nat) (off : Int) (x : Mp) (n : Nat) (sl : List UInt8) (Q : Value → AHeap → Prop) (B : Bo A i r h t s lm S R K) (hK : K < 1000) (hw : w < 256)
    (ho : -9223372036854775808 ≤ off ∧ off < 9223372036854775808) (hx : x.sum = (n : Int)) (hn : n < 65536) (hxa : x.at_ < 9223372036854775808)
    (hq : ∀ A' s' lm' S' R', Bo A' i r h t s' lm' S' R' (K + 1) → Ext (fun j => S j ∨ R j) A A' → (∀ j, S' j → S j ∨ A.size ≤ j) → (∀ j, R' j → R j ∨ A.size ≤ j) → Q (.bool true) A') :
    wF T (.func (.func 30) #[] #[]) [.agg ⟨acx w off x (.string ⟨⟨sl⟩⟩)⟩, .pointer (some ⟨i, 0, none⟩), .pointer (some ⟨r, 0, none⟩)] A Q := by
  refine wF_func (first := []) (captured := []) t30 ⟨rfl, by decide⟩ ?_
  dsimp only [c30]
  have m1 := min100 sl.length
  have hsl := sl_to sl .i64 (min sl.length 100) (Nat.min_le_left _ _)
  have hml : (sl.take (min sl.length 100)).length ≤ 100 := by rw [List.length_take]; omega
  generalize hl8 : sl.take (min sl.length 100) = l8 at hsl hml
  generalize hM : min sl.length 100 = M at hsl m1
  simp [acx]
  generalize hA1 : A.alloc _ = A1
  obtain ⟨g1, e1, z1⟩ := alloc_facts hA1
  have g1' : A1.get A.size = some (.cells (acx w off x (.string ⟨⟨sl⟩⟩)) false 0) := g1
  have B1 := B.extN e1
  have nS : ¬ S A.size := fun q => by have := B.lS _ q; omega
  have nR : ¬ R A.size := fun q => by have := B.b.lt _ q; omega
  obtain ⟨v, hv1, hv2⟩ := tmod_lt w 8 (by omega)
  have hv1' : (w : Int).tmod 8 = v := hv1
  have e1' : Ext (fun j => S j ∨ R j) A A1 := e1.mono fun _ _ q => q.elim
  have tail : ∀ (env' : Env) (A2 : AHeap) (s2 : IS) (lm2 : List Mp) (S2 R2 : Nat → Prop), Bo A2 i r h t s2 lm2 S2 R2 (K + 1) → Ext (fun j => S j ∨ R j) A1 A2 → (∀ j, S2 j → S j ∨ A1.size ≤ j) → (∀ j, R2 j → R j ∨ A1.size ≤ j) → env'.rd 1 = .pointer (some ⟨i, 0, none⟩) → env'.rd 2 = .pointer (some ⟨r, 0, none⟩) → env'.rd 3 = .pointer (some ⟨A.size, 0, none⟩) → env'.rd 7 = .bool true → wC T 30 none c30t { env := env', n := 214, dfs := [], A := A2 } (endF [.inl 6] Q) := by
    intro env' A2 s2 lm2 S2 R2 B2 e2 hS hR v1 v2 v3 v7
    have g2 := e2.get g1' (fun q => q.elim nS nR)
    refine alike_t A2 i r h t s2 lm2 S2 R2 (K + 1) A.size off _ _ _ _ _ _ env' Q B2 (by omega) g2 v1 v2 v3 v7 fun A3 B3 e3 => ?_
    exact hq A3 s2 lm2 S2 R2 B3 ((e1'.trans e2).trans (e3.mono fun _ _ q => q.elim)) (fun j hj => (hS j hj).imp id fun z => by omega) (fun j hj => (hR j hj).imp id fun z => by omega)
  simp [g1, m1, hsl, hv1']
  have split8 : v = 0 ∨ v = 1 ∨ v = 2 ∨ v = 3 ∨ v = 4 ∨ v = 5 ∨ v = 6 ∨ v = 7 := by omega
  rcases split8 with e | e | e | e | e | e | e | e
  · subst e
    simp
    refine alike_a A1 i r h t s lm S R K A.size w off x n l8 _ _ _ B1 hK g1' nS nR ho hx hn hxa hml (by simp) (by simp) (by simp) (by simp) fun env' A2 s2 lm2 S2 R2 B2 e2 hS hR v1 v2 v3 v7 => ?_
    simp at v1 v2 v3
    simp
    exact tail env' A2 s2 lm2 S2 R2 B2 e2 hS hR v1 v2 v3 v7
  · subst e
    simp
    refine alike_b A1 i r h t s lm S R K A.size w off x n l8 _ _ _ B1 hK g1' nS nR ho hx hn hxa hml (by simp) (by simp) (by simp) (by simp) fun env' A2 s2 lm2 S2 R2 B2 e2 hS hR v1 v2 v3 v7 => ?_
    simp at v1 v2 v3
    simp
    exact tail env' A2 s2 lm2 S2 R2 B2 e2 hS hR v1 v2 v3 v7
  · subst e
    simp
    refine alike_b A1 i r h t s lm S R K A.size w off x n l8 _ _ _ B1 hK g1' nS nR ho hx hn hxa hml (by simp) (by simp) (by simp) (by simp) fun env' A2 s2 lm2 S2 R2 B2 e2 hS hR v1 v2 v3 v7 => ?_
    simp at v1 v2 v3
    simp
    exact tail env' A2 s2 lm2 S2 R2 B2 e2 hS hR v1 v2 v3 v7
  · subst e
    simp
    refine alike_c A1 i r h t s lm S R K A.size w off x n l8 _ _ _ B1 hK g1' nS nR ho hx hn hxa hml (by simp) (by simp) (by simp) (by simp) fun env' A2 s2 lm2 S2 R2 B2 e2 hS hR v1 v2 v3 v7 => ?_
    simp at v1 v2 v3
    simp
    exact tail env' A2 s2 lm2 S2 R2 B2 e2 hS hR v1 v2 v3 v7
  · subst e
    simp
    refine alike_d A1 i r h t s lm S R K A.size w off x n l8 _ _ _ B1 hK g1' nS nR ho hx hn hxa hml (by simp) (by simp) (by simp) (by simp) hw fun env' A2 s2 lm2 S2 R2 B2 e2 hS hR v1 v2 v3 v7 => ?_
    simp at v1 v2 v3
    simp
    exact tail env' A2 s2 lm2 S2 R2 B2 e2 hS hR v1 v2 v3 v7
  · subst e
    simp
    refine alike_d A1 i r h t s lm S R K A.size w off x n l8 _ _ _ B1 hK g1' nS nR ho hx hn hxa hml (by simp) (by simp) (by simp) (by simp) hw fun env' A2 s2 lm2 S2 R2 B2 e2 hS hR v1 v2 v3 v7 => ?_
    simp at v1 v2 v3
    simp
    exact tail env' A2 s2 lm2 S2 R2 B2 e2 hS hR v1 v2 v3 v7
  · subst e
    simp
    refine alike_d A1 i r h t s lm S R K A.size w off x n l8 _ _ _ B1 hK g1' nS nR ho hx hn hxa hml (by simp) (by simp) (by simp) (by simp) hw fun env' A2 s2 lm2 S2 R2 B2 e2 hS hR v1 v2 v3 v7 => ?_
    simp at v1 v2 v3
    simp
    exact tail env' A2 s2 lm2 S2 R2 B2 e2 hS hR v1 v2 v3 v7
  · subst e
    simp
    refine alike_e A1 i r h t s lm S R K A.size w off x n l8 _ _ _ B1 hK g1' nS nR ho hx hn hxa hml (by simp) (by simp) (by simp) (by simp) (fun env' A2 s2 lm2 S2 R2 B2 e2 hS hR v1 v2 v3 v7 => ?_) (by simp)
    simp at v1 v2 v3
    simp
    exact tail env' A2 s2 lm2 S2 R2 B2 e2 hS hR v1 v2 v3 v7
/-- An act. -/
structure Ac where
  w : Nat
  off : Int
  x : Mp
  s : ByteArray
def acc (a : Ac) : List Value := acx a.w a.off a.x (.string a.s)
def AcOk (a : Ac) : Prop := a.w < 256 ∧ (-9223372036854775808 ≤ a.off ∧ a.off < 9223372036854775808) ∧ a.x.at_ < 9223372036854775808 ∧ ∃ n : Nat, a.x.sum = (n : Int) ∧ n < 65536
def InlTI (A0 : AHeap) (i r h t : Nat) (v : Value) (N : Nat) (m : Nat) (st : St) : Prop := ∃ (k : Nat) (s : IS) (lm : List Mp) (S R : Nat → Prop), k ≤ N ∧ k ≤ 50 ∧ m = 50 - k ∧ st.n = 51 ∧ st.dfs = [] ∧ Bo st.A i r h t s lm S R k ∧ (∀ j, S j → A0.size ≤ j) ∧ (∀ j, R j → A0.size ≤ j) ∧ Ext NoB A0 st.A ∧ (st.env.rd 3 = v ∧ st.env.rd 9 = .pointer (some ⟨i, 0, none⟩) ∧ st.env.rd 10 = .pointer (some ⟨r, 0, none⟩) ∧ st.env.rd 11 = .int .i64 (k : Nat))
set_option maxHeartbeats 3200000 in
theorem itells_ok (A : AHeap) (room : Int) (sums : Bool) (idsn : Int) (v : Value) (al : List Ac) (hv : ReadAt A 7 v al.length (encs acc al)) (hvl : ∀ j, Own v j → j < A.size) (hal : ∀ a ∈ al, AcOk a) : wF T (.func (.func 7) #[] #[]) [.int .i64 room, .bool sums, .int .u64 idsn, v] A (fun v _ => v = .bool true) := by
  obtain ⟨va, vc, rfl⟩ := hv.val
  refine wF_func (first := []) (captured := []) t7 ⟨rfl, by decide⟩ ?_
  dsimp only [c7]
  simp
  by_cases cr : room < 1 ∨ 2048 < room
  · refine inew_bad room sums idsn cr A _ ?_
    simp
    refine rnew_bad A room sums idsn cr _ ?_
    simp
    refine yes20 A _ ?_
    simp
    refine wC_loop_inv (fun m st => st = st ∧ m = 0 ∧ st.env.rd 10 = .pointer none ∧ st.n = 51 ∧ st.dfs = []) ?_ 0 _ ⟨rfl, rfl, by simp, rfl, rfl⟩
    rintro m ⟨env, nn, dfs, C⟩ ⟨_, rfl, r10, s1, s2⟩
    simp only at r10 s1 s2
    subst s1; subst s2
    simp [r10]
  obtain ⟨N, rfl⟩ : ∃ N : Nat, room = N := ⟨room.toNat, by omega⟩
  refine inew_ok N sums idsn (by omega) (by omega) A _ fun A1 i e1 hi hin => ?_
  simp
  refine rnew_ok A1 N sums idsn (by omega) (by omega) _ fun A2 r h t e2 H2 => ?_
  have z1 := e1.size
  have z2 := e2.size
  simp
  refine yes20 A2 _ ?_
  simp
  have B2 : Bo A2 i r h t ⟨N, 0, fun _ => none, [], sums, idsn⟩ [] (fun j => A.size ≤ j ∧ j < A1.size) (fun j => A1.size ≤ j ∧ j < A2.size) 0 := ⟨hin.extN e2, H2, fun j hj q => by omega, fun j hj => by omega, iok_of (hin.extN e2) fun m hm => by cases hm⟩
  refine wC_loop_inv (InlTI A i r h t (.slice va al.length vc) al.length) ?_ 50 _ ⟨0, _, _, _, _, by omega, by omega, rfl, rfl, rfl, B2, fun j hj => hj.1, fun j hj => by omega, e1.trans e2, by simp, by simp, by simp, by simp⟩
  clear B2 H2 hin
  rintro m ⟨env, nn, dfs, C⟩ ⟨k, s, lm, S, R, hk, hk5, rfl, s1, s2, B, hS, hR, ex, r3, r9, r10, r11⟩
  simp only at s1 s2 B ex r3 r9 r10 r11
  subst s1; subst s2
  have w1 : IntKind.i64.wrap ((k : Int) + 1) = (k : Int) + 1 := IntWalk.i64_in _ (by omega)
  by_cases c1 : k < al.length
  · by_cases c2 : k < 50
    · obtain ⟨d, o, c, bs, ro, op, y1, y2, y3, y4⟩ := (hv.ext ex fun _ _ => id).elem2 c1
      have he : ((encs acc al).drop (k * 7)).take 7 = acc al[k] := encs_at (enc := acc) (sz := 7) (fun _ => rfl) al k c1
      rw [he] at y4
      have y3' : o + (k * 7 + 7) ≤ bs.length := by omega
      obtain ⟨a1, a2, a3, n, a4, a5⟩ := hal _ (List.getElem_mem c1)
      cases y1
      simp [r3, r9, r10, r11, c1, c2, show (k : Int) < 50 by omega, y2, y3', y4]
      refine alike_ok C i r h t s lm S R k al[k].w al[k].off al[k].x n al[k].s.data.toList _ B (by omega) a1 a2 a4 a5 a3 fun C2 s2 lm2 S2 R2 B2 e2 hS2 hR2 => ?_
      have zx := ex.size
      simp [r11, w1]
      exact ⟨50 - (k + 1), by omega, k + 1, s2, lm2, S2, R2, by omega, by omega, rfl, rfl, rfl, B2, fun j hj => (hS2 j hj).elim (hS j) fun z => by omega, fun j hj => (hR2 j hj).elim (hR j) fun z => by omega, ex.trans2 e2 fun j hj q => q.elim (fun z => by have := hS j z; omega) fun z => by have := hR j z; omega, by simp [r3], by simp [r9], by simp [r10], by simp⟩
    · simp [r3, r9, r10, r11, c1, show ¬ (k : Int) < 50 by omega]
  · simp [r3, r9, r10, r11, c1]
end Go.Proofs.Ytidgbapgedegbaa
