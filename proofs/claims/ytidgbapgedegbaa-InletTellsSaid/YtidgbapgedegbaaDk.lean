/- chunks, and taking them. -/
import Derived.Test.YtidgbapgedegbaaDj
import Derived.KernelRfl
namespace Go.Proofs.Ytidgbapgedegbaa
open Go Go.AS
set_option maxRecDepth 100000
set_option linter.unusedSimpArgs false
set_option linter.unusedVariables false
attribute [local irreducible] Trie.set Trie.get Env.rd
attribute [local simp ↓] wV_b2s
attribute [local simp] Nat.add_assoc wD_cons'' wD_nil' wC_seq wC_ops wC_opsD_nil wC_cond wC_skip wC_ret wC_exit wC_block wO_cons' wO_nil wantedA wV_eq lop qop ev wL_some wL_none wPut envOf rd_set rd_leaf eqA thenC blockC wB_true wB_false endF unwindA resultsA resA tupleA rdCell rdCells wrCells cl fillP lay rep binA unA get_set' AHeap.get_alloc oneCell beqd bned idxA

theorem size_flat (cs : List Ck) : (cs.flatMap (·.t)).length = size cs := by simp [size, List.length_flatMap]
theorem size_ge {sums : Bool} {idsn : Int} : ∀ {a : Nat} {cs : List Ck}, Segs sums idsn a cs → cs.length ≤ size cs
  | _, [], _ => by simp [size]
  | a, c :: l, h => by
    have := size_ge h.2
    have := h.1.2.2.1
    simp only [size, List.map_cons, List.sum_cons, List.length_cons] at *
    omega
def CkI (A0 : AHeap) (q1 : Nat) (s0 s : List UInt8) (bv : Value) (idsn : Int) (sums : Bool) (m : Nat) (st : St) : Prop := ∃ (cs : List Ck) (vm vt : Value), m = s.length - size cs ∧ size cs ≤ s.length ∧ st.n = 94 ∧ st.dfs = [] ∧ Segs sums idsn 0 cs ∧ cs.flatMap (·.t) = s.take (size cs) ∧
  ChF A0 q1 [.string ⟨⟨s0⟩⟩, bv, .int .u64 idsn, .bool sums] vm vt cs st.A ∧
  st.env.rd 1 = .pointer (some ⟨q1, 0, none⟩) ∧ st.env.rd 4 = .string ⟨⟨s⟩⟩ ∧ st.env.rd 5 = vm ∧ st.env.rd 6 = vt ∧ st.env.rd 7 = .int .i64 (size cs : Nat) ∧ st.env.rd 8 = .int .i64 cs.length
theorem min600 (n : Nat) : (if (600 : Int) < (n : Int) then (600 : Int) else (n : Int)) = ((min n 600 : Nat) : Int) := by split <;> omega
theorem tmod_lt (k n : Nat) (hn : 0 < n) : ∃ j : Nat, (k : Int).tmod (n : Int) = j ∧ j < n := by
  have h1 := Int.tmod_nonneg (b := (n : Int)) (show (0 : Int) ≤ (k : Int) by omega)
  have h2 := Int.tmod_lt_of_pos (k : Int) (show (0 : Int) < (n : Int) by omega)
  exact ⟨((k : Int).tmod (n : Int)).toNat, by omega, by omega⟩

set_option maxHeartbeats 1600000 in
theorem chunks_ok (A : AHeap) (s0 : List UInt8) (bv : Value) (bl : List Int) (idsn : Int) (sums : Bool) (Q : Value → AHeap → Prop) (hb : ∀ x ∈ bl, 0 ≤ x ∧ x < 256) (hbv : ReadAt A 1 bv bl.length (ucells bl))
    (hq : ∀ A' vm vt cs, Ext NoB A A' → Segs sums idsn 0 cs → cs.flatMap (·.t) = s0.take 600 → SliceAt A' 4 vm cs.length (encs mpc (cs.map (·.m))) → SliceAt A' 1 vt cs.length (strB (cs.map (·.t))) → Q (.tuple ⟨[vm, vt]⟩) A') :
    wF T (.func (.func 36) #[] #[]) [.agg ⟨[.string ⟨⟨s0⟩⟩, bv, .int .u64 idsn, .bool sums]⟩] A Q := by
  obtain ⟨ba, bc, rfl⟩ := hbv.val
  have hsl := sl_to s0 .i64 (min s0.length 600) (Nat.min_le_left _ _)
  have ht : s0.take (min s0.length 600) = s0.take 600 := by
    by_cases h : s0.length ≤ 600
    · rw [Nat.min_eq_left h, List.take_of_length_le (Nat.le_refl _), List.take_of_length_le h]
    · rw [Nat.min_eq_right (by omega)]
  rw [ht] at hsl
  have hs6 : (s0.take 600).length ≤ 600 := by rw [List.length_take]; omega
  have m6 := min600 s0.length
  generalize hM : min s0.length 600 = M at hsl m6
  generalize hS : s0.take 600 = s at hsl hs6 hq
  refine wF_func (first := []) (captured := []) u36 ⟨rfl, by decide⟩ ?_
  dsimp only [d36]
  have m6' : (if 600 < s0.length then (600 : Int) else (s0.length : Int)) = (M : Int) := by rw [← m6]; split <;> split <;> omega
  simp [foldV, minV, m6, m6', hsl]
  generalize hA1 : A.alloc _ = A1
  have e1 : Ext NoB A A1 := by rw [← hA1]; exact Ext.alloc
  have g1 : A1.get A.size = some (.cells [.string ⟨⟨s0⟩⟩, .slice ba bl.length bc, .int .u64 idsn, .bool sums] false 0) := by rw [← hA1]; simp
  clear hA1
  refine wC_loop_inv (CkI A A.size s0 s (.slice ba bl.length bc) idsn sums) ?_ s.length _ ⟨[], .slice none 0 0, .slice none 0 0, by simp [size], by simp [size], rfl, rfl, trivial, by simp [size], ⟨g1, SliceAt.nil, SliceAt.nil, (fun j ⟨_, _, _, q⟩ => by cases q), (fun j ⟨_, _, _, q⟩ => by cases q), (fun j ⟨_, _, _, q⟩ => by cases q), e1, Nat.le_refl _⟩, by simp, by simp, by simp, by simp, by simp [size], by simp⟩
  clear g1 e1
  rintro m ⟨env, nn, dfs, B⟩ ⟨cs, vm, vt, rfl, hsz, s1, s2, seg, hflat, F, r1, r4, r5, r6, r7, r8⟩
  simp only at s1 s2 F r1 r4 r5 r6 r7 r8
  subst s1; subst s2
  have gq := F.gq
  have hge := size_ge seg
  by_cases c : size cs < s.length
  · have w2 : IntKind.i64.wrap ((cs.length : Int) + 1) = ((cs.length + 1 : Nat) : Int) := IntWalk.i64_in _ (by omega)
    have tail : ∀ (n0 : Nat) (env' : Env) (K : AExit → St → Prop), 1 ≤ n0 ∧ n0 ≤ 40 → env'.rd 1 = .pointer (some ⟨A.size, 0, none⟩) → env'.rd 4 = .string ⟨⟨s⟩⟩ → env'.rd 5 = vm → env'.rd 6 = vt → env'.rd 7 = .int .i64 (size cs : Nat) → env'.rd 8 = .int .i64 cs.length → env'.rd 9 = .int .i64 n0 →
        (∀ env'' A', (∀ env3 : Env, env3.rd 1 = env''.rd 1 → env3.rd 4 = env''.rd 4 → env3.rd 5 = env''.rd 5 → env3.rd 6 = env''.rd 6 → env3.rd 7 = env''.rd 7 → env3.rd 8 = .int .i64 ((cs.length + 1 : Nat) : Int) → ∃ m', m' < s.length - size cs ∧ CkI A A.size s0 s (.slice ba bl.length bc) idsn sums m' { env := env3, n := 94, dfs := [], A := A' }) → env''.rd 8 = .int .i64 cs.length → K .normal { env := env'', n := 94, dfs := [], A := A' }) → wC T 36 none d36t { env := env', n := 94, dfs := [], A := B } K := by
      intro n0 env' K hn t1 t4 t5 t6 t7 t8 t9 hK
      refine chunk_t A B A.size (size cs) cs.length n0 s0 s _ idsn sums vm vt cs env' K F (by omega) (by omega) hn c hs6 t1 t4 t5 t6 t7 t8 t9 fun env'' A' vm' vt' c' ck ct F' v1 v4 v5 v6 v7 v8 => ?_
      refine hK env'' A' (fun env3 z1 z4 z5 z6 z7 z8 => ?_) v8
      have hl : c'.t.length = min n0 (s.length - size cs) := by rw [ct, List.length_take, List.length_drop]; omega
      have hsz' : size (cs ++ [c']) = size cs + min n0 (s.length - size cs) := by rw [size_append]; simp [size, hl]
      refine ⟨s.length - size (cs ++ [c']), by omega, cs ++ [c'], vm', vt', rfl, by omega, rfl, rfl, segs_append.2 ⟨seg, by rw [Nat.zero_add]; exact ⟨ck, trivial⟩⟩, ?_, F', by rw [z1, v1], by rw [z4, v4], by rw [z5, v5], by rw [z6, v6], by rw [z7, v7, hsz'], by rw [z8]; simp⟩
      rw [List.flatMap_append, hflat, hsz', List.take_add]
      simp [ct]
    by_cases cb : 0 < bl.length
    · obtain ⟨j, hj, hj2⟩ := tmod_lt cs.length bl.length cb
      obtain ⟨bd, bo, bcc, bbs, bro, bopn, y1, y2, y3⟩ := (hbv.ext F.ex fun _ _ => id).cell hj2
      cases y1
      have hx := hb bl[j] (List.getElem_mem hj2)
      have y3' : bbs[bo + j]? = some (.int .u8 bl[j]) := by rw [y3, ucells, List.getElem?_map, List.getElem?_eq_getElem hj2]; rfl
      have h1 := Int.tmod_nonneg (b := 40) hx.1
      have h2 := Int.tmod_lt_of_pos bl[j] (show (0 : Int) < 40 by decide)
      have wx : IntKind.i64.wrap (bl[j].tmod 40) = bl[j].tmod 40 := IntWalk.i64_in _ (by omega)
      have wy : IntKind.i64.wrap (1 + bl[j].tmod 40) = (((1 + bl[j].tmod 40).toNat : Nat) : Int) := by rw [IntWalk.i64_in _ (by omega)]; omega
      simp [r1, r4, r7, r8, c, gq, cb, hj, hj2, y2, y3', wx, wy, show ¬ bl.length = 0 by omega]
      refine tail (1 + bl[j].tmod 40).toNat _ _ (by omega) (by simp [r1]) (by simp [r4]) (by simp [r5]) (by simp [r6]) (by simp [r7]) (by simp [r8]) (by simp) fun env'' A' hK v8 => ?_
      simp [v8]
      exact hK _ (by simp) (by simp) (by simp) (by simp) (by simp) (by simpa using w2)
    · simp [r1, r4, r7, r8, c, gq, cb]
      refine tail 40 _ _ (by omega) (by simp [r1]) (by simp [r4]) (by simp [r5]) (by simp [r6]) (by simp [r7]) (by simp [r8]) (by simp) fun env'' A' hK v8 => ?_
      simp [v8]
      exact hK _ (by simp) (by simp) (by simp) (by simp) (by simp) (by simpa using w2)
  · have : size cs = s.length := by omega
    rw [this, List.take_of_length_le (Nat.le_refl _)] at hflat
    simp [r4, r5, r6, r7, c]
    exact hq B vm vt cs F.ex seg hflat F.sm F.st
end Go.Proofs.Ytidgbapgedegbaa
