/- The reference's hole: texts, and skips. -/
import Derived.Test.YtidgbapgedegbaaJc
import Derived.KernelRfl
namespace Go.Proofs.Ytidgbapgedegbaa
open Go Go.AS
set_option maxRecDepth 100000
set_option linter.unusedSimpArgs false
set_option linter.unusedVariables false
attribute [local irreducible] Trie.set Trie.get Env.rd
attribute [local simp ↓] wV_b2s
attribute [local simp] Nat.add_assoc wD_cons'' wD_nil' wC_seq wC_ops wC_opsD_nil wC_cond wC_skip wC_ret wC_exit wC_block wO_cons' wO_nil wantedA wV_eq lop qop ev wL_some wL_none wPut envOf rd_set rd_leaf eqA thenC blockC wB_true wB_false endF unwindA resultsA resA tupleA rdCell rdCells wrCells cl fillP lay rep binA unA get_set' AHeap.get_alloc oneCell beqd bned idxA

theorem bcells_snoc' (l : List UInt8) (b : UInt8) : bcells (l ++ [b]) = bcells l ++ [.int .u8 (b.toNat : Nat)] := by simp [bcells, byt]
def textV (room base : Nat) (f : Bytes) (off n : Int) : Option (List UInt8) := if n < 0 ∨ off < base ∨ (room : Int) < n ∨ (base : Int) + room < off then none else gatherB f off n.toNat
def TeI (A : AHeap) (h : Nat) (f : Bytes) (off : Int) (n : Nat) (m : Nat) (st : St) : Prop := ∃ l v, l.length ≤ n ∧ Pre f off l ∧ m = n - l.length ∧ st.n = 71 ∧ st.dfs = [] ∧ SliceAt st.A 1 v l.length (bcells l) ∧ (∀ j, Own v j → A.size ≤ j) ∧ Ext NoB A st.A ∧
  (st.env.rd 0 = .pointer (some ⟨h, 0, none⟩) ∧ st.env.rd 1 = .int .i64 off ∧ st.env.rd 2 = .int .i64 (n : Nat) ∧ st.env.rd 8 = v ∧ st.env.rd 9 = .int .i64 (off + (l.length : Nat)))
set_option maxHeartbeats 1600000 in
theorem rtext_ok (A : AHeap) (h room base : Nat) (f : Bytes) (R : Nat → Prop) (off n : Int) (H : HAt A h room base f R) (hr : room ≤ 2048) (hb : base ≤ 2305843009213693952) (hdom : ∀ k b, f k = some b → (base : Int) ≤ k ∧ k < (base : Int) + room) (Q : Value → AHeap → Prop)
    (hq : ∀ A', Ext NoB A A' → Q (.tuple ⟨[.string ⟨⟨(textV room base f off n).getD []⟩⟩, .bool (textV room base f off n).isSome]⟩) A') :
    wF T (.func (.func 78) #[] #[]) [.pointer (some ⟨h, 0, none⟩), .int .i64 off, .int .i64 n] A Q := by
  have H0 := H
  obtain ⟨bv, h1, h2, h3, h4⟩ := H
  refine wF_func (first := []) (captured := []) t78 ⟨rfl, by decide⟩ ?_
  dsimp only [c78]
  have w1 : IntKind.i64.wrap ((base : Int) + (room : Int)) = (base : Int) + (room : Int) := IntWalk.i64_in _ (by omega)
  have hno : (n < 0 ∨ off < base ∨ (room : Int) < n ∨ (base : Int) + room < off) → Q (.tuple ⟨[.string ⟨⟨[]⟩⟩, .bool false]⟩) A := fun hn => by
    have := hq A Ext.refl
    unfold textV at this
    rw [if_pos hn] at this
    exact this
  by_cases o1 : n < 0
  · simp [o1]; exact hno (.inl o1)
  by_cases o2 : off < base
  · simp [o1, o2, h1]; exact hno (.inr (.inl o2))
  by_cases o3 : (room : Int) < n
  · simp [o1, o2, o3, h1]; exact hno (.inr (.inr (.inl o3)))
  by_cases o4 : (base : Int) + room < off
  · simp [o1, o2, o3, o4, h1, w1]; exact hno (.inr (.inr (.inr o4)))
  obtain ⟨N, rfl⟩ : ∃ N : Nat, n = N := ⟨n.toNat, by omega⟩
  have htv : textV room base f off N = gatherB f off N := by
    unfold textV
    rw [if_neg (by omega), Int.toNat_natCast]
  rw [htv] at hq
  clear hno
  simp [o1, o2, o3, o4, h1, w1]
  refine wC_loop_inv (TeI A h f off N) ?_ N _ ⟨[], .slice none 0 0, Nat.zero_le _, (fun i hi => by simp at hi), rfl, rfl, rfl, SliceAt.nil, (fun j ⟨_, _, _, q⟩ => by cases q), Ext.refl, by simp, by simp, by simp, by simp, by simp⟩
  rintro m ⟨env, nn, dfs, B⟩ ⟨l, v, hl, pre, rfl, s1, s2, sa, hov, ex, r0, r1, r2, r8, r9⟩
  simp only at s1 s2 sa ex r0 r1 r2 r8 r9
  subst s1; subst s2
  have w2 : IntKind.i64.wrap (off + (N : Int)) = off + (N : Int) := IntWalk.i64_in _ (by omega)
  have w3 : IntKind.i64.wrap (off + (l.length : Int) + 1) = off + (l.length : Int) + 1 := IntWalk.i64_in _ (by omega)
  by_cases c : l.length < N
  · have c' : off + (l.length : Int) < off + (N : Int) := by omega
    simp [r0, r1, r2, r9, w2, c']
    refine rhas_ok B h room base f R _ (H0.ext ex fun _ _ q => q) hr hb hdom _ ?_
    cases hf : f (off + (l.length : Int)) with
    | none =>
      simp
      have := hq B ex
      rw [gatherB_none f off N (fun q => by have := q l.length c; rw [hf] at this; cases this)] at this
      exact this
    | some b =>
      have hin := hdom _ _ hf
      obtain ⟨p, hp⟩ : ∃ p : Nat, off + (l.length : Int) = (base : Int) + (p : Int) := ⟨(off + (l.length : Int) - base).toNat, by omega⟩
      have hpr : p < room := by omega
      have wp : IntKind.i64.wrap (off + (l.length : Int) - (base : Int)) = (p : Int) := by rw [IntWalk.i64_in _ (by omega)]; omega
      obtain ⟨d, o, cc, bs, ro, op, y1, y2, y3⟩ := (h2.read.ext ex fun _ _ => id).cell hpr
      rw [hcl_at _ _ _ hpr, ← hp, hf] at y3
      have h1' := ex.get h1 id
      have wb : IntKind.u8.wrap (hv (some b)) = (b.toNat : Int) := by have := UInt8.toNat_lt b; exact IntWalk.u8_in _ (by simp only [hv]; omega)
      obtain ⟨v', A2, a1, a2, a3, a4⟩ := (sa.ext (Ext.alloc (A := B) (x := .cells [.int .u8 (b.toNat : Int)] false 0)) fun _ _ => id).append (x := .slice (some ⟨B.size, 0, none⟩) 1 1) (m := 1) (new := [.int .u8 (b.toNat : Int)]) (bytes := 1) (by decide) rfl (by simp [firstA, ENDCAP]) rfl rfl (by omega) (by decide) (fun q => by cases q)
      subst y1
      simp [r0, r1, r2, r8, r9, w2, c', h1', wp, hpr, y2, y3, wb, a1, w3]
      refine ⟨N - (l.length + 1), by omega, l ++ [b], v', by simp; omega, ?_, by simp, rfl, rfl, ?_, ?_, ?_, by simp [r0], by simp [r1], by simp [r2], by simp, by simp; omega⟩
      · intro i hi
        by_cases e : i < l.length
        · rw [List.getElem_append_left e]; exact pre i e
        · have : i = l.length := by simp at hi; omega
          subst this
          simp [hf]
      · rw [bcells_snoc', List.length_append]; exact a2
      · intro j hj
        rcases a4 j hj with q | q
        · exact hov j q
        · have := ex.size; simp at q; omega
      · exact (ex.trans Ext.alloc).trans2 a3 fun j hj q => by have := hov j q; omega
  · have hlN : l.length = N := by omega
    have hg := gatherB_pre f l off pre
    rw [hlN] at hg
    have hb2 := b2s_ok sa.read
    have := hq B ex
    rw [hg] at this
    obtain ⟨va, vc, rfl⟩ := sa.read.val
    simp [r1, r2, r8, r9, w2, hlN]
    rw [hlN] at hb2
    simp [hb2]
    exact this
set_option maxHeartbeats 1600000 in
theorem rskip_ok (A : AHeap) (h room base : Nat) (f : Bytes) (R : Nat → Prop) (n : Int) (H : HAt A h room base f R) (hr : room ≤ 2048) (hb : base ≤ 2305843009213693952) (hdom : ∀ k b, f k = some b → (base : Int) ≤ k ∧ k < (base : Int) + room) (hn : -9223372036854775808 ≤ n ∧ n < 9223372036854775808) (Q : Value → AHeap → Prop)
    (hq : ∀ A' w (to : Nat) R', (to : Int) = base + max 0 (min n (2305843009213693952 - base)) → HAt A' h room to (cutB f to) R' → Ext R A A' → (∀ j, R' j → R j ∨ (A.size ≤ j ∧ j < A'.size)) → Q w A') :
    wF T (.func (.func 117) #[] #[]) [.pointer (some ⟨h, 0, none⟩), .int .i64 n] A Q := by
  obtain ⟨bv, h1, h2, h3, h4⟩ := H
  refine wF_func (first := []) (captured := []) t117 ⟨rfl, by decide⟩ ?_
  dsimp only [c117]
  have w1 : IntKind.i64.wrap (2305843009213693952 - (base : Int)) = 2305843009213693952 - (base : Int) := IntWalk.i64_in _ (by omega)
  obtain ⟨N, hN⟩ : ∃ N : Nat, (N : Int) = max 0 (min n (2305843009213693952 - base)) := ⟨(max 0 (min n (2305843009213693952 - base))).toNat, by omega⟩
  obtain ⟨y, hy⟩ : ∃ y : Int, y = min n (2305843009213693952 - (base : Int)) := ⟨_, rfl⟩
  have m1 : foldV minV (.int .i64 n) [.int .i64 (2305843009213693952 - (base : Int))] = some (.int .i64 y) := by
    simp only [foldV, minV]; congr 2; omega
  have m2 : foldV maxV (.int .i64 0) [.int .i64 y] = some (.int .i64 (N : Int)) := by
    simp only [foldV, maxV]; congr 2; omega
  have m3 : foldV minV (.int .i64 (N : Int)) [.int .i64 (room : Int)] = some (.int .i64 ((min N room : Nat) : Int)) := by
    simp only [foldV, minV]; congr 2; omega
  obtain ⟨M, hM⟩ : ∃ M, M = min N room := ⟨_, rfl⟩
  rw [← hM] at m3
  simp [h1, w1, m1, m2]
  refine wC_opsD_chk ?_
  generalize hA1 : AHeap.alloc A (.cells [] false 0) = A1
  obtain ⟨g1, e1, z1⟩ := alloc_facts hA1
  have lh := AHeap.get_lt h1
  have h1' := e1.get h1 id
  have hMr : M ≤ room := by omega
  have sl0 : SliceAt A1 1 (.slice (some ⟨A.size, 0, none⟩) 0 0) 0 [] := .inr ⟨A.size, 0, 0, [], 0, rfl, g1, by simp, rfl, .inr (.inl ⟨rfl, by decide⟩)⟩
  obtain ⟨v1, f1, f2, f3⟩ := (h2.ext e1 fun _ _ => id).from (k1 := .i64) (l := M) (by decide) hMr
  have rf := SliceAt.read_from (v := bv) f2
  have all1 : ((hcl room base f).drop (M * 1)).all oneCell = true := by
    rw [List.all_eq_true]
    intro x hx
    have := List.mem_of_mem_drop hx
    simp only [hcl, List.mem_map] at this
    obtain ⟨i, _, rfl⟩ := this
    rfl
  obtain ⟨v2, A2, a1, a2, a3, a4⟩ := sl0.append (x := v1) (m := room - M) (new := (hcl room base f).drop (M * 1)) (bytes := 8) (by decide) rf.1 rf.2 all1 (by rw [List.length_drop, hcl_len]; omega) (by omega) (by decide) (fun _ => rfl)
  have nO : ¬ Own (.slice (some ⟨A.size, 0, none⟩) 0 0) h := fun ⟨_, _, _, q⟩ => by cases q; omega
  have h2' := a3.get h1' nO
  obtain ⟨v1a, v1c, rfl⟩ := f2.read.val
  simp [h1, m3, hA1, h1', f1, a1, h2']
  refine empty_ok A2 M (by omega) _ fun A3 v3 e3 hv3 ho3 => ?_
  have all2 : (List.replicate M (Value.int .i64 (-1))).all oneCell = true := by
    rw [List.all_eq_true]
    intro x hx
    rw [(List.mem_replicate.1 hx).2]; rfl
  have hf3 := hv3.read.firstA (Nat.le_refl M)
  rw [List.take_of_length_le (by simp)] at hf3
  obtain ⟨v4, A4, b1, b2, b3, b4⟩ := (a2.ext e3 fun _ _ => id).append (x := v3) (m := M) (new := List.replicate M (.int .i64 (-1))) (bytes := 8) (by decide) hv3.read.lenA hf3 all2 (by simp) (by omega) (by decide) (fun _ => rfl)
  have z2 := a3.size
  have z3 := e3.size
  have z4 := b3.size
  have o2 : ∀ j, Own v2 j → A.size ≤ j := fun j hj => by
    rcases a4 j hj with ⟨_, _, _, q⟩ | q
    · cases q; exact Nat.le_refl _
    · omega
  have o4 : ∀ j, Own v4 j → A.size ≤ j := fun j hj => by
    rcases b4 j hj with q | q
    · exact o2 j q
    · omega
  have h3' := e3.get h2' id
  have h4' := b3.get h3' fun q => by have := o2 h q; omega
  have lh4 := AHeap.get_lt h4'
  obtain ⟨v3a, v3c, rfl⟩ := hv3.read.val
  obtain ⟨v4a, v4c, hv4⟩ := b2.read.val
  have hv4' : v4 = .slice v4a room v4c := by rw [hv4]; congr 1; omega
  subst hv4'
  simp [b1, h4', lh4]
  refine wE_intro ?_ ?_
  · simp only [List.all_cons, List.all_nil, chkOk, List.nil_append, List.cons_append, List.getElem?_cons_succ, List.getElem?_cons_zero]
    simp [Bx, h1', h2', vbeq]
  have w2 : IntKind.i64.wrap ((base : Int) + (N : Int)) = ((base + N : Nat) : Int) := by rw [IntWalk.i64_in _ (by omega)]; omega
  simp [lh4, w2]
  generalize hA5 : AHeap.set (AHeap.set A4 h _) h _ = A5
  have g5 : A5.get h = some (.cells [.int .i64 (room : Int), .int .i64 ((base + N : Nat) : Int), .slice v4a room v4c] false 0) := by rw [← hA5]; simp [lh4]
  have e5 : Ext (fun j => j = h) A4 A5 := ⟨by rw [← hA5]; simp, fun j hj q => by rw [← hA5]; simp [show j ≠ h from q]⟩
  have z5 := e5.size
  have e05 : Ext (fun j => j = h) A A5 := ((((e1.trans2 a3 fun j hj ⟨_, _, _, q⟩ => by cases q; omega).trans e3).trans2 b3 fun j hj q => by have := o2 j q; omega).mono fun j _ q => q.elim).trans e5
  refine hq A5 _ (base + N) (fun j => R j ∨ (A.size ≤ j ∧ j < A5.size)) (by omega) ⟨_, g5, ?_, .inl h3, fun j hj => ⟨.inr ⟨o4 j hj, ?_⟩, fun q => ?_⟩⟩ (e05.mono fun j _ q => q ▸ h3) fun j hj => hj
  · have b2' := b2.ext e5 fun j hj q => by have := o4 j hj; omega
    have hsk := hcl_skip room base N f hdom
    rw [← hM] at hsk
    rw [List.nil_append, Nat.mul_one, hsk] at b2'
    rwa [show 0 + (room - M) + M = room by omega] at b2'
  · have := b2.own_lt hj; omega
  · have := o4 j hj; omega
end Go.Proofs.Ytidgbapgedegbaa
