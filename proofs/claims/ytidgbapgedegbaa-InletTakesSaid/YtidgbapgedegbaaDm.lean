/- InletTakes: one segment. -/
import Derived.Test.YtidgbapgedegbaaDl
import Derived.KernelRfl
namespace Go.Proofs.Ytidgbapgedegbaa
open Go Go.AS
set_option maxRecDepth 100000
set_option linter.unusedSimpArgs false
set_option linter.unusedVariables false
attribute [local irreducible] Trie.set Trie.get Env.rd
attribute [local simp ↓] wV_b2s
attribute [local simp] Nat.add_assoc wD_cons'' wD_nil' wC_seq wC_ops wC_opsD_nil wC_cond wC_skip wC_ret wC_exit wC_block wO_cons' wO_nil wantedA wV_eq lop qop ev wL_some wL_none wPut envOf rd_set rd_leaf eqA thenC blockC wB_true wB_false endF unwindA resultsA resA tupleA rdCell rdCells wrCells cl fillP lay rep binA unA get_set' AHeap.get_alloc oneCell beqd bned idxA

theorem next_some {s : IS} {rt : Mp → List UInt8 → Bool} {m : Mp} (hm : findM s.ms s.base = some m) (hl : ∀ i : Nat, i < m.len.toNat → (s.f (s.base + i)).isSome = true) : (nextV s rt).1 ≠ 0 := by
  have key : ∀ (n : Nat) (off : Int), (∀ i : Nat, i < n → (s.f (off + i)).isSome = true) → ∃ l, gatherB s.f off n = some l := by
    intro n
    induction n with
    | zero => intro off _; exact ⟨[], rfl⟩
    | succ n ih =>
      intro off ho
      obtain ⟨b, hb⟩ := Option.isSome_iff_exists.1 (by simpa using ho 0 (by omega))
      obtain ⟨l, hl⟩ := ih (off + 1) fun i hi => by
        have := ho (i + 1) (by omega)
        rwa [show off + ((i + 1 : Nat) : Int) = off + 1 + (i : Int) by omega] at this
      exact ⟨b :: l, by simp only [gatherB, hb, hl]⟩
  obtain ⟨l, hg⟩ := key _ _ hl
  unfold nextV
  simp only [hm, hg]
  split <;> simp
theorem find_own {cs : List Ck} {k : Nat} {s : IS} (I : Inv cs k s) {sums : Bool} {idsn : Int} (h : Segs sums idsn 0 cs) (hk : k < cs.length) (hm : cs[k].m ∈ s.ms) : findM s.ms s.base = some cs[k].m := by
  cases hf : findM s.ms s.base with
  | none =>
    have := findM_none hf _ hm
    rw [(segs_at h hk).1, I.base] at this
    exact absurd rfl this
  | some m =>
    obtain ⟨q1, q2⟩ := findM_mem hf
    obtain ⟨c, hc, _, q3⟩ := I.hm m q1
    have e : pos cs c + 0 = pos cs k + 0 := by
      have := (segs_at h hc).1
      rw [← q3, q2, I.base] at this
      omega
    have := (place_in h hc hk (by have := (segs_at h hc).2.2.1; omega) (by have := (segs_at h hk).2.2.1; omega) e).1
    subst this
    rw [q3]
structure Kept (s s' : IS) : Prop where
  room : s'.room = s.room
  sums : s'.sums = s.sums
  idsn : s'.idsn = s.idsn

set_option maxHeartbeats 1600000 in
theorem takes_n (A : AHeap) (i : Nat) (s : IS) (S : Nat → Prop) (cs : List Ck) (vm vt : Value) (k c a b : Nat) (env : Env) (Q : AExit → St → Prop) (h : InAt A i s S) (I : Inv cs k s) (seg : Segs s.sums s.idsn 0 cs) (hcl : cs.length < 100000) (hr : 40 ≤ s.room) (hc : c < cs.length) (hab : a ≤ b) (hb : b ≤ (cs[c]).t.length)
    (hin : s.base ≤ pos cs c → pos cs c < s.base + s.room → cs[c].m ∈ s.ms) (hvm : ReadAt A 4 vm cs.length (encs mpc (cs.map (·.m)))) (hvt : ReadAt A 1 vt cs.length (strB (cs.map (·.t)))) (hom : ∀ j, Own vm j → ¬ S j) (hot : ∀ j, Own vt j → ¬ S j)
    (r7 : env.rd 7 = vm) (r8 : env.rd 8 = vt) (r9 : env.rd 9 = .pointer (some ⟨i, 0, none⟩)) (r10 : env.rd 10 = .int .i64 k) (r13 : env.rd 13 = .int .i64 c) (r14 : env.rd 14 = .int .i64 a) (r15 : env.rd 15 = .int .i64 b)
    (hq : ∀ env' A' k' s', InAt A' i s' S → Inv cs k' s' → Kept s s' → Ext S A A' → k ≤ k' → (c = k → a = 0 → b = (cs[c]).t.length → k < k') → env'.rd 2 = env.rd 2 → env'.rd 3 = env.rd 3 → env'.rd 7 = env.rd 7 → env'.rd 8 = env.rd 8 → env'.rd 9 = env.rd 9 → env'.rd 12 = env.rd 12 → env'.rd 10 = .int .i64 k' → env'.rd 11 = .bool true → Q .normal { env := env', n := 148, dfs := [], A := A' }) :
    wC T 9 none d9n { env := env, n := 148, dfs := [], A := A } Q := by
  have ck := segs_at seg hc
  have hp := pos_le40 seg (k := c) (by omega)
  obtain ⟨d1, o1, c1, bs1, ro1, op1, y1, y2, y3, y4⟩ := hvm.elem2 hc
  rw [mps_at cs hc] at y4
  obtain ⟨d2, o2, c2, bs2, ro2, op2, x1, x2, x3⟩ := hvt.cell hc
  rw [strB_at, List.getElem?_map, List.getElem?_eq_getElem hc] at x3
  have g0 : bs1[o1 + c * 4]? = some (.int .i64 cs[c].m.at_) := by
    have h := congrArg (fun z => z[0]?) y4
    simpa [mpc] using h
  have hsl := sl_mid (cs[c]).t .i64 .i64 a b hab hb
  have h40' := ck.2.2.2.1
  have wi : IntKind.i64.wrap (cs[c].m.at_ + (a : Int)) = (pos cs c : Int) + (a : Int) := by
    rw [ck.1, IntWalk.i64_in _ (by omega)]
  subst y1
  subst x1
  unfold d9n
  simp [r7, r8, r9, r10, r13, r14, r15, hc, y2, x2, x3, g0, wi, hsl]
  have htl : (((cs[c]).t.drop a).take (b - a)).length < 1000000 := by rw [List.length_take, List.length_drop]; have := ck.2.2.2.1; omega
  refine iput_ok A i s S _ _ _ htl (by omega) h fun A1 h1 e1 => ?_
  have I1 := I.put seg hc hin a b hab hb
  rw [show ((pos cs c + a : Nat) : Int) = (pos cs c : Int) + (a : Int) from Int.natCast_add _ _] at I1
  simp [r7, r8, r9, r10]
  refine taken_ok A1 i _ S cs _ _ k _ h1 I1 seg hcl (hvm.ext e1 hom) (hvt.ext e1 hot) hom hot fun A2 k' s' h2 I2 same e2 hk hprog => ?_
  simp
  refine hq _ A2 k' s' h2 I2 ⟨same.1, same.2.1, same.2.2⟩ (e1.trans e2) hk (fun z1 z2 z3 => hprog ?_) ?_ ?_ ?_ ?_ ?_ ?_ ?_ ?_
  · subst z1
    subst z2
    have hmem := hin (by rw [I.base]; exact Nat.le_refl _) (by rw [I.base]; omega)
    have hf := find_own I1 seg hc hmem
    rcases I1.next seg with q | ⟨_, q⟩
    · exfalso
      refine next_some hf (fun j hj => ?_) q
      have hlen : cs[c].m.len.toNat = (cs[c]).t.length := by rw [ck.2.1]; simp
      simp only [putB]
      cases hfx : s.f (s.base + j) with
      | some z => simp
      | none =>
        simp only
        have hb1 := I.base
        have h40 := ck.2.2.2.1
        rw [if_pos (by omega)]
        rw [show ((s.base : Int) + (j : Int) - ((pos cs c : Int) + ((0 : Nat) : Int))).toNat = j by omega, z3, List.drop_zero, Nat.sub_zero, List.take_of_length_le (Nat.le_refl _), List.getElem?_eq_getElem (by omega)]
        rfl
    · rw [q]
  · simp
  · simp
  · simp
  · simp
  · simp
  · simp
  · simp
  · simp

set_option maxHeartbeats 1600000 in
theorem takes_m (A : AHeap) (i : Nat) (s : IS) (S : Nat → Prop) (cs : List Ck) (vm vt : Value) (k c a b : Nat) (env : Env) (Q : AExit → St → Prop) (h : InAt A i s S) (I : Inv cs k s) (seg : Segs s.sums s.idsn 0 cs) (hcl : cs.length < 100000) (hr : 40 ≤ s.room) (hc : c < cs.length) (hab : a ≤ b) (hb : b ≤ (cs[c]).t.length)
    (hvm : ReadAt A 4 vm cs.length (encs mpc (cs.map (·.m)))) (hvt : ReadAt A 1 vt cs.length (strB (cs.map (·.t)))) (hom : ∀ j, Own vm j → ¬ S j) (hot : ∀ j, Own vt j → ¬ S j) (homl : ∀ j, Own vm j → j < A.size) (hotl : ∀ j, Own vt j → j < A.size)
    (r7 : env.rd 7 = vm) (r8 : env.rd 8 = vt) (r9 : env.rd 9 = .pointer (some ⟨i, 0, none⟩)) (r10 : env.rd 10 = .int .i64 k) (r13 : env.rd 13 = .int .i64 c) (r14 : env.rd 14 = .int .i64 a) (r15 : env.rd 15 = .int .i64 b)
    (hq : ∀ env' A' k' s' S', InAt A' i s' S' → (∀ j, S' j → S j ∨ A.size ≤ j) → Inv cs k' s' → Kept s s' → Ext S A A' → k ≤ k' → (c = k → a = 0 → b = (cs[c]).t.length → k < k') → env'.rd 2 = env.rd 2 → env'.rd 3 = env.rd 3 → env'.rd 7 = env.rd 7 → env'.rd 8 = env.rd 8 → env'.rd 9 = env.rd 9 → env'.rd 12 = env.rd 12 → env'.rd 10 = .int .i64 k' → env'.rd 11 = .bool true → Q .normal { env := env', n := 148, dfs := [], A := A' }) :
    wC T 9 none d9m { env := env, n := 148, dfs := [], A := A } Q := by
  have ck := segs_at seg hc
  have hp := pos_le40 seg (k := c) (by omega)
  obtain ⟨d1, o1, c1, bs1, ro1, op1, y1, y2, y3, y4⟩ := hvm.elem2 hc
  rw [mps_at cs hc] at y4
  have y3' : o1 + (c * 4 + 4) ≤ bs1.length := by omega
  subst y1
  unfold d9m
  simp [r7, r9, r13, hc, y2, y3', y4]
  refine imap_ok A i s S _ cs[c].m (by have := ck.1; omega) h (fun A1 hno e1 => ?_) fun A1 p S1 hp1 hp2 hp3 h1 e1 hS => ?_
  · simp
    refine takes_n A1 i s S cs _ vt k c a b _ _ (h.extN e1) I seg hcl hr hc hab hb (fun z1 z2 => I.there seg hc hr z1 z2 hno) (hvm.ext e1 fun _ _ => id) (hvt.ext e1 fun _ _ => id) hom hot (by simp [r7]) (by simp [r8]) (by simp [r9]) (by simp [r10]) (by simp [r13]) (by simp [r14]) (by simp [r15]) fun env' A' k' s' h2 I2 kp e2 hk hpr t2 t3 t7 t8 t9 t12 t10 t11 => ?_
    exact hq env' A' k' s' S h2 (fun j hj => .inl hj) I2 kp ((e1.mono fun _ _ q => q.elim).trans e2) hk hpr (by simpa using t2) (by simpa using t3) (by simpa using t7) (by simpa using t8) (by simpa using t9) (by simpa using t12) t10 t11
  · simp
    have I1 := I.map seg hc (p := p) hp1
    refine takes_n A1 i _ S1 cs _ vt k c a b _ _ h1 I1 seg hcl hr hc hab hb (fun z1 z2 => mem_ins.2 (.inl rfl)) (hvm.ext e1 hom) (hvt.ext e1 hot) (fun j hj q => ?_) (fun j hj q => ?_) (by simp [r7]) (by simp [r8]) (by simp [r9]) (by simp [r10]) (by simp [r13]) (by simp [r14]) (by simp [r15]) fun env' A' k' s' h2 I2 kp e2 hk hpr t2 t3 t7 t8 t9 t12 t10 t11 => ?_
    · rcases hS j q with z | z
      · exact hom j hj z
      · have := homl j hj; omega
    · rcases hS j q with z | z
      · exact hot j hj z
      · have := hotl j hj; omega
    · exact hq env' A' k' s' S1 h2 (fun j hj => (hS j hj).imp id fun z => z.1) I2 ⟨kp.room, kp.sums, kp.idsn⟩ (e1.trans2 e2 fun j hj q => (hS j q).elim id fun z => by omega) hk hpr (by simpa using t2) (by simpa using t3) (by simpa using t7) (by simpa using t8) (by simpa using t9) (by simpa using t12) t10 t11
end Go.Proofs.Ytidgbapgedegbaa
