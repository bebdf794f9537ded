/- Taking chunks. -/
import Derived.Test.YtidgbapgedegbaaDk
import Derived.KernelRfl
namespace Go.Proofs.Ytidgbapgedegbaa
open Go Go.AS
set_option maxRecDepth 100000
set_option linter.unusedSimpArgs false
set_option linter.unusedVariables false
attribute [local irreducible] Trie.set Trie.get Env.rd
attribute [local simp ↓] wV_b2s
attribute [local simp] Nat.add_assoc wD_cons'' wD_nil' wC_seq wC_ops wC_opsD_nil wC_cond wC_skip wC_ret wC_exit wC_block wO_cons' wO_nil wantedA wV_eq lop qop ev wL_some wL_none wPut envOf rd_set rd_leaf eqA thenC blockC wB_true wB_false endF unwindA resultsA resA tupleA rdCell rdCells wrCells cl fillP lay rep binA unA get_set' AHeap.get_alloc oneCell beqd bned idxA

theorem ck_sum {sums : Bool} {idsn : Int} {a : Nat} {c : Ck} (h : CkOk sums idsn a c) : ∃ n : Nat, c.m.sum = n ∧ n < 65536 := by
  have := h.2.2.2.2.2.2
  cases sums with
  | true => exact ⟨_, by rw [this, if_pos rfl], sum_lt _ _ _⟩
  | false => exact ⟨0, by rw [this]; rfl, by decide⟩
theorem right_in (s : IS) (h : ∀ m ∈ s.ms, ∃ n : Nat, m.sum = n ∧ n < 65536) : RightOk s (rtF s.idsn) := by
  intro _ m l A Q hm hl hq
  obtain ⟨n, h1, h2⟩ := h m hm
  obtain ⟨dn, hd1, hd2⟩ := u64_nat (IntKind.u64.wrap (s.idsn + 1) + IntKind.u64.wrap m.off)
  obtain ⟨sn, hs1, hs2⟩ := u32_nat (IntKind.i64.wrap (1 + m.at_))
  rw [hd1, hs1, h1]
  refine dright_ok A dn sn n m.len l hd2 hs2 h2 hl Q fun A' e => ?_
  have : rtF s.idsn m l = rightN dn sn m.len l n := by
    unfold rtF dsnF ssnF
    rw [hd1, hs1, h1]
  rw [← this]
  exact hq A' e
theorem inv_right {cs : List Ck} {k : Nat} {s : IS} (I : Inv cs k s) {sums : Bool} {idsn : Int} (h : Segs sums idsn 0 cs) : RightOk s (rtF s.idsn) := right_in s fun m hm => by
  obtain ⟨c, hc, _, q⟩ := I.hm m hm
  rw [q]
  exact ck_sum (segs_at h hc)
theorem eq_mp (a b : Mp) : eqL [(0, .i), (1, .i), (2, .i), (3, .i)] (mpc a) (mpc b) = some (a.beq b) := by
  simp [eqL, mpc, leafEq, Mp.beq]
theorem mp_beq (a : Mp) : a.beq a = true := (Mp.beq_iff a a).2 rfl
theorem mps_at (cs : List Ck) {k : Nat} (hk : k < cs.length) : ((encs mpc (cs.map (·.m))).drop (k * 4)).take 4 = mpc cs[k].m := by
  have := encs_at (enc := mpc) (sz := 4) (fun _ => rfl) (cs.map (·.m)) k (by simpa using hk)
  rw [this]; simp
theorem pos_le40 {sums : Bool} {idsn : Int} {cs : List Ck} (h : Segs sums idsn 0 cs) : ∀ {k : Nat}, k ≤ cs.length → pos cs k ≤ 40 * k
  | 0, _ => by simp [pos, size]
  | k + 1, hk => by
    have h1 := pos_le40 h (k := k) (by omega)
    have h2 := pos_succ (cs := cs) (k := k) (by omega)
    have h3 := (segs_at h (k := k) (by omega)).2.2.2.1
    omega
def TkI (A0 : AHeap) (i : Nat) (s0 : IS) (S : Nat → Prop) (cs : List Ck) (vm vt : Value) (k0 : Nat) (m : Nat) (st : St) : Prop := ∃ (k : Nat) (s : IS), m = cs.length - k ∧ st.n = 53 ∧ st.dfs = [] ∧ (st.env.rd 0 = .pointer (some ⟨i, 0, none⟩) ∧ st.env.rd 1 = vm ∧ st.env.rd 2 = vt ∧ st.env.rd 3 = .int .i64 k) ∧
  InAt st.A i s S ∧ Inv cs k s ∧ (s.room = s0.room ∧ s.sums = s0.sums ∧ s.idsn = s0.idsn) ∧ Ext S A0 st.A ∧ (k = k0 ∧ s = s0 ∨ k0 < k)

set_option maxHeartbeats 1600000 in
theorem taken_ok (A : AHeap) (i : Nat) (s0 : IS) (S : Nat → Prop) (cs : List Ck) (vm vt : Value) (k0 : Nat) (Q : Value → AHeap → Prop) (h : InAt A i s0 S) (I : Inv cs k0 s0) (seg : Segs s0.sums s0.idsn 0 cs) (hcl : cs.length < 100000)
    (hvm : ReadAt A 4 vm cs.length (encs mpc (cs.map (·.m)))) (hvt : ReadAt A 1 vt cs.length (strB (cs.map (·.t)))) (hom : ∀ j, Own vm j → ¬ S j) (hot : ∀ j, Own vt j → ¬ S j)
    (hq : ∀ A' k s, InAt A' i s S → Inv cs k s → (s.room = s0.room ∧ s.sums = s0.sums ∧ s.idsn = s0.idsn) → Ext S A A' → k0 ≤ k → ((nextV s0 (rtF s0.idsn)).1 = 1 → k0 < k) → Q (.tuple ⟨[.int .i64 (k : Nat), .bool true]⟩) A') :
    wF T (.func (.func 37) #[] #[]) [.pointer (some ⟨i, 0, none⟩), vm, vt, .int .i64 k0] A Q := by
  obtain ⟨ma, mc, rfl⟩ := hvm.val
  obtain ⟨ta, tc, rfl⟩ := hvt.val
  refine wF_func (first := []) (captured := []) u37 ⟨rfl, by decide⟩ ?_
  dsimp only [d37]
  simp
  refine wC_loop_inv (TkI A i s0 S cs (.slice ma cs.length mc) (.slice ta cs.length tc) k0) ?_ (cs.length - k0) _ ⟨k0, s0, rfl, rfl, rfl, ⟨by simp, by simp, by simp, by simp⟩, h, I, ⟨rfl, rfl, rfl⟩, Ext.refl, .inl ⟨rfl, rfl⟩⟩
  clear I h
  rintro m ⟨env, nn, dfs, B⟩ ⟨k, s, rfl, s1, s2, ⟨r0, r1, r2, r3⟩, h, I, same, ex, hk⟩
  simp only at s1 s2 r0 r1 r2 r3 h ex
  subst s1; subst s2
  have seg' : Segs s.sums s.idsn 0 cs := by rw [same.2.1, same.2.2]; exact seg
  simp [r0]
  refine inext_ok B i s S (rtF s.idsn) _ h (inv_right I seg') fun B1 e1 => ?_
  have h1 := h.extN e1
  have hm1 := (hvm.ext ex hom).ext e1 fun _ _ => id
  have ht1 := (hvt.ext ex hot).ext e1 fun _ _ => id
  rcases I.next seg' with hn | ⟨hkl, hn⟩
  · have hlay : ∀ m : Mp, lay [.int .i64 0, .int .i64 0, .int .i64 0, .int .u16 0] 0 (mpc m) = mpc m := fun _ => rfl
    have hone : ∀ m : Mp, (mpc m).all oneCell = true := fun _ => rfl
    simp [hn, r3, mpc_len, hlay, hone]
    generalize hB2 : AHeap.set (AHeap.alloc B1 _) B1.size _ = B2
    have e2 : Ext NoB B1 B2 := by rw [← hB2]; exact ⟨by simp, fun b hb _ => by simp [show b ≠ B1.size by omega]⟩
    clear hB2
    refine hq B2 k s (h1.extN e2) I same (ex.trans ((e1.trans e2).mono fun _ _ q => q.elim)) (by rcases hk with q | q <;> omega) fun q => ?_
    rcases hk with ⟨z1, z2⟩ | z
    · rw [← z2, hn] at q; cases q
    · exact z
  · obtain ⟨d1, o1, c1, bs1, ro1, op1, y1, y2, y3, y4⟩ := hm1.elem2 hkl
    cases y1
    rw [mps_at cs hkl] at y4
    obtain ⟨d2, o2, c2, bs2, ro2, op2, x1, x2, x3⟩ := ht1.cell hkl
    cases x1
    rw [strB_at, List.getElem?_map, List.getElem?_eq_getElem hkl] at x3
    have lh := h1.lt
    have y3' : o1 + (k * 4 + 4) ≤ bs1.length := by omega
    have ly := AHeap.get_lt y2
    have lx := AHeap.get_lt x2
    have w2 : IntKind.i64.wrap ((k : Int) + 1) = ((k + 1 : Nat) : Int) := IntWalk.i64_in _ (by omega)
    have hlay : ∀ m : Mp, lay [.int .i64 0, .int .i64 0, .int .i64 0, .int .u16 0] 0 (mpc m) = mpc m := fun _ => rfl
    have hone : ∀ m : Mp, (mpc m).all oneCell = true := fun _ => rfl
    have htake : ∀ m : Mp, (mpc m).take 4 = mpc m := fun _ => rfl
    have h2 : ∀ m : Mp, (mpc m)[2]? = some (.int .i64 m.len) := fun _ => rfl
    simp [hn, r0, r1, r2, r3, mpc_len, hlay, hone, hkl, show ¬ cs.length ≤ k by omega, show (k : Int) < (cs.length : Int) by omega, y2, y3', y4, x2, x3, eq_mp, mp_beq, htake, h2, show d1 ≠ B1.size by omega, show d2 ≠ B1.size by omega]
    generalize hB2 : AHeap.set (AHeap.alloc B1 _) B1.size _ = B2
    have e2 : Ext NoB B1 B2 := by rw [← hB2]; exact ⟨by simp, fun b hb _ => by simp [show b ≠ B1.size by omega]⟩
    clear hB2
    have ck := segs_at seg' hkl
    have hbig : s.base ≤ 2305843009213693952 - 40 := by
      have := pos_le40 seg' (k := k) (by omega)
      rw [I.base]; omega
    refine iskip_ok B2 i s S _ cs[k].m.len (h1.extN e2) fun B3 w to hto h3 e3 => ?_
    have hto' : to = s.base + (cs[k]).t.length := by
      have := ck.2.1
      have := ck.2.2.2.1
      omega
    simp [r3]
    exact ⟨cs.length - (k + 1), by omega, k + 1, skipS s to, rfl, rfl, rfl, ⟨by simp [r0], by simp [r1], by simp [r2], by simpa using w2⟩, h3, I.skip seg' hkl hto', same, ex.trans (((e1.trans e2).mono fun _ _ q => q.elim).trans e3), .inr (by rcases hk with q | q <;> omega)⟩
end Go.Proofs.Ytidgbapgedegbaa
