/- InletSpoilt: all comes. -/
import Derived.Test.YtidgbapgedegbaaDt
import Derived.KernelRfl
namespace Go.Proofs.Ytidgbapgedegbaa
open Go Go.AS
set_option maxRecDepth 100000
set_option linter.unusedSimpArgs false
set_option linter.unusedVariables false
attribute [local irreducible] Trie.set Trie.get Env.rd
attribute [local simp ↓] wV_b2s
attribute [local simp] Nat.add_assoc wD_cons'' wD_nil' wC_seq wC_ops wC_opsD_nil wC_cond wC_skip wC_ret wC_exit wC_block wO_cons' wO_nil wantedA wV_eq lop qop ev wL_some wL_none wPut envOf rd_set rd_leaf eqA thenC blockC wB_true wB_false endF unwindA resultsA resA tupleA rdCell rdCells wrCells cl fillP lay rep binA unA get_set' AHeap.get_alloc oneCell beqd bned idxA

def SlI (A1 : AHeap) (S1 : Nat → Prop) (i : Nat) (cs : List Ck) (tx : List (List UInt8)) (pr : Nat → Bool) (sums : Bool) (idsn : Int) (env0 : Env) (m : Nat) (st : St) : Prop := ∃ j, j ≤ cs.length ∧ m = cs.length - j ∧ st.n = 178 ∧ st.dfs = [] ∧
  (st.env.rd 3 = env0.rd 3 ∧ st.env.rd 4 = env0.rd 4 ∧ st.env.rd 9 = env0.rd 9 ∧ st.env.rd 10 = env0.rd 10 ∧ st.env.rd 11 = env0.rd 11 ∧ st.env.rd 12 = env0.rd 12 ∧ st.env.rd 13 = env0.rd 13 ∧ st.env.rd 14 = .int .i64 j) ∧ SpF A1 S1 i cs tx pr sums idsn 0 j j st.A
set_option maxHeartbeats 3200000 in
theorem sp_l (A1 : AHeap) (S1 : Nat → Prop) (i : Nat) (cs : List Ck) (tx : List (List UInt8)) (pr : Nat → Bool) (sums : Bool) (idsn : Int) (c : Nat) (bare : Bool) (vm vt vs : Value) (sp : List UInt8) (env : Env) (K : AExit → St → Prop)
    (h : SpF A1 S1 i cs tx pr sums idsn 0 0 0 A1) (seg : Segs sums idsn 0 cs) (X : Tx cs tx) (hcs : pos cs cs.length ≤ 2048) (hcl : cs.length ≤ 600) (hc : c < cs.length) (hpr : ∀ j, pr j = (!(decide (j = c)) || !bare))
    (htx : ∀ j (hj : j < cs.length), tx[j]'(by rw [X.len]; exact hj) = if j = c ∧ bare = false then sp else cs[j].t)
    (hvm : ReadAt A1 4 vm cs.length (encs mpc (cs.map (·.m)))) (hvt : ReadAt A1 1 vt cs.length (strB (cs.map (·.t)))) (hvs : ReadAt A1 1 vs sp.length (bcells sp)) (hom : ∀ j, Own vm j → ¬ S1 j) (hot : ∀ j, Own vt j → ¬ S1 j) (hos : ∀ j, Own vs j → ¬ S1 j)
    (r3 : env.rd 3 = .bool bare) (r9 : env.rd 9 = vm) (r10 : env.rd 10 = vt) (r11 : env.rd 11 = .pointer (some ⟨i, 0, none⟩)) (r12 : env.rd 12 = .int .i64 c) (r13 : env.rd 13 = vs)
    (hq : ∀ env' A', SpF A1 S1 i cs tx pr sums idsn 0 cs.length cs.length A' → env'.rd 3 = env.rd 3 → env'.rd 4 = env.rd 4 → env'.rd 9 = env.rd 9 → env'.rd 10 = env.rd 10 → env'.rd 11 = env.rd 11 → env'.rd 12 = env.rd 12 → env'.rd 13 = env.rd 13 → K .normal { env := env', n := 178, dfs := [], A := A' }) :
    wC T 10 none d10l { env := env, n := 178, dfs := [], A := A1 } K := by
  obtain ⟨ma, mc, rfl⟩ := hvm.val
  obtain ⟨ta, tc, rfl⟩ := hvt.val
  unfold d10l
  simp
  refine wC_loop_inv (SlI A1 S1 i cs tx pr sums idsn env) ?_ cs.length _ ⟨0, by omega, rfl, rfl, rfl, ⟨by simp, by simp, by simp, by simp, by simp, by simp, by simp, by simp⟩, h⟩
  rintro m ⟨env1, nn, dfs, B⟩ ⟨j, hj, rfl, s1, s2, ⟨t3, t4, t9, t10, t11, t12, t13, t14⟩, F⟩
  simp only at s1 s2 t3 t4 t9 t10 t11 t12 t13 t14 F
  subst s1; subst s2
  rw [r3] at t3; rw [r9] at t9; rw [r10] at t10; rw [r11] at t11; rw [r12] at t12; rw [r13] at t13
  have ex := F.ex
  have w2 : IntKind.i64.wrap ((j : Int) + 1) = (j : Int) + 1 := IntWalk.i64_in _ (by omega)
  by_cases cj : j < cs.length
  · have ck := segs_at seg cj
    have hxj := htx j cj
    have hpj := hpr j
    obtain ⟨d1, o1, c1, bs1, ro1, op1, y1, y2, y3, y4⟩ := (hvm.ext ex hom).elem2 cj
    rw [mps_at cs cj] at y4
    have y3' : o1 + (j * 4 + 4) ≤ bs1.length := by omega
    rw [y1] at t9
    have fin : ∀ (env' : Env) (B' : AHeap), SpF A1 S1 i cs tx pr sums idsn 0 (j + 1) (j + 1) B' → env'.rd 3 = env1.rd 3 → env'.rd 4 = env1.rd 4 → env'.rd 9 = env1.rd 9 → env'.rd 10 = env1.rd 10 → env'.rd 11 = env1.rd 11 → env'.rd 12 = env1.rd 12 → env'.rd 13 = env1.rd 13 → env'.rd 14 = .int .i64 ((j : Int) + 1) → ∃ m', m' < cs.length - j ∧ SlI A1 S1 i cs tx pr sums idsn env m' { env := env', n := 178, dfs := [], A := B' } :=
      fun env' B' F' z3 z4 z9 z10 z11 z12 z13 z14 => ⟨cs.length - (j + 1), by omega, j + 1, by omega, rfl, rfl, rfl, ⟨by rw [z3, t3, r3], by rw [z4, t4], by rw [z9, t9, r9, y1], by rw [z10, t10, r10], by rw [z11, t11, r11], by rw [z12, t12, r12], by rw [z13, t13, r13], z14⟩, F'⟩
    by_cases hjc : j = c
    · cases bare with
      | true =>
        subst hjc
        rw [if_neg (by simp)] at hxj
        have F1 := spf_nomap F (by rw [hpj]; simp)
        obtain ⟨d2, o2, c2, bs2, ro2, op2, x1, x2, x3⟩ := (hvt.ext ex hot).cell cj
        rw [strB_at, List.getElem?_map, List.getElem?_eq_getElem cj] at x3
        rw [x1] at t10
        have g0 : bs1[o1 + j * 4]? = some (.int .i64 cs[j].m.at_) := by
          have h := congrArg (fun z => z[0]?) y4
          simpa [mpc] using h
        simp [t3, t9, t10, t11, t12, t13, t14, cj, y2, x2, x3, g0]
        refine spf_put F1 seg X hcs cj hxj.symm ck.1 fun v A' F2 => ?_
        simp [t14, w2]
        exact fin _ _ F2 (by simp) (by simp) (by simp) (by simp) (by simp) (by simp) (by simp) (by simp)
      | false =>
        subst hjc
        rw [if_pos ⟨rfl, rfl⟩] at hxj
        simp [t3, t9, t10, t11, t12, t13, t14, cj, y2, y3', y4]
        refine spf_map F seg hcs cj (by rw [hpj]; simp) fun B1 F1 => ?_
        have ex1 := F1.ex
        obtain ⟨d2, o2, c2, bs2, ro2, op2, x1, x2, x3⟩ := (hvt.ext ex1 hot).cell cj
        rw [strB_at, List.getElem?_map, List.getElem?_eq_getElem cj] at x3
        have hb := b2s_ok (hvs.ext ex1 hos)
        obtain ⟨d3, o3, c3, bs3, ro3, op3, y1', y2', y3'', y4'⟩ := (hvm.ext ex1 hom).elem2 cj
        rw [mps_at cs cj] at y4'
        rw [x1] at t10
        rw [y1] at y1'
        cases y1'
        have g0 : bs3[o1 + j * 4]? = some (.int .i64 cs[j].m.at_) := by
          have h := congrArg (fun z => z[0]?) y4'
          simpa [mpc] using h
        simp [t3, t9, t10, t11, t12, t13, t14, cj, y2', x2, x3, g0, hb]
        refine spf_put F1 seg X hcs cj hxj.symm ck.1 fun v A' F2 => ?_
        simp [t14, w2]
        exact fin _ _ F2 (by simp) (by simp) (by simp) (by simp) (by simp) (by simp) (by simp) (by simp)
    · rw [if_neg (by simp [hjc])] at hxj
      have hjc' : ¬ (j : Int) = (c : Int) := by omega
      simp [t3, t9, t10, t11, t12, t13, t14, cj, y2, y3', y4, hjc, hjc']
      refine spf_map F seg hcs cj (by rw [hpj]; simp [hjc]) fun B1 F1 => ?_
      have ex1 := F1.ex
      obtain ⟨d2, o2, c2, bs2, ro2, op2, x1, x2, x3⟩ := (hvt.ext ex1 hot).cell cj
      rw [strB_at, List.getElem?_map, List.getElem?_eq_getElem cj] at x3
      obtain ⟨d3, o3, c3, bs3, ro3, op3, y1', y2', y3'', y4'⟩ := (hvm.ext ex1 hom).elem2 cj
      rw [mps_at cs cj] at y4'
      rw [x1] at t10
      rw [y1] at y1'
      cases y1'
      have g0 : bs3[o1 + j * 4]? = some (.int .i64 cs[j].m.at_) := by
        have h := congrArg (fun z => z[0]?) y4'
        simpa [mpc] using h
      simp [t3, t9, t10, t11, t12, t13, t14, cj, y2', x2, x3, g0, hjc, hjc']
      refine spf_put F1 seg X hcs cj hxj.symm ck.1 fun v A' F2 => ?_
      simp [t14, w2]
      exact fin _ _ F2 (by simp) (by simp) (by simp) (by simp) (by simp) (by simp) (by simp) (by simp)
  · have hjn : j = cs.length := by omega
    subst hjn
    simp [t9, t14]
    exact hq _ _ F (by simp [t3, r3]) (by simp [t4]) (by simp [t9, r9]) (by simp [t10, r10]) (by simp [t11, r11]) (by simp [t12, r12]) (by simp [t13, r13])
end Go.Proofs.Ytidgbapgedegbaa
