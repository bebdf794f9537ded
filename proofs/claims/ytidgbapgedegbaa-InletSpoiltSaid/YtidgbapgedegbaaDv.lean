/- InletSpoilt: what is next, chunk by chunk, and the ends. -/
import Derived.Test.YtidgbapgedegbaaDu
import Derived.KernelRfl
namespace Go.Proofs.Ytidgbapgedegbaa
open Go Go.AS
set_option maxRecDepth 100000
set_option linter.unusedSimpArgs false
set_option linter.unusedVariables false
attribute [local irreducible] Trie.set Trie.get Env.rd
attribute [local simp ↓] wV_b2s
attribute [local simp] Nat.add_assoc wD_cons'' wD_nil' wC_seq wC_ops wC_opsD_nil wC_cond wC_skip wC_ret wC_exit wC_block wO_cons' wO_nil wantedA wV_eq lop qop ev wL_some wL_none wPut envOf rd_set rd_leaf eqA thenC blockC wB_true wB_false endF unwindA resultsA resA tupleA rdCell rdCells wrCells cl fillP lay rep binA unA get_set' AHeap.get_alloc oneCell beqd bned idxA

theorem sp_good {cs : List Ck} {tx : List (List UInt8)} {pr : Nat → Bool} {sums : Bool} {idsn : Int} {k jm : Nat} {s : IS} (I : Sp cs tx pr k cs.length jm s) (X : Tx cs tx) (seg : Segs sums idsn 0 cs) (hk : k < cs.length) (hjm : k < jm) (hpr : pr k = true) (ht : tx[k]'(by rw [X.len]; exact hk) = cs[k].t) (h1 : s.sums = sums) (h2 : s.idsn = idsn) : nextV s (rtF s.idsn) = (1, cs[k].m, cs[k].t) := by
  rw [I.next X seg hk hjm hpr, ht, h1, h2]
  cases hs : sums with
  | false => simp
  | true => subst hs; rw [rt_same seg hk]; simp
def SmI (A1 : AHeap) (S1 : Nat → Prop) (i : Nat) (cs : List Ck) (tx : List (List UInt8)) (pr : Nat → Bool) (sums : Bool) (idsn : Int) (c : Nat) (env0 : Env) (m : Nat) (st : St) : Prop := ∃ k, k ≤ c ∧ m = c - k ∧ st.n = 178 ∧ st.dfs = [] ∧
  (st.env.rd 3 = env0.rd 3 ∧ st.env.rd 4 = env0.rd 4 ∧ st.env.rd 9 = env0.rd 9 ∧ st.env.rd 10 = env0.rd 10 ∧ st.env.rd 11 = env0.rd 11 ∧ st.env.rd 12 = env0.rd 12 ∧ st.env.rd 13 = env0.rd 13 ∧ st.env.rd 16 = .int .i64 k) ∧ SpF A1 S1 i cs tx pr sums idsn k cs.length cs.length st.A
set_option maxHeartbeats 3200000 in
theorem sp_m (A1 : AHeap) (S1 : Nat → Prop) (i : Nat) (cs : List Ck) (tx : List (List UInt8)) (pr : Nat → Bool) (sums : Bool) (idsn : Int) (c : Nat) (vm vt : Value) (env : Env) (A : AHeap) (K : AExit → St → Prop)
    (h : SpF A1 S1 i cs tx pr sums idsn 0 cs.length cs.length A) (seg : Segs sums idsn 0 cs) (X : Tx cs tx) (hcs : pos cs cs.length ≤ 2048) (hcl : cs.length ≤ 600) (hc : c < cs.length) (hpr : ∀ j, j ≠ c → pr j = true)
    (htx : ∀ j (hj : j < cs.length), j ≠ c → tx[j]'(by rw [X.len]; exact hj) = cs[j].t)
    (hvm : ReadAt A1 4 vm cs.length (encs mpc (cs.map (·.m)))) (hvt : ReadAt A1 1 vt cs.length (strB (cs.map (·.t)))) (hom : ∀ j, Own vm j → ¬ S1 j) (hot : ∀ j, Own vt j → ¬ S1 j)
    (r9 : env.rd 9 = vm) (r10 : env.rd 10 = vt) (r11 : env.rd 11 = .pointer (some ⟨i, 0, none⟩)) (r12 : env.rd 12 = .int .i64 c)
    (hq : ∀ env' A', SpF A1 S1 i cs tx pr sums idsn c cs.length cs.length A' → env'.rd 3 = env.rd 3 → env'.rd 4 = env.rd 4 → env'.rd 9 = env.rd 9 → env'.rd 10 = env.rd 10 → env'.rd 11 = env.rd 11 → env'.rd 12 = env.rd 12 → env'.rd 13 = env.rd 13 → K .normal { env := env', n := 178, dfs := [], A := A' }) :
    wC T 10 none d10m { env := env, n := 178, dfs := [], A := A } K := by
  obtain ⟨ma, mc, rfl⟩ := hvm.val
  obtain ⟨ta, tc, rfl⟩ := hvt.val
  unfold d10m
  simp
  refine wC_loop_inv (SmI A1 S1 i cs tx pr sums idsn c env) ?_ c _ ⟨0, by omega, rfl, rfl, rfl, ⟨by simp, by simp, by simp, by simp, by simp, by simp, by simp, by simp⟩, h⟩
  rintro m ⟨env1, nn, dfs, B⟩ ⟨k, hk, rfl, s1, s2, ⟨t3, t4, t9, t10, t11, t12, t13, t16⟩, F⟩
  simp only at s1 s2 t3 t4 t9 t10 t11 t12 t13 t16 F
  subst s1; subst s2
  rw [r9] at t9; rw [r10] at t10; rw [r11] at t11; rw [r12] at t12
  have ex := F.ex
  have w2 : IntKind.i64.wrap ((k : Int) + 1) = (k : Int) + 1 := IntWalk.i64_in _ (by omega)
  by_cases cj : k < c
  · have cj' : k < cs.length := by omega
    have ck := segs_at seg cj'
    obtain ⟨d1, o1, c1, bs1, ro1, op1, y1, y2, y3, y4⟩ := (hvm.ext ex hom).elem2 cj'
    rw [mps_at cs cj'] at y4
    have y3' : o1 + (k * 4 + 4) ≤ bs1.length := by omega
    obtain ⟨d2, o2, c2, bs2, ro2, op2, x1, x2, x3⟩ := (hvt.ext ex hot).cell cj'
    rw [strB_at, List.getElem?_map, List.getElem?_eq_getElem cj'] at x3
    rw [y1] at t9
    rw [x1] at t10
    simp [t9, t10, t11, t12, t16, cj, cj', y2, y3', y4, x2, x3]
    refine spf_next F seg (fun s I h1 h2 => sp_good I X seg cj' cj' (hpr k (by omega)) (htx k cj' (by omega)) h1 h2) fun A' F1 => ?_
    obtain ⟨d3, o3, c3, bs3, ro3, op3, y1', y2', y3'', y4'⟩ := (hvm.ext F1.ex hom).elem2 cj'
    rw [mps_at cs cj'] at y4'
    rw [y1] at y1'
    cases y1'
    have g2 : bs3[o1 + (k * 4 + 2)]? = some (.int .i64 cs[k].m.len) := by
      have h := congrArg (fun z => z[2]?) y4'
      simpa [mpc, Nat.add_assoc] using h
    simp [t9, t10, t11, t12, t16, cj, cj', y2', g2]
    refine spf_skip F1 seg hcs cj' ck.2.1 fun v A2 F2 => ?_
    simp [t16, w2]
    exact ⟨c - (k + 1), by omega, k + 1, by omega, rfl, rfl, rfl, ⟨by simp [t3], by simp [t4], by simp [t9, r9, y1], by simp [t10, r10, x1], by simp [t11, r11], by simp [t12, r12], by simp [t13], by simp⟩, F2⟩
  · have hkc : k = c := by omega
    subst hkc
    simp [t12, t16]
    exact hq _ _ F (by simp [t3]) (by simp [t4]) (by simp [t9, r9]) (by simp [t10, r10]) (by simp [t11, r11]) (by simp [t12, r12]) (by simp [t13])

set_option maxHeartbeats 3200000 in
theorem sp_e (A1 : AHeap) (S1 : Nat → Prop) (i : Nat) (cs : List Ck) (tx : List (List UInt8)) (pr : Nat → Bool) (sums : Bool) (idsn : Int) (c : Nat) (bare : Bool) (vm vt vs : Value) (sp : List UInt8) (q3 : Nat) (x1 x2 x3 : Value) (env : Env) (A : AHeap)
    (h : SpF A1 S1 i cs tx pr sums idsn c cs.length cs.length A) (seg : Segs sums idsn 0 cs) (X : Tx cs tx) (hcl : cs.length ≤ 600) (hc : c < cs.length) (hpr : pr c = !bare)
    (htx : tx[c]'(by rw [X.len]; exact hc) = if bare = true then cs[c].t else sp) (hsp : sp.length = (cs[c]).t.length) (hrt : sums = true → rtF idsn cs[c].m sp = false)
    (hvm : ReadAt A1 4 vm cs.length (encs mpc (cs.map (·.m)))) (hvt : ReadAt A1 1 vt cs.length (strB (cs.map (·.t)))) (hvs : ReadAt A1 1 vs sp.length (bcells sp)) (hom : ∀ j, Own vm j → ¬ S1 j) (hot : ∀ j, Own vt j → ¬ S1 j) (hos : ∀ j, Own vs j → ¬ S1 j) (gq : A1.get q3 = some (.cells [x1, x2, x3, .bool sums] false 0)) (hq3 : ¬ S1 q3)
    (r3 : env.rd 3 = .bool bare) (r4 : env.rd 4 = .pointer (some ⟨q3, 0, none⟩)) (r9 : env.rd 9 = vm) (r10 : env.rd 10 = vt) (r11 : env.rd 11 = .pointer (some ⟨i, 0, none⟩)) (r12 : env.rd 12 = .int .i64 c) (r13 : env.rd 13 = vs) :
    wC T 10 none d10e { env := env, n := 178, dfs := [], A := A } (endF [.inl 8] fun v _ => v = .bool true) := by
  have e := h.ex
  have gq1 := e.get gq hq3
  have ck := segs_at seg hc
  unfold d10e
  cases bare with
  | true =>
    have htx' : tx[c]'(by rw [X.len]; exact hc) = cs[c].t := by rw [htx, if_pos rfl]
    simp [r3]
    refine wC_opsD_chk ?_
    simp [r3, r9, r10, r11, r12]
    refine spf_next (m := mp0) (t := []) h seg (fun s I h1 h2 => I.bare X seg hc hpr _) fun A2 F2 => ?_
    obtain ⟨d2, o2, c2, bs2, ro2, op2, z1, z2, z3⟩ := (hvt.ext F2.ex hot).cell hc
    rw [strB_at, List.getElem?_map, List.getElem?_eq_getElem hc] at z3
    subst z1
    simp [r3, r9, r10, r11, r12, hc, z2, z3]
    refine spf_raw F2 X hc rfl fun A3 F3 => ?_
    rw [htx']
    obtain ⟨d3, o3, c3, bs3, ro3, op3, w1, w2, w3⟩ := (hvt.ext F3.ex hot).cell hc
    rw [strB_at, List.getElem?_map, List.getElem?_eq_getElem hc] at w3
    cases w1
    simp [r3, r9, r10, r11, r12, hc, w2, w3]
    refine spf_N F3 ?_
    obtain ⟨d1, o1, c1, bs1, ro1, op1, y1, y2, y3, y4⟩ := (hvm.ext F3.ex hom).elem2 hc
    rw [mps_at cs hc] at y4
    have g0 : bs1[o1 + c * 4]? = some (.int .i64 cs[c].m.at_) := by
      have h := congrArg (fun z => z[0]?) y4
      simpa [mpc] using h
    subst y1
    simp [r3, r9, r10, r11, r12, hc, y2, g0, ck.1]
    refine wE_intro ?_ ?_
    · simp only [List.all_cons, List.all_nil, chkOk, List.nil_append, List.cons_append, List.getElem?_cons_succ, List.getElem?_cons_zero]
      simp [Bx, vbeq, r10, r9, r12, hc, z2, z3, w2, w3, y2, g0, ck.1]
    simp
  | false =>
    have htx' : tx[c]'(by rw [X.len]; exact hc) = sp := by rw [htx, if_neg (by simp)]
    obtain ⟨sa, sc, rfl⟩ := hvs.val
    have hb1 := b2s_ok (hvs.ext e hos)
    obtain ⟨d1, o1, c1, bs1, ro1, op1, y1, y2, y3, y4⟩ := (hvm.ext e hom).elem2 hc
    rw [mps_at cs hc] at y4
    have y3' : o1 + (c * 4 + 4) ≤ bs1.length := by omega
    subst y1
    have nx : ∀ kind : Int, kind = (if sums = true then 2 else 1) → ∀ s, Sp cs tx pr c cs.length cs.length s → s.sums = sums → s.idsn = idsn → nextV s (rtF s.idsn) = (kind, cs[c].m, sp) := by
      intro kind hkd s I h1 h2
      rw [I.next X seg hc hc (by rw [hpr]; rfl), htx', h1, h2, hkd]
      cases hs : sums with
      | false => simp
      | true => rw [hrt hs]; simp
    cases hs : sums with
    | true =>
      rw [hs] at gq1
      simp [r3, r4, gq1]
      refine wC_opsD_chk ?_
      simp [r3, r9, r11, r12, r13, hc, y2, y3', y4, hb1]
      refine spf_next h seg (nx 2 (by rw [hs]; rfl)) fun A2 F2 => ?_
      simp [r11, r13]
      refine spf_raw F2 X hc (by rw [hsp]) fun A3 F3 => ?_
      rw [htx']
      have hb3 := b2s_ok (hvs.ext F3.ex hos)
      simp [r13, hb3]
      refine wE_intro ?_ ?_
      · simp only [List.all_cons, List.all_nil, chkOk, List.nil_append, List.cons_append, List.getElem?_cons_succ, List.getElem?_cons_zero]
        simp [Bx, vbeq, ↓qop_b2s, r13, b2s_ok (hvs.ext F2.ex hos), hb3]
      simp
    | false =>
      rw [hs] at gq1
      simp [r3, r4, gq1]
      refine wC_opsD_chk ?_
      simp [r3, r9, r11, r12, r13, hc, y2, y3', y4, hb1]
      refine spf_next h seg (nx 1 (by rw [hs]; rfl)) fun A2 F2 => ?_
      simp [r11, r13]
      refine spf_raw F2 X hc (by rw [hsp]) fun A3 F3 => ?_
      rw [htx']
      have hb3 := b2s_ok (hvs.ext F3.ex hos)
      simp [r13, hb3]
      refine wE_intro ?_ ?_
      · simp only [List.all_cons, List.all_nil, chkOk, List.nil_append, List.cons_append, List.getElem?_cons_succ, List.getElem?_cons_zero]
        simp [Bx, vbeq, ↓qop_b2s, r13, b2s_ok (hvs.ext F2.ex hos), hb3]
      simp
end Go.Proofs.Ytidgbapgedegbaa
