/- InletTakes: what it answers. -/
import Derived.Test.YtidgbapgedegbaaDm
import Derived.KernelRfl
namespace Go.Proofs.Ytidgbapgedegbaa
open Go Go.AS
set_option maxRecDepth 100000
set_option linter.unusedSimpArgs false
set_option linter.unusedVariables false
attribute [local irreducible] Trie.set Trie.get Env.rd
attribute [local simp ↓] wV_b2s
attribute [local simp] Nat.add_assoc wD_cons'' wD_nil' wC_seq wC_ops wC_opsD_nil wC_cond wC_skip wC_ret wC_exit wC_block wO_cons' wO_nil wantedA wV_eq lop qop ev wL_some wL_none wPut envOf rd_set rd_leaf eqA thenC blockC wB_true wB_false endF unwindA resultsA resA tupleA rdCell rdCells wrCells cl fillP lay rep binA unA get_set' AHeap.get_alloc oneCell beqd bned idxA

def wcells (l : List Int) : List Value := l.map fun x => .int .u16 x
structure TxF (A0 : AHeap) (i : Nat) (s0 : IS) (cs : List Ck) (k : Nat) (A : AHeap) : Prop where
  at_ : ∃ s S, InAt A i s S ∧ Inv cs k s ∧ Kept s0 s ∧ (∀ j, S j → A0.size ≤ j)
  ex : Ext NoB A0 A
def TxI (A0 : AHeap) (q3 i : Nat) (s0 : IS) (cs : List Ck) (vm vt u : Value) (no : Nat) (m : Nat) (st : St) : Prop := ∃ (j k : Nat), j ≤ no + cs.length ∧ m = no + cs.length - j ∧ st.n = 148 ∧ st.dfs = [] ∧
  (st.env.rd 2 = u ∧ st.env.rd 3 = .pointer (some ⟨q3, 0, none⟩) ∧ st.env.rd 7 = vm ∧ st.env.rd 8 = vt ∧ st.env.rd 9 = .pointer (some ⟨i, 0, none⟩) ∧ st.env.rd 10 = .int .i64 k ∧ st.env.rd 11 = .bool true ∧ st.env.rd 12 = .int .i64 j) ∧
  TxF A0 i s0 cs k st.A ∧ (no ≤ j → j ≤ no + k)
theorem max1 (n : Nat) : (if (1 : Int) > (n : Int) then (1 : Int) else (n : Int)) = ((max n 1 : Nat) : Int) := by split <;> omega
theorem sh_nat' (x n : Nat) : ∃ X : Nat, Int.fdiv (x : Int) (2 ^ n) = X := ⟨x / 2 ^ n, by rw [Int.fdiv_eq_ediv_of_nonneg _ (Int.pow_nonneg (by decide))]; push_cast; rfl⟩
theorem sh_nat (x n : Nat) (h : x < 65536) : ∃ X : Nat, IntKind.i64.wrap (Int.fdiv (x : Int) (2 ^ n)) = X := ⟨x / 2 ^ n, by
  rw [Int.fdiv_eq_ediv_of_nonneg _ (Int.pow_nonneg (by decide))]
  have h1 : (x : Int) / 2 ^ n = ((x / 2 ^ n : Nat) : Int) := by push_cast; rfl
  have h2 := Nat.div_le_self x (2 ^ n)
  generalize x / 2 ^ n = y at h1 h2
  rw [h1, IntWalk.i64_in _ (by omega)]⟩
theorem sz_take {s0 : List UInt8} {cs : List Ck} (h : cs.flatMap (·.t) = s0.take 600) : pos cs cs.length = (s0.take 600).length := by
  rw [← h, size_flat]
  unfold pos
  rw [List.take_of_length_le (Nat.le_refl _)]

set_option maxHeartbeats 3200000 in
theorem itakes_ok (A : AHeap) (s00 : List UInt8) (bv : Value) (bl : List Int) (idsn : Int) (sums : Bool) (r : Nat) (u : Value) (ol : List Int) (hb : ∀ x ∈ bl, 0 ≤ x ∧ x < 256) (hbv : ReadAt A 1 bv bl.length (ucells bl)) (hr : r < 256) (hol : ∀ x ∈ ol, 0 ≤ x ∧ x < 65536) (hu : ReadAt A 1 u ol.length (wcells ol)) (huo : ∀ j, Own u j → j < A.size) (holn : ol.length < 4611686018427387904) :
    wF T (.func (.func 9) #[] #[]) [.agg ⟨[.string ⟨⟨s00⟩⟩, bv, .int .u64 idsn, .bool sums]⟩, .int .u8 r, u] A (fun v _ => v = .bool true) := by
  obtain ⟨ua, uc, rfl⟩ := hu.val
  refine wF_func (first := []) (captured := []) u9 ⟨rfl, by decide⟩ ?_
  dsimp only [d9]
  simp
  generalize hA1 : A.alloc _ = A1
  have e1 : Ext NoB A A1 := by rw [← hA1]; exact Ext.alloc
  have g1 : A1.get A.size = some (.cells [.string ⟨⟨s00⟩⟩, bv, .int .u64 idsn, .bool sums] false 0) := by rw [← hA1]; simp
  clear hA1
  refine yes20 A1 _ ?_
  simp [g1]
  refine chunks_ok A1 s00 bv bl idsn sums _ hb (hbv.ext e1 fun _ _ => id) fun A2 vm vt cs e2 seg hflat hsm hst => ?_
  have g2 := e2.get g1 id
  have l2 := AHeap.get_lt g2
  generalize A.size = q3 at g1 g2 l2
  have hcl : cs.length ≤ 600 := by
    have h1 := size_ge seg
    have h2 := size_flat cs
    rw [hflat, List.length_take] at h2
    omega
  have hR1 := Int.tmod_nonneg (b := 100) (show (0 : Int) ≤ (r : Int) by omega)
  have hR2 := Int.tmod_lt_of_pos (r : Int) (show (0 : Int) < 100 by decide)
  have w1 : IntKind.i64.wrap ((r : Int).tmod 100) = (r : Int).tmod 100 := IntWalk.i64_in _ (by omega)
  obtain ⟨R, hR, hR3, hR4⟩ : ∃ R : Nat, IntKind.i64.wrap (40 + (r : Int).tmod 100) = R ∧ 40 ≤ R ∧ R ≤ 139 := ⟨(40 + (r : Int).tmod 100).toNat, by rw [IntWalk.i64_in _ (by omega)]; omega, by omega, by omega⟩
  obtain ⟨ma, mc, rfl⟩ := hsm.read.val
  obtain ⟨ta, tc, rfl⟩ := hst.read.val
  simp [g2, w1, hR]
  refine inew_ok R sums idsn (by omega) (by omega) A2 _ fun A3 i e3 hi hin => ?_
  simp
  have hvm := hsm.read
  have hvt := hst.read
  have homl : ∀ j, Own (.slice ma cs.length mc) j → j < A2.size := fun j hj => hsm.own_lt hj
  have hotl : ∀ j, Own (.slice ta cs.length tc) j → j < A2.size := fun j hj => hst.own_lt hj
  have hu2 := (hu.ext e1 fun _ _ => id).ext e2 fun _ _ => id
  have I0 : Inv cs 0 ⟨R, 0, fun _ => none, [], sums, idsn⟩ := ⟨by simp [pos, size], by omega, (fun x b h => by cases h), (fun m h => by cases h)⟩
  clear hsm hst e1 hu hbv
  refine wC_loop_inv (TxI A2 q3 i ⟨R, 0, fun _ => none, [], sums, idsn⟩ cs (.slice ma cs.length mc) (.slice ta cs.length tc) (.slice ua ol.length uc) ol.length) ?_ (ol.length + cs.length) _ ⟨0, 0, by omega, rfl, rfl, rfl, ⟨by simp, by simp, by simp, by simp, by simp, by simp, by simp, by simp⟩, ⟨⟨_, _, hin, I0, ⟨rfl, rfl, rfl⟩, fun j hj => hj.1⟩, e3⟩, by omega⟩
  clear hin I0 e3 hi
  rintro m ⟨env, nn, dfs, B⟩ ⟨j, k, hj, rfl, s1, s2, ⟨r2, r3, r7, r8, r9, r10, r11, r12⟩, F, hjk⟩
  simp only at s1 s2 r2 r3 r7 r8 r9 r10 r11 r12 F
  subst s1; subst s2
  obtain ⟨⟨s, S, hin, I, kp, hS⟩, ex⟩ := F
  have hkl := I.le
  have seg' : Segs s.sums s.idsn 0 cs := by rw [kp.sums, kp.idsn]; exact seg
  have wlen : IntKind.i64.wrap ((ol.length : Int) + (cs.length : Int)) = (ol.length : Int) + (cs.length : Int) := IntWalk.i64_in _ (by omega)
  have wsub : IntKind.i64.wrap ((j : Int) - (ol.length : Int)) = (j : Int) - (ol.length : Int) := IntWalk.i64_in _ (by omega)
  have w2 : IntKind.i64.wrap ((j : Int) + 1) = (j : Int) + 1 := IntWalk.i64_in _ (by omega)
  by_cases cj : j < ol.length + cs.length
  · have cj' : (j : Int) < (ol.length : Int) + (cs.length : Int) := by omega
    have stay : ∀ env' : Env, env'.rd 2 = env.rd 2 → env'.rd 3 = env.rd 3 → env'.rd 7 = env.rd 7 → env'.rd 8 = env.rd 8 → env'.rd 9 = env.rd 9 → env'.rd 10 = env.rd 10 → env'.rd 11 = env.rd 11 → env'.rd 12 = .int .i64 ((j + 1 : Nat) : Int) → j < ol.length → ∃ m', m' < ol.length + cs.length - j ∧ TxI A2 q3 i ⟨R, 0, fun _ => none, [], sums, idsn⟩ cs (.slice ma cs.length mc) (.slice ta cs.length tc) (.slice ua ol.length uc) ol.length m' { env := env', n := 148, dfs := [], A := B } :=
      fun env' z2 z3 z7 z8 z9 z10 z11 z12 hlt => ⟨ol.length + cs.length - (j + 1), by omega, j + 1, k, by omega, rfl, rfl, rfl, ⟨by rw [z2, r2], by rw [z3, r3], by rw [z7, r7], by rw [z8, r8], by rw [z9, r9], by rw [z10, r10], by rw [z11, r11], z12⟩, ⟨⟨s, S, hin, I, kp, hS⟩, ex⟩, by omega⟩
    -- a segment comes
    have seg1 : ∀ (c a b : Nat) (env' : Env) (K : AExit → St → Prop), (hc : c < cs.length) → a ≤ b → b ≤ (cs[c]).t.length → env'.rd 2 = env.rd 2 → env'.rd 3 = env.rd 3 → env'.rd 7 = env.rd 7 → env'.rd 8 = env.rd 8 → env'.rd 9 = env.rd 9 → env'.rd 10 = env.rd 10 → env'.rd 12 = env.rd 12 → env'.rd 13 = .int .i64 c → env'.rd 14 = .int .i64 a → env'.rd 15 = .int .i64 b → (ol.length ≤ j → c = j - ol.length ∧ a = 0 ∧ b = (cs[c]).t.length) →
        (∀ env'' A', env''.rd 12 = .int .i64 j → (∀ env3 : Env, env3.rd 2 = env''.rd 2 → env3.rd 3 = env''.rd 3 → env3.rd 7 = env''.rd 7 → env3.rd 8 = env''.rd 8 → env3.rd 9 = env''.rd 9 → env3.rd 10 = env''.rd 10 → env3.rd 11 = env''.rd 11 → env3.rd 12 = .int .i64 ((j + 1 : Nat) : Int) → ∃ m', m' < ol.length + cs.length - j ∧ TxI A2 q3 i ⟨R, 0, fun _ => none, [], sums, idsn⟩ cs (.slice ma cs.length mc) (.slice ta cs.length tc) (.slice ua ol.length uc) ol.length m' { env := env3, n := 148, dfs := [], A := A' }) → K .normal { env := env'', n := 148, dfs := [], A := A' }) →
        wC T 9 none d9m { env := env', n := 148, dfs := [], A := B } K := by
      intro c a b env' K hc hab hbb t2 t3 t7 t8 t9 t10 t12 t13 t14 t15 hfull hK
      have hzB := ex.size
      refine takes_m B i s S cs _ _ k c a b env' K hin I seg' (by omega) (by rw [kp.room]; exact hR3) hc hab hbb (hvm.ext ex fun _ _ => id) (hvt.ext ex fun _ _ => id) (fun j' hj' q => by have := homl j' hj'; have := hS j' q; omega) (fun j' hj' q => by have := hotl j' hj'; have := hS j' q; omega) (fun j' hj' => by have := homl j' hj'; omega) (fun j' hj' => by have := hotl j' hj'; omega) (by rw [t7, r7]) (by rw [t8, r8]) (by rw [t9, r9]) (by rw [t10, r10]) t13 t14 t15 fun env'' A' k' s' S' h' hS' I' kp' e' hk' hpr v2 v3 v7 v8 v9 v12 v10 v11 => ?_
      refine hK env'' A' (by rw [v12, t12, r12]) fun env3 z2 z3 z7 z8 z9 z10 z11 z12 => ?_
      refine ⟨ol.length + cs.length - (j + 1), by omega, j + 1, k', by omega, rfl, rfl, rfl, ⟨by rw [z2, v2, t2, r2], by rw [z3, v3, t3, r3], by rw [z7, v7, t7, r7], by rw [z8, v8, t8, r8], by rw [z9, v9, t9, r9], by rw [z10, v10], by rw [z11, v11], z12⟩, ⟨⟨s', S', h', I', ⟨by rw [kp'.room, kp.room], by rw [kp'.sums, kp.sums], by rw [kp'.idsn, kp.idsn]⟩, fun j' hj' => ?_⟩, ex.trans2 e' fun b hb q => by have := hS b q; omega⟩, fun hle => ?_⟩
      · rcases hS' j' hj' with q | q
        · exact hS j' q
        · omega
      · by_cases hle' : ol.length ≤ j
        · obtain ⟨z1, z2', z3'⟩ := hfull hle'
          have := hjk hle'
          by_cases hck : c = k
          · have := hpr hck z2' z3'; omega
          · omega
        · omega
    by_cases co : j < ol.length
    · -- one of those in any order
      obtain ⟨od, oo, oc, obs, oro, oopn, y1, y2, y3⟩ := (hu2.ext ex fun _ _ => id).cell co
      have hx := hol ol[j] (List.getElem_mem co)
      obtain ⟨x, hxv⟩ : ∃ x : Nat, ol[j] = (x : Int) := ⟨ol[j].toNat, by omega⟩
      have y3' : obs[oo + j]? = some (.int .u16 (x : Int)) := by rw [y3, wcells, List.getElem?_map, List.getElem?_eq_getElem co, hxv]; rfl
      have wx : IntKind.i64.wrap (x : Int) = x := IntWalk.i64_in _ (by omega)
      rw [y1] at r2
      by_cases c100 : 100 ≤ j
      · simp [r2, r7, r11, r12, wlen, cj', wsub, show ((j : Int) - (ol.length : Int)) < 0 by omega, show (100 : Int) ≤ (j : Int) by omega]
        refine stay _ ?_ ?_ ?_ ?_ ?_ ?_ ?_ ?_ co <;> simp [w2]
      · obtain ⟨c, hc1, hc2⟩ := tmod_lt x (max cs.length 1) (by omega)
        have m1 := max1 cs.length
        by_cases cn : cs.length = 0
        · have hmax : max cs.length 1 = 1 := by omega
          rw [hmax] at hc1 hc2 m1
          have hc0 : c = 0 := by omega
          subst hc0
          have wl0 : IntKind.i64.wrap (ol.length : Int) = (ol.length : Int) := IntWalk.i64_in _ (by omega)
          simp [r2, r7, r11, r12, wl0, wsub, show ((j : Int) - (ol.length : Int)) < 0 by omega, show ¬ (100 : Int) ≤ (j : Int) by omega, co, y2, y3', wx, cn, foldV, maxV]
          simp only [cn, Nat.add_zero] at stay
          refine stay _ ?_ ?_ ?_ ?_ ?_ ?_ ?_ ?_ co <;> simp [w2, cn]
        · have hmax : max cs.length 1 = cs.length := by omega
          rw [hmax] at hc1 hc2 m1
          have m2 : foldV maxV (.int .i64 (cs.length : Int)) [.int .i64 1] = some (.int .i64 (cs.length : Int)) := by
            simp only [foldV, maxV]; rw [m1]
          obtain ⟨d2, o2, cc2, bs2, ro2, op2, x1, x2, x3⟩ := (hvt.ext ex fun _ _ => id).cell hc2
          rw [strB_at, List.getElem?_map, List.getElem?_eq_getElem hc2] at x3
          have ck := segs_at seg hc2
          rw [x1] at r8
          have hcs : ¬ cs = [] := fun q => cn (by rw [q]; rfl)
          have hN := ck.2.2.2.1
          generalize hNd : (cs[c]).t.length = N at hN
          obtain ⟨X10, hX10⟩ : ∃ X : Nat, IntKind.i64.wrap (Int.fdiv (x : Int) (2 ^ min 10 IntKind.u16.bits)) = X := sh_nat x _ (by omega)
          obtain ⟨X8, hX8⟩ : ∃ X : Nat, Int.fdiv (x : Int) (2 ^ min 8 IntKind.u16.bits) = X := sh_nat' x _
          obtain ⟨cut, hq1, hq2⟩ := tmod_lt X10 (N + 1) (by omega)
          obtain ⟨sel, hp1, hp2⟩ := tmod_lt X8 4 (by omega)
          have hq1' : (X10 : Int).tmod ((N : Int) + 1) = cut := by rw [← hq1]; rfl
          have hp1' : (X8 : Int).tmod 4 = sel := hp1
          have wN : IntKind.i64.wrap ((N : Int) + 1) = (N : Int) + 1 := IntWalk.i64_in _ (by omega)
          simp [r2, r7, r8, r11, r12, wlen, cj', wsub, show ((j : Int) - (ol.length : Int)) < 0 by omega, show ¬ (100 : Int) ≤ (j : Int) by omega, co, y2, y3', wx, m2, hc1, hc2, x2, x3, show ¬ cs.length ≤ c by omega, hcs, hNd, hX10, hX8, hq1', hp1', wN, show ¬ ((N : Int) + 1 = 0) by omega]
          by_cases s1 : sel = 1
          · simp [s1]
            refine seg1 c 0 cut _ _ hc2 (Nat.zero_le _) (by omega) ?_ ?_ ?_ ?_ ?_ ?_ ?_ ?_ ?_ ?_ (fun q => by omega) ?_
            all_goals first | (simp; done) | skip
            intro env'' A' w12 hgo
            simp [w12]
            exact hgo _ (by simp) (by simp) (by simp) (by simp) (by simp) (by simp) (by simp) (by simp [w2])
          · by_cases s2 : sel = 2
            · simp [s2]
              refine seg1 c cut N _ _ hc2 (by omega) (by omega) ?_ ?_ ?_ ?_ ?_ ?_ ?_ ?_ ?_ ?_ (fun q => by omega) ?_
              all_goals first | (simp [hNd]; done) | skip
              intro env'' A' w12 hgo
              simp [w12]
              exact hgo _ (by simp) (by simp) (by simp) (by simp) (by simp) (by simp) (by simp) (by simp [w2])
            · simp [show ¬ (sel : Int) = 1 by omega, show ¬ (sel : Int) = 2 by omega]
              refine seg1 c 0 N _ _ hc2 (by omega) (by omega) ?_ ?_ ?_ ?_ ?_ ?_ ?_ ?_ ?_ ?_ (fun q => by omega) ?_
              all_goals first | (simp [hNd]; done) | skip
              intro env'' A' w12 hgo
              simp [w12]
              exact hgo _ (by simp) (by simp) (by simp) (by simp) (by simp) (by simp) (by simp) (by simp [w2])
    · obtain ⟨c, hcj⟩ : ∃ c, j = ol.length + c := ⟨j - ol.length, by omega⟩
      have hc2 : c < cs.length := by omega
      have wsub' : IntKind.i64.wrap ((j : Int) - (ol.length : Int)) = (c : Int) := by rw [wsub]; omega
      obtain ⟨d2, o2, cc2, bs2, ro2, op2, x1, x2, x3⟩ := (hvt.ext ex fun _ _ => id).cell hc2
      rw [strB_at, List.getElem?_map, List.getElem?_eq_getElem hc2] at x3
      have ck := segs_at seg hc2
      rw [x1] at r8
      simp [r2, r7, r8, r11, r12, wlen, cj', wsub', show ¬ (c : Int) < 0 by omega, show ¬ cs.length ≤ c by omega, hc2, x2, x3, show ¬ (j : Int) < (ol.length : Int) by omega, co]
      refine seg1 c 0 (cs[c]).t.length _ _ hc2 (Nat.zero_le _) (Nat.le_refl _) ?_ ?_ ?_ ?_ ?_ ?_ ?_ ?_ ?_ ?_ (fun q => ⟨by omega, rfl, rfl⟩) ?_
      all_goals first | (simp; done) | skip
      intro env'' A' w12 hgo
      simp [w12]
      exact hgo _ (by simp) (by simp) (by simp) (by simp) (by simp) (by simp) (by simp) (by simp [w2])
  · have hk : k = cs.length := by omega
    subst hk
    have g3 := ex.get g2 id
    have hbase : (s.base : Int) = ((min s00.length 600 : Nat) : Int) := by
      rw [I.base, sz_take hflat, List.length_take, Nat.min_comm]
    have hsl := sl_to s00 .i64 (min s00.length 600) (Nat.min_le_left _ _)
    have m6 : foldV minV (.int .i64 (s00.length : Int)) [.int .i64 600] = some (.int .i64 ((min s00.length 600 : Nat) : Int)) := by
      simp only [foldV, minV]; congr 2; omega
    have cjn : ¬ (j : Int) < (ol.length : Int) + (cs.length : Int) := by omega
    simp [r2, r7, r11, r12, wlen, cjn]
    refine wC_opsD_chk ?_
    simp [r3, r7, r9, r10, r11, g3]
    refine iN_ok B i s S _ hin ?_
    simp [r3, r7, r9, r10, r11, g3, m6, hsl]
    refine wE_intro ?_ ?_
    · simp only [List.all_cons, List.all_nil, chkOk, List.nil_append, List.cons_append, List.getElem?_cons_succ, List.getElem?_cons_zero]
      simp [Bx, g3, vbeq]
    simp [hbase, List.length_take, Nat.min_comm]
end Go.Proofs.Ytidgbapgedegbaa
