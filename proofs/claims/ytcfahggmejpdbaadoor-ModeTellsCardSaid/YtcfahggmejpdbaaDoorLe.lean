/- ModeTells: the parts. -/
import Derived.Test.YtcfahggmejpdbaaDoorLc
import Derived.Test.YtcfahggmejpdbaaDoorKd
import Derived.KernelRfl
namespace Go.Proofs.YtcfahggmejpdbaaDoor
open Go Go.AS
set_option maxRecDepth 100000
set_option linter.unusedSimpArgs false
set_option linter.unusedVariables false
attribute [local irreducible] Trie.set Trie.get Env.rd
attribute [local simp] Nat.add_assoc wD_cons'' wD_nil' wC_seq wC_ops wC_opsD_nil wC_cond wC_skip wC_ret wC_exit wC_block wO_cons' wO_nil wantedA wV_eq lop qop ev wL_some wL_none wPut envOf rd_set rd_leaf eqA thenC blockC wB_true wB_false endF unwindA resultsA resA tupleA rdCell rdCells wrCells cl fillP lay rep binA unA get_set' AHeap.get_alloc oneCell beqd bned idxA

attribute [local simp] MS.len MS.one MS.take MS.at0 MS.at1 MS.at2 MS.at7 MS.putEn MS.putMd MS.putSo MS.putU0 Tn.len Tn.one Tn.take Tn.at0 Tn.at1 Tn.at2 wr1 wr2 wr3 wr4
def FbI (A0 : AHeap) (v : Value) (l : List Tn) (m : Nat) (st : St) : Prop := ∃ (i : Nat), i ≤ l.length ∧ m = l.length - i ∧ st.n = 24 ∧ st.dfs = [] ∧
  (st.env.rd 0 = v ∧ st.env.rd 3 = .int .i64 i) ∧ st.A = A0 ∧ fallsN (l.take i) = none
theorem rfalls_ok (A : AHeap) (v : Value) (l : List Tn) (Q : Value → AHeap → Prop) (hl : l.length < 100000) (hv : ReadAt A 3 v l.length (tcells l))
    (hq : Q (.int .i64 (fallsI l)) A) : wF T (.func (.func 22) #[] #[]) [v] A Q := by
  obtain ⟨va, vc, rfl⟩ := hv.val
  refine wF_func (first := []) (captured := []) t22 ⟨rfl, by decide⟩ ?_
  dsimp only [c22]
  simp
  refine wC_loop_inv (FbI A (.slice va l.length vc) l) ?_ l.length _ ⟨0, by omega, by omega, rfl, rfl, ⟨by simp, by simp⟩, rfl, by simp [fallsN]⟩
  rintro m ⟨env, n, dfs, A4⟩ ⟨i, hi, rfl, s1, s2, ⟨r0, r3⟩, s3, nb⟩
  simp only at s1 s2 s3 r0 r3
  subst s1; subst s2; subst s3
  by_cases c : i < l.length
  · obtain ⟨d, o, cc, bs, ro, opn, y1, y2, y3, y4⟩ := hv.elem2 c
    cases y1
    rw [tcells_at l i c] at y4
    have y3' : o + (i * 3 + 3) ≤ bs.length := by omega
    have d0 : bs[o + i * 3]? = some (.int .i64 (l[i]).c) := by
      have h := congrArg (fun z => z[0]?) y4
      simpa [Tn.cells] using h
    have w2 := len40 (show i < 100000 by omega)
    simp [r0, r3, c, y2, d0]
    have yes : fallenB (l[i]).c = true → Q (.int .i64 (i : Int)) A4 := fun hf => by
      have := hq
      rwa [fallsI, fallsN_at l i c nb hf] at this
    by_cases h2 : (l[i]).c = 2
    · simp [h2, r3]; exact yes (by simp [fallenB, h2])
    · by_cases h4 : (l[i]).c = 4
      · simp [h4, r3]; exact yes (by simp [fallenB, h4])
      · by_cases h6 : (l[i]).c = 6
        · simp [h6, r3]; exact yes (by simp [fallenB, h6])
        · by_cases h10 : (l[i]).c = 10
          · simp [h10, r3]; exact yes (by simp [fallenB, h10])
          · by_cases h11 : (l[i]).c = 11
            · simp [h11, r3]; exact yes (by simp [fallenB, h11])
            · by_cases h12 : (l[i]).c = 12
              · simp [h12, r3]; exact yes (by simp [fallenB, h12])
              · by_cases h13 : (l[i]).c = 13
                · simp [h13, r3]; exact yes (by simp [fallenB, h13])
                · simp [h2, h4, h6, h10, h11, h12, h13, r3]
                  refine ⟨l.length - (i + 1), by omega, i + 1, by omega, rfl, rfl, rfl, ⟨by simp [r0], by simpa using w2⟩, rfl, ?_⟩
                  rw [List.take_add_one, List.getElem?_eq_getElem c]
                  refine fallsN_snoc _ _ nb ?_
                  simp [fallenB, h2, h4, h6]; omega
  · have hil : i = l.length := by omega
    rw [hil, List.take_of_length_le (Nat.le_refl _)] at nb
    simp [r0, r3, c]
    rwa [fallsI, nb] at hq

/-! ## An element written -/
theorem lay_sub {bs new : List Value} {o k N : Nat} (h : k + new.length ≤ N) (hb : o + N ≤ bs.length) : ((lay bs (o + k) new).drop o).take N = lay ((bs.drop o).take N) k new := by
  apply List.ext_getElem?
  intro i
  rw [lay_get _ _ _ _ (by rw [List.length_take, List.length_drop]; omega)]
  by_cases hi : i < N
  · rw [List.getElem?_take_of_lt hi, List.getElem?_drop, lay_get _ _ _ _ (by omega)]
    by_cases hc : k ≤ i ∧ i < k + new.length
    · rw [if_pos (by omega), if_pos hc]
      congr 1; omega
    · rw [if_neg (by omega), if_neg hc, List.getElem?_take_of_lt hi, List.getElem?_drop]
  · rw [List.getElem?_eq_none (by rw [List.length_take]; omega), if_neg (by omega), List.getElem?_eq_none (by rw [List.length_take]; omega)]
theorem write {A : AHeap} {sz n i : Nat} {v : Value} {cs new : List Value} (h : SliceAt A sz v n cs) (hi : i < n) (hn : new.length = sz) :
    ∃ d o c bs opn, v = .slice (some ⟨d, o, none⟩) n c ∧ A.get d = some (.cells bs false opn) ∧ o + i * sz + sz ≤ bs.length ∧ SliceAt (A.set d (.cells (lay bs (o + i * sz) new) false opn)) sz v n (lay cs (i * sz) new) := by
  have hm : i * sz + sz ≤ n * sz := by
    have := Nat.mul_le_mul_right sz (show i + 1 ≤ n by omega)
    rwa [Nat.add_mul, Nat.one_mul] at this
  rcases h with ⟨_, h2, _⟩ | ⟨d, o, c, bs, opn, h1, h2, h3, h4, h5⟩
  · omega
  · refine ⟨d, o, c, bs, opn, h1, h2, by omega, .inr ⟨d, o, c, _, opn, h1, by rw [get_set', if_pos rfl, if_pos (AHeap.get_lt h2)], ?_, ?_, ?_⟩⟩
    · rw [lay_length]; exact h3
    · rw [lay_sub (by omega) h3, h4]
    · rw [lay_length]; exact h5
theorem tcells_set (l : List Tn) (j : Nat) (t : Tn) (hj : j < l.length) : lay (tcells l) (j * 3) t.cells = tcells (l.set j t) := by
  have h1 : tcells l = tcells (l.take j) ++ (l[j]).cells ++ tcells (l.drop (j + 1)) := by
    have : l = l.take j ++ [l[j]] ++ l.drop (j + 1) := by simp
    exact (congrArg tcells this).trans (by simp only [tcells, List.flatMap_append, List.flatMap_cons, List.flatMap_nil, List.append_nil])
  have hl : (tcells (l.take j)).length = j * 3 := by rw [tcells_len, List.length_take]; omega
  rw [h1, ← hl, lay_mid t.cells (tcells (l.take j)) (l[j]).cells (tcells (l.drop (j + 1))) rfl, List.set_eq_take_append_cons_drop, if_pos hj]
  simp [tcells]

/-! ## One row, one end -/
theorem walk_code {e : Int} {l : List Tn} {f : Int × Int} (h : (walkR e l).2 = some f) : f.1 ≠ 0 := by
  unfold walkR at h
  split at h
  · cases h; decide
  · split at h
    · cases h
    · cases h; show (15 : Int) ≠ 0; decide
theorem eq_fault (f : Option (Int × Int)) : eqL [(0, .i), (1, .i)] (fcells f) (fcells f) = some true := by
  cases f <;> simp [fcells, eqL, leafEq]
theorem fcells_len (f : Option (Int × Int)) : (fcells f).length = 2 := by cases f <;> rfl
theorem fcells_one (f : Option (Int × Int)) : (fcells f).all oneCell = true := by cases f <;> rfl
theorem fcells_take (f : Option (Int × Int)) : (fcells f).take 2 = fcells f := by cases f <;> rfl
theorem lay_fault (f : Option (Int × Int)) (a b : Value) : lay [a, b] 0 (fcells f) = fcells f := by cases f <;> rfl
set_option maxHeartbeats 1600000 in
theorem tells_in (A : AHeap) (e : Int) (v : Value) (l : List Tn) (env : Env) (Q : AExit → St → Prop) (hE : EH A) (hl : l.length < 100000) (hv : ReadAt A 3 v l.length (tcells l)) (r16 : env.rd 16 = v) (r18 : env.rd 18 = .int .i64 e)
    (hq : ∀ env' A', Ext NoB A A' → env'.rd 4 = env.rd 4 → env'.rd 10 = env.rd 10 → env'.rd 11 = env.rd 11 → env'.rd 16 = env.rd 16 → env'.rd 59 = env.rd 59 → env'.rd 60 = env.rd 60 → env'.rd 67 = env.rd 67 → env'.rd 68 = env.rd 68 → Q .normal { env := env', n := 121, dfs := [], A := A' }) :
    wC T 6 none d6t { env := env, n := 121, dfs := [], A := A } Q := by
  unfold d6t
  simp [r16, r18]
  refine check_ok A e v l _ (by omega) hv fun A1 ev e1 h1 => ?_
  simp [r16, r18]
  refine rcheck_ok A1 e v l _ (by omega) (hv.ext e1 fun _ _ => id) fun A2 e2 => ?_
  simp [r16, r18, fcells_len, fcells_one, lay_fault]
  generalize hA3 : AHeap.set (AHeap.alloc A2 _) A2.size _ = A3
  have e3 : Ext NoB A2 A3 := by rw [← hA3]; exact ⟨by simp, fun b hb _ => by simp [show b ≠ A2.size by omega]⟩
  have g20 : A3.get A2.size = some (.cells (fcells (walkR e l).2) false 0) := by rw [← hA3]; simp
  clear hA3
  have x3 := (e1.trans e2).trans e3
  refine last_ok A3 e v l _ (hE.extN x3) (by omega) (hv.ext x3 fun _ _ => id) fun A4 e4 => ?_
  simp [r16, r18, lay_whole]
  generalize hA5 : AHeap.set (AHeap.alloc A4 _) A4.size _ = A5
  have e5 : Ext NoB A4 A5 := by rw [← hA5]; exact ⟨by simp, fun b hb _ => by simp [show b ≠ A4.size by omega]⟩
  have g21 : A5.get A4.size = some (.cells (walkR e l).1.cells false 0) := by rw [← hA5]; simp
  clear hA5
  have x5 := (x3.trans e4).trans e5
  refine rlast_ok A5 e v l _ (by omega) (hv.ext x5 fun _ _ => id) fun A6 e6 => ?_
  rw [(walk_last e l).1, (walk_last e l).2]
  simp [lay_whole]
  generalize hA7 : AHeap.set (AHeap.alloc A6 _) A6.size _ = A7
  have e7 : Ext NoB A6 A7 := by rw [← hA7]; exact ⟨by simp, fun b hb _ => by simp [show b ≠ A6.size by omega]⟩
  have g23 : A7.get A6.size = some (.cells (walkR e l).1.cells false 0) := by rw [← hA7]; simp
  clear hA7
  have e57 := e6.trans e7
  have x7 := x5.trans e57
  have k21 := e57.get g21 id
  have k20 := e57.get (e5.get (e4.get g20 id) id) id
  have k1 := (((e2.trans e3).trans e4).trans e5).trans e57
  have h7 := h1.extN k1
  refine wC_opsD_chk ?_
  have c0 : ∃ c x, (fcells (walkR e l).2)[0]? = some (.int .i64 c) ∧ x = ev ∧ ((ev = .nilIface ∧ c = 0) ∨ ((∃ b, ev = .iface 70 (.agg ⟨[.pointer (some ⟨b, 0, none⟩)]⟩)) ∧ c ≠ 0)) := by
    cases hw : (walkR e l).2 with
    | none => rw [hw] at h7; exact ⟨0, ev, rfl, rfl, .inl ⟨h7, rfl⟩⟩
    | some f =>
      rw [hw] at h7
      obtain ⟨b, hev, _⟩ := h7
      exact ⟨f.1, ev, rfl, rfl, .inr ⟨⟨b, hev⟩, walk_code hw⟩⟩
  obtain ⟨c, _, c1, rfl, c2⟩ := c0
  have fin : ∀ env' A', Ext NoB A7 A' → env'.rd 4 = env.rd 4 → env'.rd 10 = env.rd 10 → env'.rd 11 = env.rd 11 → env'.rd 16 = env.rd 16 → env'.rd 59 = env.rd 59 → env'.rd 60 = env.rd 60 → env'.rd 67 = env.rd 67 → env'.rd 68 = env.rd 68 → Q .normal { env := env', n := 121, dfs := [], A := A' } := fun env' A' x => hq env' A' (x7.trans x)
  have vf : vbeq.vbeqs 3 (fcells (walkR e l).2) (fcells (walkR e l).2) = true := by cases (walkR e l).2 <;> simp [fcells, vbeq, vbeq.vbeqs]
  rcases c2 with ⟨rfl, hc⟩ | ⟨⟨b, rfl⟩, hc⟩
  all_goals
    simp [k20, c1, hc]
    refine told_ok A7 _ _ _ (hE.extN x7) h7 fun A8 e8 => ?_
    have m20 := e8.get k20 id
    have m21 := e8.get k21 id
    have m23 := e8.get g23 id
    simp [m20, m21, fcells_len, fcells_take, eq_fault]
    refine both_ok A8 _ _ fun A9 e9 => ?_
    have n23 := e9.get m23 id
    simp [n23, eq_cells]
    refine wE_intro ?_ ?_
    · simp only [List.all_cons, List.all_nil, chkOk, List.nil_append, List.cons_append, List.getElem?_cons_succ, List.getElem?_cons_zero]
      simp [Bx, vbeq, vb_self, vf, k20, k21, g23, m20, m21, m23, n23, fcells_len, fcells_take]
    simp
    exact fin _ A9 (e8.trans e9) (by simp) (by simp) (by simp) (by simp) (by simp) (by simp) (by simp) (by simp)
end Go.Proofs.YtcfahggmejpdbaaDoor
