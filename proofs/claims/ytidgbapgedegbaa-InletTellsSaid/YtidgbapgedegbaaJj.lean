/- Both inlets: an act. -/
import Derived.Test.YtidgbapgedegbaaJi
import Derived.Test.YtidgbapgedegbaaDk
import Derived.KernelRfl
namespace Go.Proofs.Ytidgbapgedegbaa
open Go Go.AS
set_option maxRecDepth 100000
set_option linter.unusedSimpArgs false
set_option linter.unusedVariables false
attribute [local irreducible] Trie.set Trie.get Env.rd
attribute [local simp ↓] wV_b2s
attribute [local simp] Nat.add_assoc wD_cons'' wD_nil' wC_seq wC_ops wC_opsD_nil wC_cond wC_skip wC_ret wC_exit wC_block wO_cons' wO_nil wantedA wV_eq lop qop ev wL_some wL_none wPut envOf rd_set rd_leaf eqA thenC blockC wB_true wB_false endF unwindA resultsA resA tupleA rdCell rdCells wrCells cl fillP lay rep binA unA get_set' AHeap.get_alloc oneCell beqd bned idxA

def acx (w off : Int) (x : Mp) (c6 : Value) : List Value := [.int .u8 w, .int .i64 off, .int .i64 x.at_, .int .i64 x.off, .int .i64 x.len, .int .u16 x.sum, c6]
theorem Bo.up {A : AHeap} {i r h t : Nat} {s : IS} {lm : List Mp} {S R : Nat → Prop} {K : Nat} (B : Bo A i r h t s lm S R K) : Bo A i r h t s lm S R (K + 1) :=
  ⟨B.a, ⟨B.b.g, B.b.rs, B.b.fm, Nat.le_succ_of_le B.b.len, B.b.rr, B.b.lt⟩, B.dis, B.lS, B.ok⟩
set_option maxHeartbeats 1600000 in
theorem alike_a (A : AHeap) (i r h t : Nat) (s : IS) (lm : List Mp) (S R : Nat → Prop) (K : Nat) (q3 : Nat) (w off : Int) (x : Mp) (n : Nat) (l8 : List UInt8) (c6 : Value) (env : Env) (Q : AExit → St → Prop) (B : Bo A i r h t s lm S R K) (hK : K < 1000)
    (g3 : A.get q3 = some (.cells (acx w off x c6) false 0)) (nS : ¬ S q3) (nR : ¬ R q3) (ho : -9223372036854775808 ≤ off ∧ off < 9223372036854775808) (hx : x.sum = (n : Int)) (hn : n < 65536) (hxa : x.at_ < 9223372036854775808) (h8 : l8.length ≤ 100)
    (r1 : env.rd 1 = .pointer (some ⟨i, 0, none⟩)) (r2 : env.rd 2 = .pointer (some ⟨r, 0, none⟩)) (r3 : env.rd 3 = .pointer (some ⟨q3, 0, none⟩)) (r8 : env.rd 8 = .string ⟨⟨l8⟩⟩)(hq : ∀ env' A' s' lm' S' R', Bo A' i r h t s' lm' S' R' (K + 1) → Ext (fun j => S j ∨ R j) A A' → (∀ j, S' j → S j ∨ A.size ≤ j) → (∀ j, R' j → R j ∨ A.size ≤ j) → env'.rd 1 = env.rd 1 → env'.rd 2 = env.rd 2 → env'.rd 3 = env.rd 3 → env'.rd 7 = .bool true → Q .normal { env := env', n := 214, dfs := [], A := A' }) : wC T 30 none c30a { env := env, n := 214, dfs := [], A := A } Q := by
  have hlq := AHeap.get_lt g3
  unfold c30a
  refine wC_opsD_chk ?_
  simp [acx] at g3
  simp [r1, r3, r8, g3]
  refine bo_put B off l8 (by omega) ho _ fun A1 b1 e1 go => ?_
  have g31 := e1.get g3 nS
  have gr1 := b1.g
  simp [r2, r3, r8, g31, gr1]
  refine go _ fun A2 B2 e2 e12 => ?_
  simp
  refine wE_intro ?_ ?_
  · simp only [List.all_cons, List.all_nil, chkOk, List.nil_append, List.cons_append, List.getElem?_cons_succ, List.getElem?_cons_zero]
    simp [Bx, r2, r3, g3, g31, gr1, B.b.g, vbeq, vbeq.vbeqs]
  exact hq _ A2 _ lm S R B2.up e2 (fun j hj => .inl hj) (fun j hj => .inl hj) (by simp) (by simp) (by simp) (by simp)
set_option maxHeartbeats 1600000 in
theorem alike_b (A : AHeap) (i r h t : Nat) (s : IS) (lm : List Mp) (S R : Nat → Prop) (K : Nat) (q3 : Nat) (w off : Int) (x : Mp) (n : Nat) (l8 : List UInt8) (c6 : Value) (env : Env) (Q : AExit → St → Prop) (B : Bo A i r h t s lm S R K) (hK : K < 1000)
    (g3 : A.get q3 = some (.cells (acx w off x c6) false 0)) (nS : ¬ S q3) (nR : ¬ R q3) (ho : -9223372036854775808 ≤ off ∧ off < 9223372036854775808) (hx : x.sum = (n : Int)) (hn : n < 65536) (hxa : x.at_ < 9223372036854775808) (h8 : l8.length ≤ 100)
    (r1 : env.rd 1 = .pointer (some ⟨i, 0, none⟩)) (r2 : env.rd 2 = .pointer (some ⟨r, 0, none⟩)) (r3 : env.rd 3 = .pointer (some ⟨q3, 0, none⟩)) (r8 : env.rd 8 = .string ⟨⟨l8⟩⟩)(hq : ∀ env' A' s' lm' S' R', Bo A' i r h t s' lm' S' R' (K + 1) → Ext (fun j => S j ∨ R j) A A' → (∀ j, S' j → S j ∨ A.size ≤ j) → (∀ j, R' j → R j ∨ A.size ≤ j) → env'.rd 1 = env.rd 1 → env'.rd 2 = env.rd 2 → env'.rd 3 = env.rd 3 → env'.rd 7 = .bool true → Q .normal { env := env', n := 214, dfs := [], A := A' }) : wC T 30 none c30b { env := env, n := 214, dfs := [], A := A } Q := by
  have hlq := AHeap.get_lt g3
  have big := B.ok.big
  simp [acx] at g3
  unfold c30b
  simp
  refine wC_opsD_chk ?_
  simp [r2]
  refine rN_ok A r h t s lm R K B.b _ ?_
  obtain ⟨u, hu, hu2⟩ := u64_natB off
  obtain ⟨v, hv1, hv2⟩ := tmod_lt u 20 (by omega)
  have hv1' : (u : Int).tmod 20 = v := hv1
  have w1 : IntKind.i64.wrap (v : Int) = v := IntWalk.i64_in _ (by omega)
  have w2 : IntKind.i64.wrap ((s.base : Int) + (v : Int)) = (s.base : Int) + (v : Int) := IntWalk.i64_in _ (by omega)
  have w3 : IntKind.i64.wrap ((s.base : Int) + (v : Int) - 4) = (s.base : Int) + (v : Int) - 4 := IntWalk.i64_in _ (by omega)
  simp [r3, g3, hu, hv1', w1, w2, w3]
  refine wE_intro ?_ ?_
  · simp only [List.all_cons, List.all_nil, chkOk, List.nil_append, List.cons_append, List.getElem?_cons_succ, List.getElem?_cons_zero]
    simp [Bx, r3, g3, vbeq]
  simp
  refine wC_opsD_chk ?_
  simp [r1, r8]
  refine bo_put B ((s.base : Int) + (v : Int) - 4) l8 (by omega) (by omega) _ fun A1 b1 e1 go => ?_
  have gr1 := b1.g
  simp [r2, r8, gr1]
  refine go _ fun A2 B2 e2 e12 => ?_
  simp
  refine wE_intro ?_ ?_
  · simp only [List.all_cons, List.all_nil, chkOk, List.nil_append, List.cons_append, List.getElem?_cons_succ, List.getElem?_cons_zero]
    simp [Bx, r2, gr1, B.b.g, vbeq, vbeq.vbeqs]
  exact hq _ A2 _ lm S R B2.up e2 (fun j hj => .inl hj) (fun j hj => .inl hj) (by simp) (by simp) (by simp) (by simp)
set_option maxHeartbeats 1600000 in
theorem alike_c (A : AHeap) (i r h t : Nat) (s : IS) (lm : List Mp) (S R : Nat → Prop) (K : Nat) (q3 : Nat) (w off : Int) (x : Mp) (n : Nat) (l8 : List UInt8) (c6 : Value) (env : Env) (Q : AExit → St → Prop) (B : Bo A i r h t s lm S R K) (hK : K < 1000)
    (g3 : A.get q3 = some (.cells (acx w off x c6) false 0)) (nS : ¬ S q3) (nR : ¬ R q3) (ho : -9223372036854775808 ≤ off ∧ off < 9223372036854775808) (hx : x.sum = (n : Int)) (hn : n < 65536) (hxa : x.at_ < 9223372036854775808) (h8 : l8.length ≤ 100)
    (r1 : env.rd 1 = .pointer (some ⟨i, 0, none⟩)) (r2 : env.rd 2 = .pointer (some ⟨r, 0, none⟩)) (r3 : env.rd 3 = .pointer (some ⟨q3, 0, none⟩)) (r8 : env.rd 8 = .string ⟨⟨l8⟩⟩)(hq : ∀ env' A' s' lm' S' R', Bo A' i r h t s' lm' S' R' (K + 1) → Ext (fun j => S j ∨ R j) A A' → (∀ j, S' j → S j ∨ A.size ≤ j) → (∀ j, R' j → R j ∨ A.size ≤ j) → env'.rd 1 = env.rd 1 → env'.rd 2 = env.rd 2 → env'.rd 3 = env.rd 3 → env'.rd 7 = .bool true → Q .normal { env := env', n := 214, dfs := [], A := A' }) : wC T 30 none c30c { env := env, n := 214, dfs := [], A := A } Q := by
  have hlq := AHeap.get_lt g3
  simp [acx] at g3
  unfold c30c
  refine wC_opsD_chk ?_
  simp [r1, r3, g3]
  refine bo_map B (by omega) x hxa ⟨n, hx, hn⟩ _ fun b A1 S1 b1 e1 hS go => ?_
  have g31 := e1.get g3 nS
  have gr1 := b1.g
  have z1 := e1.size
  simp [r2, r3, g31, gr1]
  refine go _ fun A2 s2 lm2 R2 B2 e2 hR => ?_
  simp
  refine wE_intro ?_ ?_
  · simp only [List.all_cons, List.all_nil, chkOk, List.nil_append, List.cons_append, List.getElem?_cons_succ, List.getElem?_cons_zero]
    simp [Bx, r2, r3, g3, g31, gr1, B.b.g, vbeq, vbeq.vbeqs]
  exact hq _ A2 s2 lm2 S1 R2 B2 ((e1.mono fun _ _ q => .inl q).trans (e2.mono fun _ _ q => .inr q)) (fun j hj => (hS j hj).imp id fun z => z.1) (fun j hj => (hR j hj).imp id fun z => by omega) (by simp) (by simp) (by simp) (by simp)
set_option maxHeartbeats 1600000 in
theorem alike_e (A : AHeap) (i r h t : Nat) (s : IS) (lm : List Mp) (S R : Nat → Prop) (K : Nat) (q3 : Nat) (w off : Int) (x : Mp) (n : Nat) (l8 : List UInt8) (c6 : Value) (env : Env) (Q : AExit → St → Prop) (B : Bo A i r h t s lm S R K) (hK : K < 1000)
    (g3 : A.get q3 = some (.cells (acx w off x c6) false 0)) (nS : ¬ S q3) (nR : ¬ R q3) (ho : -9223372036854775808 ≤ off ∧ off < 9223372036854775808) (hx : x.sum = (n : Int)) (hn : n < 65536) (hxa : x.at_ < 9223372036854775808) (h8 : l8.length ≤ 100)
    (r1 : env.rd 1 = .pointer (some ⟨i, 0, none⟩)) (r2 : env.rd 2 = .pointer (some ⟨r, 0, none⟩)) (r3 : env.rd 3 = .pointer (some ⟨q3, 0, none⟩)) (r8 : env.rd 8 = .string ⟨⟨l8⟩⟩)(hq : ∀ env' A' s' lm' S' R', Bo A' i r h t s' lm' S' R' (K + 1) → Ext (fun j => S j ∨ R j) A A' → (∀ j, S' j → S j ∨ A.size ≤ j) → (∀ j, R' j → R j ∨ A.size ≤ j) → env'.rd 1 = env.rd 1 → env'.rd 2 = env.rd 2 → env'.rd 3 = env.rd 3 → env'.rd 7 = .bool true → Q .normal { env := env', n := 214, dfs := [], A := A' }) (r7 : env.rd 7 = .bool true) : wC T 30 none c30e { env := env, n := 214, dfs := [], A := A } Q := by
  have hlq := AHeap.get_lt g3
  simp [acx] at g3
  obtain ⟨u, hu, hu2⟩ := u64_natB off
  obtain ⟨v, hv1, hv2⟩ := tmod_lt u 12 (by omega)
  have hv1' : (u : Int).tmod 12 = v := hv1
  have w1 : IntKind.i64.wrap (v : Int) = v := IntWalk.i64_in _ (by omega)
  have w2 : IntKind.i64.wrap ((v : Int) - 2) = (v : Int) - 2 := IntWalk.i64_in _ (by omega)
  unfold c30e
  by_cases c3 : x.at_ = 3
  · simp [r3, g3, hu, hv1', w1, w2, c3, r1]
    refine bo_skip B (by omega) off ho _ fun w A1 e1 go => ?_
    simp [r2]
    refine go _ fun w2 A2 s2 lm2 R2 B2 e2 hR => ?_
    have z1 := e1.size
    simp
    exact hq _ A2 s2 lm2 S R2 B2.up ((e1.mono fun _ _ q => .inl q).trans (e2.mono fun _ _ q => .inr q)) (fun j hj => .inl hj) (fun j hj => (hR j hj).imp id fun z => by omega) (by simp) (by simp) (by simp) (by simp [r7])
  · simp [r3, g3, hu, hv1', w1, w2, c3, r1]
    refine bo_skip B (by omega) ((v : Int) - 2) (by omega) _ fun w A1 e1 go => ?_
    simp [r2]
    refine go _ fun w2 A2 s2 lm2 R2 B2 e2 hR => ?_
    have z1 := e1.size
    simp
    exact hq _ A2 s2 lm2 S R2 B2.up ((e1.mono fun _ _ q => .inl q).trans (e2.mono fun _ _ q => .inr q)) (fun j hj => .inl hj) (fun j hj => (hR j hj).imp id fun z => by omega) (by simp) (by simp) (by simp) (by simp [r7])
end Go.Proofs.Ytidgbapgedegbaa
