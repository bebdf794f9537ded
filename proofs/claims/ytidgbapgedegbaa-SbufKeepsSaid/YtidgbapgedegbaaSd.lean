/- A buffer: acknowledgements. -/
import Derived.Test.YtidgbapgedegbaaSc
import Derived.KernelRfl
namespace Go.Proofs.Ytidgbapgedegbaa
open Go Go.AS
set_option maxRecDepth 100000
set_option linter.unusedSimpArgs false
set_option linter.unusedVariables false
attribute [local irreducible] Trie.set Trie.get Env.rd
attribute [local simp] Nat.add_assoc wD_cons'' wD_nil' wC_seq wC_ops wC_opsD_nil wC_cond wC_skip wC_ret wC_exit wC_block wO_cons' wO_nil wantedA wV_eq lop qop ev wL_some wL_none wPut envOf rd_set rd_leaf eqA thenC blockC wB_true wB_false endF unwindA resultsA resA tupleA rdCell rdCells wrCells cl fillP lay rep binA unA get_set' AHeap.get_alloc oneCell beqd bned idxA

theorem len_ok (n : Nat) (hn : n < 256) (A : AHeap) (Q : Value → AHeap → Prop) (hq : ∀ c : Nat, c < 9 → Q (.int .i64 (c : Nat)) A) : wF T (.func (.func 112) #[] #[]) [.int .u64 (n : Nat)] A Q := by
  have tb : ∀ k : Fin 256, ∃ b, tab8[k.val]? = some b ∧ b.toNat < 9 := by decide
  obtain ⟨b, b1, b2⟩ := tb ⟨n, hn⟩
  refine wF_func (first := []) (captured := []) t112 ⟨rfl, by decide⟩ ?_
  dsimp only [c112]; simp
  refine wF_func (first := []) (captured := []) t147 ⟨rfl, by decide⟩ ?_
  dsimp only [c147]
  have g1 : ¬ (4294967296 : Int) ≤ (n : Int) := by omega
  have g2 : ¬ (65536 : Int) ≤ (n : Int) := by omega
  have g3 : ¬ (256 : Int) ≤ (n : Int) := by omega
  have w1 : IntKind.u8.wrap (n : Int) = (n : Int) := IntWalk.u8_in _ (by omega)
  have w2 : IntKind.i64.wrap (b.toNat : Int) = (b.toNat : Int) := IntWalk.i64_in _ (by omega)
  simp only at b1
  simp [g1, g2, g3, w1, w2, b1]
  exact hq _ b2

def Sorts (k : Nat) : Prop := ∀ (m : List Spn) (d o c bl opn : Nat) (A : AHeap) (Q : Value → AHeap → Prop), m.length = k → (∀ x ∈ m, SOk x) → DataAt spn A d o bl opn m →
  (∀ A' m' w, m'.Perm m → Srt m' → DataAt spn A' d o bl opn m' → Ext (fun j => j = d) A A' → Q w A') → wF T (.func (.func 60) #[] #[]) [.slice (some ⟨d, o, none⟩) k c, cmpv] A Q

theorem sorts_small (k : Nat) (hk : k ≤ 12) : Sorts k := by
  intro m d o c bl opn A Q hm hok h hq
  subst hm
  refine wF_func (first := []) (captured := []) t60 ⟨rfl, by decide⟩ ?_
  dsimp only [c60]
  have w1 : IntKind.u64.wrap (m.length : Int) = (m.length : Int) := IntWalk.u64_in _ (by omega)
  simp [w1]
  refine len_ok m.length (by omega) A _ fun lim hlim => ?_
  simp
  refine wF_func (first := []) (captured := []) t111 ⟨rfl, by decide⟩ ?_
  dsimp only [c111]
  simp
  refine wC_loop ?_
  have w0 : IntKind.i64.wrap (m.length : Int) = (m.length : Int) := IntWalk.i64_in _ (by omega)
  have g : (m.length : Int) ≤ 12 := by omega
  simp [w0, g]
  have := isort_ok d o c m.length bl opn [] m [] A (fun _ A' => Q (.tuple ⟨[]⟩) A') (by simp) (by omega) (by simpa using h) hok (fun A' m' w p1 p2 p3 p4 => hq A' m' _ p1 p2 (by simpa using p3) p4)
  simp at this
  refine this.mono fun w A' hw => ?_
  simp
  exact hw

theorem behind_ok (s x : Spn) (A : AHeap) (Q : Value → AHeap → Prop) (hq : ∀ A', Ext NoB A A' → Q (.bool (decide (x.1 ≤ s.2))) A') : wF T (.func (.func 63) ⟨[.agg ⟨spn s⟩]⟩ #[]) [.agg ⟨spn x⟩] A Q := by
  refine wF_func (first := [.agg ⟨spn s⟩]) (captured := []) t63 ⟨rfl, by decide⟩ ?_
  dsimp only [c63]
  simp [spn]
  exact hq _ ((Ext.alloc).trans Ext.alloc)

theorem take_ok (q6 q7 : Nat) (s x : Spn) (i : Nat) (hi : i < 1000000) (A : AHeap) (Q : Value → AHeap → Prop) (h6 : A.get q6 = some (.cells (spn s) false 0)) (h7 : A.get q7 = some (.cells [.int .i64 (i : Nat)] false 0)) (hne : q6 ≠ q7)
    (hq : ∀ A' w, Ext (fun j => j = q6 ∨ j = q7) A A' → A'.get q6 = some (.cells (spn (s.1, max s.2 x.2)) false 0) → A'.get q7 = some (.cells [.int .i64 ((i + 1 : Nat) : Int)] false 0) → Q w A') :
    wF T (.func (.func 62) #[] ⟨[.pointer (some ⟨q6, 0, none⟩), .pointer (some ⟨q7, 0, none⟩)]⟩) [.agg ⟨spn x⟩] A Q := by
  refine wF_func (first := []) (captured := [.pointer (some ⟨q6, 0, none⟩), .pointer (some ⟨q7, 0, none⟩)]) t62 ⟨rfl, by decide⟩ ?_
  dsimp only [c62]
  have l6 := AHeap.get_lt h6
  have l7 := AHeap.get_lt h7
  have w : IntKind.i64.wrap ((i : Int) + 1) = ((i + 1 : Nat) : Int) := by rw [IntWalk.i64_in _ (by omega)]; omega
  have m1 : foldV maxV (.int .i64 s.2) [.int .i64 x.2] = some (.int .i64 (max s.2 x.2)) := by
    simp only [foldV, maxV]
    congr 2; omega
  simp [spn, h6, h7, l6, l7, hne, hne.symm, w, m1, show q6 ≠ A.size by omega, show q7 ≠ A.size by omega, show q6 < A.size + 1 by omega, show q7 < A.size + 1 by omega]
  refine hq _ _ ?_ ?_ ?_
  · refine ⟨by simp, fun j hj hn => ?_⟩
    have n6 : j ≠ q6 := fun q => hn (.inl q)
    have n7 : j ≠ q7 := fun q => hn (.inr q)
    simp [n6, n7, show j ≠ A.size by omega]
  · simp [hne, spn, show q6 < A.size + 1 by omega]
  · simp [show q7 < A.size + 1 by omega]

/-- How far spans reach, and how many of them. -/
def reach (to : Int) : List Spn → Int × Nat
  | [] => (to, 0)
  | x :: l => if x.1 ≤ to then ((reach (max to x.2) l).1, (reach (max to x.2) l).2 + 1) else (to, 0)
theorem reach_le (hi : Int) : ∀ (l : List Spn) (to : Int), to ≤ hi → (∀ s ∈ l, s.2 ≤ hi) → to ≤ (reach to l).1 ∧ (reach to l).1 ≤ hi ∧ (reach to l).2 ≤ l.length
  | [], to, h, _ => ⟨Int.le_refl _, h, Nat.le_refl _⟩
  | x :: l, to, h, hs => by
    unfold reach
    split
    · have := reach_le hi l (max to x.2) (by have := hs x (by simp); omega) fun s hs' => hs s (by simp [hs'])
      simp only [List.length_cons]
      omega
    · exact ⟨Int.le_refl _, h, Nat.zero_le _⟩

def AckI (d o c : Nat) (p : Nat) (m : List Spn) (una : Int) (q6 q7 : Nat) (A1 : AHeap) (k : Nat) (st : St) : Prop := ∃ m1 m2 to, k = m2.length ∧ m = m1 ++ m2 ∧ st.n = 118 ∧ st.dfs = [] ∧ st.env.rd 0 = .pointer (some ⟨p, 0, none⟩) ∧ st.env.rd 6 = .pointer (some ⟨q6, 0, none⟩) ∧ st.env.rd 7 = .pointer (some ⟨q7, 0, none⟩) ∧
  st.env.rd 8 = .func (.func 62) #[] ⟨[.pointer (some ⟨q6, 0, none⟩), .pointer (some ⟨q7, 0, none⟩)]⟩ ∧ st.env.rd 73 = .slice (some ⟨d, o, none⟩) m.length c ∧ st.env.rd 74 = .int .i64 (m.length : Nat) ∧ st.env.rd 75 = .int .i64 (m1.length : Nat) ∧
  reach una m = ((reach to m2).1, (reach to m2).2 + m1.length) ∧ st.A.get q6 = some (.cells (spn (una, to)) false 0) ∧ st.A.get q7 = some (.cells [.int .i64 (m1.length : Nat)] false 0) ∧ Ext (fun j => j = q6 ∨ j = q7) A1 st.A

/-- How many bytes an acknowledgement tells of. -/
def ackN (b : SB) (off n : Int) : Int := min (if off < 0 then n + off else n) (b.sent - max off 0)
/-- What an acknowledgement does. -/
inductive Acked (b : SB) (sp : List Spn) (off n : Int) : SB → List Spn → Prop
  | none : (n < 1 ∨ off ≥ b.sent ∨ ackN b off n < 1) → Acked b sp off n b sp
  | some (m : List Spn) : 1 ≤ n → off < b.sent → 1 ≤ ackN b off n → m.Perm (sp ++ [(max off 0, max off 0 + ackN b off n)]) → Srt m →
      Acked b sp off n { b with una := (reach b.una m).1.toNat, text := b.text.drop ((reach b.una m).1.toNat - b.una) } (m.drop (reach b.una m).2)

theorem ackr_ok (A : AHeap) (p : Nat) (b : SB) (sp : List Spn) (S : Nat → Prop) (Q : Value → AHeap → Prop) (off n : Int) (h : BufAt A p b sp S) (ok : b.Ok sp) (hs : Sorts (sp.length + 1)) (hlen : sp.length < 100000)
    (g1 : 1 ≤ n) (g2 : off < b.sent) (hr : n < 9223372036854775808) (env : Env) (r0 : env.rd 0 = .pointer (some ⟨p, 0, none⟩)) (r1 : env.rd 1 = .int .i64 (max off 0)) (r2 : env.rd 2 = .int .i64 (if off < 0 then n + off else n))
    (hq : ∀ A' w b' sp' S', Acked b sp off n b' sp' → Ext S A A' → BufAt A' p b' sp' S' → (∀ j, S' j → S j ∨ A.size ≤ j) → b'.Ok sp' → Q w A') :
    wC T 18 none c18r { env := env, n := 118, dfs := [], A := A } (endF [] Q) := by
  have lt := h.lt
  have h' := h
  obtain ⟨av, h1, h2, h3, h4, h5⟩ := h'
  have ok' := ok
  obtain ⟨o1, o2, o3, o4, o5, o6⟩ := ok'
  obtain ⟨f1, hf1⟩ : ∃ f1 : Nat, max off 0 = (f1 : Int) := ⟨(max off 0).toNat, by omega⟩
  have w1 : IntKind.i64.wrap ((b.sent : Int) - (f1 : Int)) = (b.sent : Int) - (f1 : Int) := IntWalk.i64_in _ (by omega)
  have w2 : foldV minV (.int .i64 (if off < 0 then n + off else n)) [.int .i64 ((b.sent : Int) - (f1 : Int))] = some (.int .i64 (ackN b off n)) := by
    simp only [foldV, minV, ackN, hf1]
    congr 2; omega
  rw [hf1] at r1
  unfold c18r
  by_cases g3 : ackN b off n < 1
  · simp [r0, r1, r2, h1, SB.cells, w1, w2, g3]
    exact hq _ _ b sp S (.none (.inr (.inr g3))) Ext.refl h (fun j hj => .inl hj) ok
  have hle : ackN b off n ≤ b.sent - f1 := by unfold ackN; rw [hf1]; omega
  have sd := @Acked.some b sp off n
  generalize ackN b off n = n2 at *
  obtain ⟨n3, rfl⟩ : ∃ n3 : Nat, n2 = (n3 : Int) := ⟨n2.toNat, by omega⟩
  rw [hf1] at sd
  have w3 : IntKind.i64.wrap ((f1 : Int) + (n3 : Int)) = (f1 : Int) + (n3 : Int) := IntWalk.i64_in _ (by omega)
  have ea : Ext NoB A (A.alloc (.cells [.int .i64 (f1 : Int), .int .i64 ((f1 : Int) + (n3 : Int))] false 0)) := Ext.alloc
  have ga : (A.alloc (.cells [.int .i64 (f1 : Int), .int .i64 ((f1 : Int) + (n3 : Int))] false 0)).get A.size = some (.cells [.int .i64 (f1 : Int), .int .i64 ((f1 : Int) + (n3 : Int))] false 0) := by simp
  obtain ⟨v', A2, ap, sl2, ex2, ow2⟩ := (h2.ext ea fun j hj q => q).append (m := 1) (bytes := 16) (x := .slice (some ⟨A.size, 0, none⟩) 1 1) (new := [.int .i64 (f1 : Int), .int .i64 ((f1 : Int) + (n3 : Int))]) (by decide) rfl
    (by simp [firstA, ga, ENDCAP]) rfl rfl (by omega) (by decide) (fun q => by cases q)
  have en : encs spn sp ++ [.int .i64 (f1 : Int), .int .i64 ((f1 : Int) + (n3 : Int))] = encs spn (sp ++ [((f1 : Int), (f1 : Int) + (n3 : Int))]) := by simp [encs, spn]
  rw [en] at sl2
  obtain ⟨a', c', hv'⟩ := sl2.read.val
  subst hv'
  have sz2 := ex2.size
  simp only [AHeap.size_alloc] at sz2
  have gp2 : A2.get p = some (.cells (b.cells av) false 0) := ex2.get (ea.get h1 id) h4
  have lp2 := AHeap.get_lt gp2
  have nv' : ¬ Own (.slice a' (sp.length + 1) c') p := fun q => by
    rcases ow2 p q with k | k
    · exact h4 k
    · simp only [AHeap.size_alloc] at k; omega
  simp [r0, r1, r2, h1, SB.cells, w1, w2, w3, g3, ap, gp2, lp2]
  generalize hA3 : AHeap.set A2 p _ = A3
  obtain ⟨g3p, e3, z3⟩ := set_facts lp2 hA3
  have sl3 := sl2.ext e3 fun j hj q => nv' (q ▸ hj)
  have sln : sp.length + 1 = (sp ++ [((f1 : Int), (f1 : Int) + (n3 : Int))]).length := by simp
  rw [sln] at sl3
  obtain ⟨d, o, c, bl, opn, hv, dat, back⟩ := sl3.data spnz (by decide) (by simp)
  cases hv
  have hdp : d ≠ p := fun q => nv' ⟨_, _, _, by rw [q]⟩
  have hspn : ∀ x ∈ sp ++ [((f1 : Int), (f1 : Int) + (n3 : Int))], 0 ≤ x.1 ∧ x.1 < x.2 ∧ x.2 ≤ (b.sent : Int) := fun x hx => by
    rcases List.mem_append.1 hx with k | k
    · exact o6 x k
    · rw [List.mem_singleton] at k; subst k; simp only; omega
  refine hs _ d o c' bl opn A3 _ (by simp) (fun x hx => ?_) dat fun A4 m w pm sm dat4 e4 => ?_
  · have := hspn x hx; exact ⟨by omega, by omega⟩
  have hmn : m.length = sp.length + 1 := by rw [pm.length_eq]; simp
  have g4p := e4.get g3p fun q => hdp q.symm
  have lp4 := AHeap.get_lt g4p
  have ld4 := dat4.lt
  simp [r0, r1, r2, g4p, lp4, show p ≠ A4.size by omega, show p ≠ A4.size + 1 by omega, SB.cells]
  generalize hA5 : AHeap.set (AHeap.set _ _ _) _ _ = A5
  have e5 : Ext NoB A4 A5 := ⟨by rw [← hA5]; simp, fun j hj _ => by rw [← hA5]; simp [show j ≠ A4.size by omega, show j ≠ A4.size + 1 by omega]⟩
  have g56 : A5.get A4.size = some (.cells (spn (b.una, b.una)) false 0) := by rw [← hA5]; simp [spn]
  have g57 : A5.get (A4.size + 1) = some (.cells [.int .i64 ((0 : Nat) : Int)] false 0) := by rw [← hA5]; simp
  have g5p := e5.get g4p id
  have dat5 := dat4.ext e5 id
  clear hA5
  have spm : ∀ s ∈ m, 0 ≤ s.1 ∧ s.1 < s.2 ∧ s.2 ≤ (b.sent : Int) := fun s hs => hspn s (pm.subset hs)
  have fin : ∀ (e : Env) (A6 : AHeap) (m1 m2 : List Spn) (to : Int), m = m1 ++ m2 → reach b.una m = (to, m1.length) → e.rd 0 = .pointer (some ⟨p, 0, none⟩) → e.rd 6 = .pointer (some ⟨A4.size, 0, none⟩) → e.rd 7 = .pointer (some ⟨A4.size + 1, 0, none⟩) →
      A6.get A4.size = some (.cells (spn (b.una, to)) false 0) → A6.get (A4.size + 1) = some (.cells [.int .i64 (m1.length : Nat)] false 0) → Ext (fun j => j = A4.size ∨ j = A4.size + 1) A5 A6 → wC T 18 none c18e { env := e, n := 118, dfs := [], A := A6 } (endF [] Q) := by
    intro e A6 m1 m2 to km rr e0 e6 e7 a6 a7 x6
    have dat6 := dat5.ext x6 (show ¬ (d = A4.size ∨ d = A4.size + 1) by omega)
    have g6p := x6.get g5p (show ¬ (p = A4.size ∨ p = A4.size + 1) by omega)
    have sl6 := back A6 m (by simp [hmn]) dat6
    rw [hmn] at sl6
    have hm1 : m1.length ≤ sp.length + 1 := by rw [← hmn, km]; simp
    obtain ⟨v6, c1, sl7, ow7⟩ := sl6.from (k1 := .i64) (by decide) hm1
    rw [← sln] at ow7
    obtain ⟨a6', c6', hv6⟩ := sl7.read.val
    subst hv6
    have lp6 := AHeap.get_lt g6p
    have np6 : p ≠ A4.size := by omega
    have np7 : p ≠ A4.size + 1 := by omega
    have rl := reach_le b.sent m b.una (by omega) fun s hs => (spm s hs).2.2
    rw [rr] at rl
    simp only at rl
    obtain ⟨t, ht⟩ : ∃ t : Nat, to = (t : Int) := ⟨to.toNat, by omega⟩
    subst ht
    have w5 : IntKind.i64.wrap ((t : Int) - (b.una : Int)) = ((t - b.una : Nat) : Int) := by rw [IntWalk.i64_in _ (by omega)]; omega
    have s1 := sl_from b.text .i64 (t - b.una) (by omega)
    unfold c18e
    simp only [List.length_append, List.length_cons, List.length_nil, Nat.zero_add] at c1
    simp [e0, e6, e7, a6, a7, g6p, SB.cells, spn, lp6, np6, np6.symm, np7, np7.symm, c1, w5, s1]
    generalize hA9 : AHeap.set (AHeap.set (AHeap.set A6 p _) p _) p _ = A9
    have g9p : A9.get p = some (.cells (({ b with una := t, text := b.text.drop (t - b.una) } : SB).cells (.slice a6' (sp.length + 1 - m1.length) c6')) false 0) := by rw [← hA9]; simp [lp6, SB.cells]
    have x9 : Ext (fun j => j = p) A6 A9 := by rw [← hA9]; exact ((Ext.set (S := fun j => j = p) rfl).trans (Ext.set rfl)).trans (Ext.set rfl)
    clear hA9
    have z4 := e4.size
    have z5 := e5.size
    have dS : ∀ j, Own (.slice (some ⟨d, o, none⟩) (sp.length + 1) c') j → S j ∨ A.size + 1 ≤ j := fun j hj => by
      obtain ⟨o', n', c'', q⟩ := hj
      cases q
      rcases ow2 _ ⟨_, _, _, rfl⟩ with k | k
      · exact .inl (h5 _ k)
      · exact .inr (by simpa using k)
    have drp : (encs spn m).drop (m1.length * 2) = encs spn (m.drop m1.length) := by
      rw [km, encs_append, ← encs_len spnz, List.drop_left, List.drop_left]
    have dl : (m.drop m1.length).length = sp.length + 1 - m1.length := by rw [List.length_drop, hmn]
    have hsd := sd m (by omega) g2 (by omega) pm sm
    rw [rr] at hsd
    simp only [Int.toNat_natCast] at hsd
    refine hq A9 _ _ _ (fun j => S j ∨ A.size ≤ j) hsd ?_ ⟨_, g9p, ?_, .inl h3, ?_, ?_⟩ (fun j hj => hj) ⟨by simp only; omega, by simp only [List.length_drop]; omega, by simp only [List.length_drop]; omega, o4, by simp only [List.length_drop]; omega, fun s hs => spm s (List.mem_of_mem_drop hs)⟩
    · have zz := ea.size
      have S0 : ∀ j, j < A.size → (S j ∨ A.size + 1 ≤ j) → S j := fun j hj q => by
        rcases q with q | q
        · exact q
        · omega
      have q1 : Ext S A A3 := (((ea.mono (S' := S) fun _ _ q => q.elim).trans2 ex2 fun j _ q => h5 j q)).trans2 e3 fun j _ q => q ▸ h3
      refine (((q1.trans2 e4 fun j hj q => S0 j hj (q ▸ dS d ⟨_, _, _, rfl⟩)).trans2 e5 fun j _ q => q.elim).trans2 x6 fun j hj q => ?_).trans2 x9 fun j _ q => q ▸ h3
      have := q1.size
      rcases q with q | q <;> omega
    · rw [dl, ← drp]
      exact sl7.ext x9 fun j hj q => nv' (q ▸ ow7 j hj)
    · exact fun q => nv' (ow7 p q)
    · intro j hj
      rcases dS j (ow7 j hj) with k | k
      · exact .inl k
      · exact .inr (by omega)
  refine wC_loop_inv (AckI d o c' p m b.una A4.size (A4.size + 1) A5) ?_ m.length _ ⟨[], m, b.una, rfl, rfl, rfl, rfl, by simp [r0], by simp, by simp, by simp, by simp [hmn], by simp [hmn], by simp, by simp, g56, g57, Ext.refl⟩
  rintro k ⟨env', nn, dfs, A6⟩ ⟨m1, m2, to, k0, km, k1, k2, e0, e6, e7, e8, e73, e74, e75, rr, a6, a7, x6⟩
  simp only at k1 k2 e0 e6 e7 e8 e73 e74 e75 a6 a7 x6
  subst k1; subst k2; subst k0
  cases m2 with
  | nil =>
    have hl : m1.length = m.length := by rw [km]; simp
    simp [e74, e75, hl]
    refine fin _ A6 m1 [] to km (by simpa [reach] using rr) (by simp [e0]) (by simp [e6]) (by simp [e7]) a6 a7 x6
  | cons x m2 =>
    have hl : m1.length < m.length := by rw [km]; simp
    have dat6 := dat5.ext x6 (show ¬ (d = A4.size ∨ d = A4.size + 1) by omega)
    rw [km] at dat6
    obtain ⟨bs, b1, b2, b3⟩ := dat6.get2 spnz rfl
    have l6 := AHeap.get_lt a6
    have l7 := AHeap.get_lt a7
    have l6d := AHeap.get_lt b1
    simp [e73, e74, e75, hl, b1, b2, b3, e6, a6, spn, show A4.size ≠ A6.size by omega]
    generalize hA7 : AHeap.set (AHeap.alloc A6 _) _ _ = A7
    have x7 : Ext NoB A6 A7 := ⟨by rw [← hA7]; simp, fun j hj _ => by rw [← hA7]; simp [show j ≠ A6.size by omega]⟩
    have g10 : A7.get A6.size = some (.cells (spn x) false 0) := by rw [← hA7]; simp [spn]
    clear hA7
    refine behind_ok (b.una, to) x A7 _ fun A8 x8 => ?_
    have g10 := x8.get g10 id
    have n8 := x8.size
    have n10 := AHeap.get_lt g10
    by_cases hx : x.1 ≤ to
    · simp [hx, e8, g10, spn]
      refine take_ok A4.size (A4.size + 1) (b.una, to) x m1.length (by omega) A8 _ (x8.get (x7.get a6 id) id) (x8.get (x7.get a7 id) id) (by omega) fun A9 w x9 c6 c7 => ?_
      have w1 : IntKind.i64.wrap ((m1.length : Int) + 1) = (((m1 ++ [x]).length : Nat) : Int) := by rw [IntWalk.i64_in _ (by omega)]; simp
      simp [e75]
      refine ⟨m2.length, by simp, m1 ++ [x], m2, max to x.2, rfl, by simp [km], rfl, rfl, by simp [e0], by simp [e6], by simp [e7], by simp [e8], by simp [e73], by simp [e74], by simpa using w1, ?_, c6, by simpa using c7, x6.trans (((x7.trans x8).mono fun _ _ q => q.elim).trans x9)⟩
      rw [rr]
      simp only [reach, if_pos hx, List.length_append, List.length_cons, List.length_nil]
      congr 1; omega
    · simp [hx]
      refine fin _ A8 m1 (x :: m2) to km (by simpa [reach, hx] using rr) (by simp [e0]) (by simp [e6]) (by simp [e7]) (x8.get (x7.get a6 id) id) (x8.get (x7.get a7 id) id) (x6.trans ((x7.trans x8).mono fun _ _ q => q.elim))

theorem ack_ok (A : AHeap) (p : Nat) (b : SB) (sp : List Spn) (S : Nat → Prop) (Q : Value → AHeap → Prop) (off n : Int) (hr : -9223372036854775808 ≤ n ∧ n < 9223372036854775808 ∧ -9223372036854775808 ≤ off) (h : BufAt A p b sp S) (ok : b.Ok sp) (hs : Sorts (sp.length + 1)) (hlen : sp.length < 100000)
    (hq : ∀ A' w b' sp' S', Acked b sp off n b' sp' → Ext S A A' → BufAt A' p b' sp' S' → (∀ j, S' j → S j ∨ A.size ≤ j) → b'.Ok sp' → Q w A') :
    wF T (.func (.func 18) #[] #[]) [.pointer (some ⟨p, 0, none⟩), .int .i64 off, .int .i64 n] A Q := by
  have lt := h.lt
  have h' := h
  obtain ⟨av, h1, h2, h3, h4, h5⟩ := h'
  refine wF_func (first := []) (captured := []) t18 ⟨rfl, by decide⟩ ?_
  dsimp only [c18]
  by_cases g1 : n < 1
  · simp [g1]
    exact hq _ _ b sp S (.none (.inl g1)) Ext.refl h (fun j hj => .inl hj) ok
  by_cases g2 : (b.sent : Int) ≤ off
  · simp [g1, g2, h1, SB.cells]
    exact hq _ _ b sp S (.none (.inr (.inl g2))) Ext.refl h (fun j hj => .inl hj) ok
  by_cases g3 : off < 0
  · have w : IntKind.i64.wrap (n + off) = n + off := IntWalk.i64_in _ (by omega)
    simp [g1, g2, g3, h1, SB.cells, w]
    exact ackr_ok A p b sp S Q off n h ok hs hlen (by omega) (by omega) (by omega) _ (by simp) (by simp; omega) (by simp [g3]) hq
  · simp [g1, g2, g3, h1, SB.cells]
    exact ackr_ok A p b sp S Q off n h ok hs hlen (by omega) (by omega) (by omega) _ (by simp) (by simp; omega) (by simp [g3]) hq
end Go.Proofs.Ytidgbapgedegbaa
