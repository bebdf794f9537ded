/- SbufKeeps: the law. -/
import Derived.Test.YtidgbapgedegbaaSd
import Derived.KernelRfl
namespace Go.Proofs.Ytidgbapgedegbaa
open Go Go.AS
set_option maxRecDepth 100000
set_option linter.unusedSimpArgs false
set_option linter.unusedVariables false
attribute [local irreducible] Trie.set Trie.get Env.rd
attribute [local simp] Nat.add_assoc wD_cons'' wD_nil' wC_seq wC_ops wC_opsD_nil wC_cond wC_skip wC_ret wC_exit wC_block wO_cons' wO_nil wantedA wV_eq lop qop ev wL_some wL_none wPut envOf rd_set rd_leaf eqA thenC blockC wB_true wB_false endF unwindA resultsA resA tupleA rdCell rdCells wrCells cl fillP lay rep binA unA get_set' AHeap.get_alloc oneCell beqd bned idxA

theorem acked_one {b b' : SB} {off n : Int} {sp' : List Spn} (h : Acked b [] off n b' sp') (hu : b.una = 0) : b'.una ≤ b.sent ∧ b'.sent = b.sent ∧ b'.done = b.done ∧ b'.room = b.room ∧ b'.text = b.text.drop b'.una ∧ (0 < b'.una → off ≤ 0 ∧ 1 ≤ n) ∧
    (off ≤ 0 → 0 < n → (b'.una : Int) = min (b.sent : Int) (max 0 (n + max off (-n)))) := by
  cases h with
  | none h =>
    refine ⟨by omega, rfl, rfl, rfl, by simp [hu], by omega, fun h1 h2 => ?_⟩
    rw [hu]
    unfold ackN at h
    rcases h with h | h | h
    · omega
    · omega
    · split at h <;> omega
  | some m h1 h2 h3 pm sm =>
    have hm : m = [(max off 0, max off 0 + ackN b off n)] := List.perm_singleton.1 (by simpa using pm)
    subst hm
    rw [hu]
    unfold ackN at *
    by_cases ho : off ≤ 0
    · have e : (reach ((0 : Nat) : Int) [(max off 0, max off 0 + min (if off < 0 then n + off else n) (b.sent - max off 0))]).1 = min (b.sent : Int) (max 0 (n + max off (-n))) := by
        simp only [reach]
        rw [if_pos (by omega)]
        split at h3 <;> (simp only [*, if_true, if_false]; omega)
      simp only [e]
      refine ⟨by omega, trivial, trivial, trivial, by simp, fun _ => ⟨ho, h1⟩, fun _ _ => by omega⟩
    · have e : (reach ((0 : Nat) : Int) [(max off 0, max off 0 + min (if off < 0 then n + off else n) (b.sent - max off 0))]) = (0, 0) := by
        simp only [reach]
        rw [if_neg (by omega)]; rfl
      simp only [e]
      refine ⟨by simp, trivial, trivial, trivial, by simp, by simp, fun q => absurd q ho⟩

theorem keepse_ok (l : List UInt8) (k : Nat) (hk : k ≤ l.length) (hl : l.length ≤ 100) (env : Env) (A : AHeap) (p : Nat) (b : SB) (sp : List Spn) (S : Nat → Prop) (h : BufAt A p b sp S) (ok : b.Ok sp) (q1 : b.sent = k) (q2 : b.text = l.drop b.una) (q3 : b.una ≤ k) (q4 : b.room = 150) (q5 : b.done = false)
    (r0 : env.rd 0 = .string ⟨⟨l⟩⟩) (r9 : env.rd 9 = .pointer (some ⟨p, 0, none⟩)) (r11 : env.rd 11 = .int .i64 (k : Nat)) :
    wC T 4 none c4e { env := env, n := 153, dfs := [], A := A } (endF [.inl 8] fun v _ => v = .bool true) := by
  unfold c4e
  simp [r9]
  refine finish_ok A p b sp S _ h fun A1 w x1 h1 => ?_
  have ok1 : ({ b with done := true } : SB).Ok sp := ⟨ok.us, ok.sw, ok.big, ok.room, ok.fit, ok.spans⟩
  simp [r9]
  refine next_ok A1 p _ sp S _ 1000 h1 ok1 fun A2 j hj x2 h2 ok2 => ?_
  simp [r9]
  have tl : b.text.length = l.length - b.una := by rw [q2, List.length_drop]
  have hj' : j = l.length - k := by simp only [tl] at hj; omega
  refine una_ok A2 p _ sp S _ h2 ?_
  have s1 := sl_from l .i64 k hk
  have t1 : (b.text.drop (b.sent - b.una)).take j = l.drop k := by
    rw [q1, q2, List.drop_drop, show b.una + (k - b.una) = k by omega, List.take_of_length_le (by rw [List.length_drop]; omega)]
  try simp only at t1
  simp only [Bool.true_and, decide_eq_true_eq] at ok2
  rw [t1]
  simp [r0, r9, r11, q1, s1]
  refine ended_ok A2 p _ sp S _ h2 ok2 ?_
  have e1 : decide (b.sent + j = b.una + b.text.length) = true := decide_eq_true (by omega)
  simp [e1, r9]
  refine write_ok A2 p _ sp S _ [109, 111, 114, 101] (by have := ok2.big; simp only at this ⊢; simp; omega) h2 ok2 fun A3 z hz x3 h3 ok3 => ?_
  simp at hz
  subst hz
  simp [r9]
  refine written_ok A3 p _ sp S _ h3 ok3 ?_
  have e2 : ((b.una : Int) + (b.text.length : Int)) = (l.length : Int) := by omega
  simp [e2, r0]
  generalize hb3 : SB.mk _ _ _ _ _ = b3 at h3 ok3
  have u3 : b3.una = b.una := by rw [← hb3]
  have t3 : b3.text = b.text := by rw [← hb3]; simp
  clear hb3 h2 ok2 h1 ok1
  have w1 : IntKind.i64.wrap ((l.length : Int) - (b.una : Int)) = ((l.length - b.una : Nat) : Int) := by rw [IntWalk.i64_in _ (by omega)]; omega
  have s2 := sl_from l .i64 b.una (by omega)
  have tx : ∀ bb : SB, bb.una = b.una → bb.text = b.text → textF bb (b.una : Nat) ((l.length - b.una : Nat) : Int) = l.drop b.una := fun bb u1 u2 => by
    unfold textF
    rw [u1, u2, if_neg (by omega)]
    simp only [Int.toNat_natCast, Nat.sub_self, List.drop_zero]
    rw [List.take_of_length_le (by omega), q2]
  by_cases hu : b.una = 0
  · simp [hu, undef, r9, r0] at w1 s2 tx ⊢
    simp [w1]
    refine text_ok A3 p _ sp S _ 0 (l.length : Int) h3 ok3 ?_
    rw [show textF b3 0 (l.length : Int) = l from tx b3 (by omega) t3]
    simp [s2, r0, hu]
  · have w2 : IntKind.i64.wrap ((b.una : Int) - 1) = (b.una : Int) - 1 := IntWalk.i64_in _ (by omega)
    simp [hu, undef, r9, r0, w2]
    refine text_ok A3 p _ sp S _ _ 1 h3 ok3 ?_
    have t4 : textF b3 ((b.una : Int) - 1) 1 = [] := by
      unfold textF
      rw [if_pos (.inr (.inl (by omega)))]
    simp [t4, w1, r0, r9]
    refine text_ok A3 p _ sp S _ (b.una : Int) ((l.length - b.una : Nat) : Int) h3 ok3 ?_
    rw [tx b3 u3 t3]
    simp [s2, r0]

theorem keeps_ok (l : List UInt8) (n : Nat) (off many : Int) (hn : n < 256) (hl : l.length ≤ 140737488351232) (ho : -9223372036854775808 ≤ off ∧ off < 9223372036854775808) (hm : -9223372036854775808 ≤ many ∧ many < 9223372036854775808) (A : AHeap) :
    wF T (.func (.func 4) #[] #[]) [.string ⟨⟨l⟩⟩, .int .u8 (n : Nat), .int .i64 off, .int .i64 many] A (fun v _ => v = .bool true) := by
  refine wF_func (first := []) (captured := []) t4 ⟨rfl, by decide⟩ ?_
  dsimp only [c4]
  simp
  refine yes16 _ _ ?_
  have f1 : ¬ ((9223372036854775807 : Int) < (l.length : Int) + 1) := by omega
  have w1 : IntKind.i64.wrap ((l.length : Int) + 1) = ((l.length + 1 : Nat) : Int) := by rw [IntWalk.i64_in _ (by omega)]; omega
  have m1 : foldV minV (.int .i64 ((l.length + 1 : Nat) : Int)) [.int .i64 100] = some (.int .i64 ((min (l.length + 1) 100 : Nat) : Int)) := by
    simp only [foldV, minV]
    congr 2; omega
  obtain ⟨z, hz⟩ : ∃ z, z = min (l.length + 1) 100 := ⟨_, rfl⟩
  rw [← hz] at m1
  have s1 := sl_to (l ++ [120]) .i64 z (by simp; omega)
  have tl : ((l ++ [120]).take z).length = z := by rw [List.length_take, List.length_append, List.length_singleton]; omega
  simp [f1, w1] at m1 ⊢
  simp [m1, s1]
  generalize (l ++ [120]).take z = t at *
  refine new_ok 150 (by decide) (by decide) A _ fun A1 p x1 l1 h1 => ?_
  have ok1 : (⟨150, 0, 0, [], false⟩ : SB).Ok [] := ⟨by decide, by decide, by decide, by decide, by decide, by simp⟩
  simp
  refine write_ok A1 p _ [] _ _ t (by simp; omega) h1 ok1 fun A2 m hm2 x2 h2 ok2 => ?_
  have hm3 : m = t.length := by simp at hm2; omega
  subst hm3
  have e1 : (([] : List UInt8) ++ t.take t.length) = t := by simp
  simp only [e1] at h2 ok2
  have w2 : IntKind.i64.wrap ((t.length : Int) + 1) = ((t.length + 1 : Nat) : Int) := by rw [IntWalk.i64_in _ (by omega)]; omega
  have w3 : IntKind.i64.wrap (n : Int) = n := wn n (by omega)
  obtain ⟨k, hk⟩ : ∃ k : Nat, ((n : Int).tmod ((t.length : Int) + 1)) = (k : Int) ∧ k < t.length + 1 := by
    refine ⟨n % (t.length + 1), ?_, Nat.mod_lt _ (by omega)⟩
    rw [Int.tmod_eq_emod_of_nonneg (by omega)]; simp
  have ne0 : ¬ ((t.length : Int) + 1 = 0) := by omega
  simp [w2, w3, hk.1, ne0]
  refine next_ok A2 p _ [] _ _ k h2 ok2 fun A3 j hj x3 h3 ok3 => ?_
  have hj2 : j = k := by simp at hj; omega
  subst hj2
  simp
  refine ack_ok A3 p _ [] _ _ off many ⟨hm.1, hm.2, ho.1⟩ h3 ok3 (sorts_small _ (by decide)) (by decide) fun A4 w b' sp' S' ac x4 h4 _ ok4 => ?_
  obtain ⟨a1, a2, a3, a4, a5, a6, a7⟩ := acked_one ac rfl
  simp only at a1 a2 a3 a4 a5 a6 a7
  simp
  refine una_ok A4 p b' sp' S' _ h4 ?_
  have g1 : ¬ ((j : Int) < (b'.una : Int)) := by omega
  have fin : ∀ (e : Env), e.rd 0 = .string ⟨⟨t⟩⟩ → e.rd 9 = .pointer (some ⟨p, 0, none⟩) → e.rd 11 = .int .i64 (j : Nat) → wC T 4 none c4e { env := e, n := 153, dfs := [], A := A4 } (endF [.inl 8] fun v _ => v = .bool true) :=
    fun e e0 e9 e11 => keepse_ok t j (by omega) (by omega) e A4 p b' sp' S' h4 ok4 (by omega) a5 (by omega) a4 a3 e0 e9 e11
  have mm : 0 < many → off ≤ 0 → IntKind.i64.wrap (-many) = -many ∧ foldV maxV (.int .i64 off) [.int .i64 (-many)] = some (.int .i64 (max off (-many))) ∧ IntKind.i64.wrap (many + max off (-many)) = many + max off (-many) ∧
      foldV maxV (.int .i64 0) [.int .i64 (many + max off (-many))] = some (.int .i64 (max 0 (many + max off (-many)))) ∧ foldV minV (.int .i64 (j : Int)) [.int .i64 (max 0 (many + max off (-many)))] = some (.int .i64 (b'.una : Int)) := fun hm0 ho0 => by
    have := a7 ho0 hm0
    refine ⟨IntWalk.i64_in _ (by omega), ?_, IntWalk.i64_in _ (by omega), ?_, ?_⟩
    · simp only [foldV, maxV]; congr 2; omega
    · simp only [foldV, maxV]; congr 2; omega
    · simp only [foldV, minV]; congr 2; omega
  simp [g1]
  refine una_ok A4 p b' sp' S' _ h4 ?_
  by_cases hu : 0 < b'.una
  · obtain ⟨c1, c2⟩ := a6 hu
    obtain ⟨m1, m2, m3, m4, m5⟩ := mm (by omega) c1
    have c3 : ¬ (0 < off) := by omega
    have c4 : ¬ (many < 1) := by omega
    have c5 : 0 < many := by omega
    simp [hu, c1, c3, c4, c5, undef]
    refine una_ok A4 p b' sp' S' _ h4 ?_
    simp [m1, m2, m3, m4, m5]
    exact fin _ (by simp) (by simp) (by simp)
  · have hu0 : b'.una = 0 := by omega
    by_cases c1 : off ≤ 0
    · by_cases c5 : 0 < many
      · obtain ⟨m1, m2, m3, m4, m5⟩ := mm c5 c1
        simp [hu, c1, c5, undef]
        refine una_ok A4 p b' sp' S' _ h4 ?_
        simp [m1, m2, m3, m4, m5]
        exact fin _ (by simp) (by simp) (by simp)
      · simp [hu, c1, c5, undef]
        exact fin _ (by simp) (by simp) (by simp)
    · simp [hu, c1, undef]
      exact fin _ (by simp) (by simp) (by simp)
end Go.Proofs.Ytidgbapgedegbaa
