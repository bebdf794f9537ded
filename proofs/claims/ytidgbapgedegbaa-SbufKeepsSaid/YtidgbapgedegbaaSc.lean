/- A buffer: contracts. -/
import Derived.Test.YtidgbapgedegbaaSb
import Derived.KernelRfl
namespace Go.Proofs.Ytidgbapgedegbaa
open Go Go.AS
set_option maxRecDepth 100000
set_option linter.unusedSimpArgs false
set_option linter.unusedVariables false
attribute [local irreducible] Trie.set Trie.get Env.rd
attribute [local simp] Nat.add_assoc wD_cons'' wD_nil' wC_seq wC_ops wC_opsD_nil wC_cond wC_skip wC_ret wC_exit wC_block wO_cons' wO_nil wantedA wV_eq lop qop ev wL_some wL_none wPut envOf rd_set rd_leaf eqA thenC blockC wB_true wB_false endF unwindA resultsA resA tupleA rdCell rdCells wrCells cl fillP lay rep binA unA get_set' AHeap.get_alloc oneCell beqd bned idxA

theorem sl_to (l : List UInt8) (k : IntKind) (j : Nat) (h : j ≤ l.length) : sliceSA (.string ⟨⟨l⟩⟩) none (some (.int k (j : Int))) = some (.string ⟨⟨l.take j⟩⟩) := by
  have hb : bnd (.int k (j : Int)) l.length = some j := bnd_nat k j _ h
  unfold sliceSA; delta bndsA; simp [hb]
theorem sl_from (l : List UInt8) (k : IntKind) (j : Nat) (h : j ≤ l.length) : sliceSA (.string ⟨⟨l⟩⟩) (some (.int k (j : Int))) none = some (.string ⟨⟨l.drop j⟩⟩) := by
  have hb : bnd (.int k (j : Int)) l.length = some j := bnd_nat k j _ h
  unfold sliceSA; delta bndsA; simp [hb]
  rw [List.take_of_length_le (by rw [List.length_drop]; exact Nat.le_refl _)]
theorem sl_mid (l : List UInt8) (k k' : IntKind) (i j : Nat) (hi : i ≤ j) (h : j ≤ l.length) : sliceSA (.string ⟨⟨l⟩⟩) (some (.int k (i : Int))) (some (.int k' (j : Int))) = some (.string ⟨⟨(l.drop i).take (j - i)⟩⟩) := by
  have hb : bnd (.int k' (j : Int)) l.length = some j := bnd_nat k' j _ h
  have hc : bnd (.int k (i : Int)) j = some i := bnd_nat k i _ hi
  unfold sliceSA; delta bndsA; simp [hb, hc]
theorem wn (n : Nat) (h : n < 9000000000000000000) : IntKind.i64.wrap (n : Int) = n := IntWalk.i64_in _ (by omega)

theorem yes16 (A : AHeap) (Q : Value → AHeap → Prop) (hq : Q (.bool true) A) : wF T (.func (.func 14) #[] #[]) [] A Q := by
  refine wF_func (first := []) (captured := []) t14 ⟨rfl, by decide⟩ ?_
  dsimp only [sayYes]; simp [hq]

theorem set_facts {A A2 : AHeap} {p : Nat} {x : ABlk} (lt : p < A.size) (h : A.set p x = A2) : A2.get p = some x ∧ Ext (fun j => j = p) A A2 ∧ A2.size = A.size := by
  subst h; exact ⟨by simp [lt], Ext.set rfl, rfl⟩
theorem alloc_facts {A A2 : AHeap} {x : ABlk} (h : A.alloc x = A2) : A2.get A.size = some x ∧ Ext NoB A A2 ∧ A2.size = A.size + 1 := by
  subst h; exact ⟨by simp, Ext.alloc, rfl⟩

structure SB where
  room : Nat
  una : Nat
  sent : Nat
  text : List UInt8
  done : Bool
def SB.cells (b : SB) (av : Value) : List Value := [.int .i64 b.room, .int .i64 b.una, .int .i64 b.sent, .string ⟨⟨b.text⟩⟩, av, .bool b.done]
structure SB.Ok (b : SB) (sp : List Spn) : Prop where
  us : b.una ≤ b.sent
  sw : b.sent ≤ b.una + b.text.length
  big : b.una + b.text.length < 1000000000
  room : b.room ≤ 2048
  fit : b.text.length ≤ b.room
  spans : ∀ s ∈ sp, 0 ≤ s.1 ∧ s.1 < s.2 ∧ s.2 ≤ (b.sent : Int)

/-- A buffer in memory; S: the blocks that are its own. -/
def BufAt (A : AHeap) (p : Nat) (b : SB) (sp : List Spn) (S : Nat → Prop) : Prop :=
  ∃ av, A.get p = some (.cells (b.cells av) false 0) ∧ SliceAt A 2 av sp.length (encs spn sp) ∧ S p ∧ ¬ Own av p ∧ ∀ j, Own av j → S j

theorem BufAt.ext {A A' : AHeap} {p : Nat} {b : SB} {sp : List Spn} {S U : Nat → Prop} (h : BufAt A p b sp S) (e : Ext U A A') (hs : ∀ j, S j → ¬ U j) : BufAt A' p b sp S := by
  obtain ⟨av, h1, h2, h3, h4, h5⟩ := h
  exact ⟨av, e.get h1 (hs _ h3), h2.ext e fun j hj => hs _ (h5 j hj), h3, h4, h5⟩
theorem BufAt.lt {A : AHeap} {p : Nat} {b : SB} {sp : List Spn} {S : Nat → Prop} (h : BufAt A p b sp S) : p < A.size := by
  obtain ⟨av, h1, _⟩ := h; exact AHeap.get_lt h1
theorem BufAt.shrink {A : AHeap} {p : Nat} {b : SB} {sp : List Spn} {S U : Nat → Prop} (h : BufAt A p b sp S) (hs : ∀ j, S j → U j) : BufAt A p b sp U := by
  obtain ⟨av, h1, h2, h3, h4, h5⟩ := h
  exact ⟨av, h1, h2, hs _ h3, h4, fun j hj => hs _ (h5 j hj)⟩

theorem new_ok (room : Nat) (h1 : 1 ≤ room) (h2 : room ≤ 2048) (A : AHeap) (Q : Value → AHeap → Prop) (hq : ∀ A' p, Ext NoB A A' → A.size ≤ p → BufAt A' p ⟨room, 0, 0, [], false⟩ [] (fun j => j = p) → Q (.tuple ⟨[.pointer (some ⟨p, 0, none⟩), .int .i64 0]⟩) A') : wF T (.func (.func 15) #[] #[]) [.int .i64 (room : Nat)] A Q := by
  refine wF_func (first := []) (captured := []) t15 ⟨rfl, by decide⟩ ?_
  dsimp only [c15]
  have g1 : ¬ ((room : Int) < 1) := by omega
  have g2 : ¬ ((2048 : Int) < room) := by omega
  simp [g1, g2]
  refine hq _ _ Ext.alloc (Nat.le_refl _) ⟨.slice none 0 0, by simp [SB.cells], SliceAt.nil, rfl, ?_, ?_⟩
  · rintro ⟨_, _, _, q⟩; cases q
  · rintro j ⟨_, _, _, q⟩; cases q

theorem una_ok (A : AHeap) (p : Nat) (b : SB) (sp : List Spn) (S : Nat → Prop) (Q : Value → AHeap → Prop) (h : BufAt A p b sp S) (hq : Q (.int .i64 (b.una : Nat)) A) : wF T (.func (.func 19) #[] #[]) [.pointer (some ⟨p, 0, none⟩)] A Q := by
  obtain ⟨av, h1, _⟩ := h
  refine wF_func (first := []) (captured := []) t19 ⟨rfl, by decide⟩ ?_
  dsimp only [c19]; simp [h1, SB.cells]
  exact hq
theorem sent_ok (A : AHeap) (p : Nat) (b : SB) (sp : List Spn) (S : Nat → Prop) (Q : Value → AHeap → Prop) (h : BufAt A p b sp S) (hq : Q (.int .i64 (b.sent : Nat)) A) : wF T (.func (.func 26) #[] #[]) [.pointer (some ⟨p, 0, none⟩)] A Q := by
  obtain ⟨av, h1, _⟩ := h
  refine wF_func (first := []) (captured := []) t26 ⟨rfl, by decide⟩ ?_
  dsimp only [c26]; simp [h1, SB.cells]
  exact hq
theorem written_ok (A : AHeap) (p : Nat) (b : SB) (sp : List Spn) (S : Nat → Prop) (Q : Value → AHeap → Prop) (h : BufAt A p b sp S) (ok : b.Ok sp) (hq : Q (.int .i64 ((b.una + b.text.length : Nat) : Int)) A) : wF T (.func (.func 22) #[] #[]) [.pointer (some ⟨p, 0, none⟩)] A Q := by
  obtain ⟨av, h1, _⟩ := h
  refine wF_func (first := []) (captured := []) t22 ⟨rfl, by decide⟩ ?_
  have w : IntKind.i64.wrap ((b.una : Int) + (b.text.length : Int)) = ((b.una + b.text.length : Nat) : Int) := by
    have := ok.big; have := ok.fit; have := ok.room
    rw [IntWalk.i64_in _ (by omega)]; omega
  dsimp only [c22]; simp [h1, SB.cells, w]
  simpa using hq

theorem finish_ok (A : AHeap) (p : Nat) (b : SB) (sp : List Spn) (S : Nat → Prop) (Q : Value → AHeap → Prop) (h : BufAt A p b sp S) (hq : ∀ A' w, Ext S A A' → BufAt A' p { b with done := true } sp S → Q w A') : wF T (.func (.func 20) #[] #[]) [.pointer (some ⟨p, 0, none⟩)] A Q := by
  have lt := h.lt
  obtain ⟨av, h1, h2, h3, h4, h5⟩ := h
  refine wF_func (first := []) (captured := []) t20 ⟨rfl, by decide⟩ ?_
  dsimp only [c20]; simp [h1, SB.cells, lt]
  refine hq _ _ (Ext.set h3) ⟨av, by simp [lt, SB.cells], h2.ext (Ext.set (S := fun j => j = p) rfl) fun j hj q => ?_, h3, h4, h5⟩
  exact h4 (q ▸ hj)

theorem ended_ok (A : AHeap) (p : Nat) (b : SB) (sp : List Spn) (S : Nat → Prop) (Q : Value → AHeap → Prop) (h : BufAt A p b sp S) (ok : b.Ok sp) (hq : Q (.bool (b.done && decide (b.sent = b.una + b.text.length))) A) : wF T (.func (.func 21) #[] #[]) [.pointer (some ⟨p, 0, none⟩)] A Q := by
  have h' := h
  obtain ⟨av, h1, _⟩ := h'
  refine wF_func (first := []) (captured := []) t21 ⟨rfl, by decide⟩ ?_
  dsimp only [c21]
  have vb : ∀ n : Nat, vbeq 4 (.int .i64 (n : Int)) (.int .i64 (n : Int)) = true := fun n => by simp [vbeq]
  cases hd : b.done
  · simp
    refine wC_opsD_chk ?_
    simp [h1, SB.cells, hd]
    refine wE_intro ?_ ?_
    · simp only [List.all_cons, List.all_nil, chkOk, List.nil_append, List.cons_append, List.getElem?_cons_succ, List.getElem?_cons_zero]
      simp [Bx]
    · simp [hd] at hq ⊢
      exact hq
  · simp
    refine wC_opsD_chk ?_
    simp [h1, SB.cells, hd]
    refine written_ok A p b sp S _ h ok ?_
    have e : decide ((b.sent : Int) = (b.una : Int) + (b.text.length : Int)) = decide (b.sent = b.una + b.text.length) := by
      rw [decide_eq_decide]; omega
    simp [e]
    refine wE_intro ?_ ?_
    · simp only [List.all_cons, List.all_nil, chkOk, List.nil_append, List.cons_append, List.getElem?_cons_succ, List.getElem?_cons_zero]
      simp [Bx, h1, SB.cells, hd, vb]
    · simp [hd] at hq ⊢
      exact hq

theorem write_ok (A : AHeap) (p : Nat) (b : SB) (sp : List Spn) (S : Nat → Prop) (Q : Value → AHeap → Prop) (l : List UInt8) (hl : b.una + b.text.length + l.length < 1000000000) (h : BufAt A p b sp S) (ok : b.Ok sp)
    (hq : ∀ A' n, n = (if b.done then 0 else min l.length (b.room - b.text.length)) → Ext S A A' → BufAt A' p { b with text := b.text ++ l.take n } sp S → ({ b with text := b.text ++ l.take n } : SB).Ok sp → Q (.int .i64 (n : Nat)) A') : wF T (.func (.func 16) #[] #[]) [.pointer (some ⟨p, 0, none⟩), .string ⟨⟨l⟩⟩] A Q := by
  have lt := h.lt
  have h' := h
  obtain ⟨av, h1, h2, h3, h4, h5⟩ := h'
  have ok' := ok
  obtain ⟨o1, o2, o3, o4, o5, o6⟩ := ok'
  refine wF_func (first := []) (captured := []) t16 ⟨rfl, by decide⟩ ?_
  dsimp only [c16]
  cases hd : b.done
  · have w1 : IntKind.i64.wrap ((b.room : Int) - (b.text.length : Int)) = ((b.room - b.text.length : Nat) : Int) := by rw [IntWalk.i64_in _ (by omega)]; omega
    have w2 : foldV minV (.int .i64 (l.length : Int)) [.int .i64 ((b.room - b.text.length : Nat) : Int)] = some (.int .i64 ((min l.length (b.room - b.text.length) : Nat) : Int)) := by
      simp only [foldV, minV]
      congr 2; omega
    obtain ⟨k, hk⟩ : ∃ k, k = min l.length (b.room - b.text.length) := ⟨_, rfl⟩
    rw [← hk] at w2
    have s1 := sl_to l .i64 k (by omega)
    have hfit : ¬ ((9223372036854775807 : Int) < (b.text.length : Int) + (k : Int)) := by omega
    have hk2 : min k l.length = k := by omega
    simp [h1, SB.cells, hd, w1, w2, s1, lt, hk2, hfit]
    generalize hA2 : AHeap.set A p _ = A2
    obtain ⟨g2, e2, z2⟩ := set_facts lt hA2
    refine hq _ k ?_ (e2.mono fun j _ q => q ▸ h3) ⟨av, by simp [g2, SB.cells, hd], h2.ext e2 fun j hj q => h4 (q ▸ hj), h3, h4, h5⟩ ⟨o1, ?_, ?_, o4, ?_, o6⟩
    · simp [hd, hk]
    · simp only [List.length_append]; omega
    · simp only [List.length_append, List.length_take]; omega
    · simp only [List.length_append, List.length_take]; omega
  · simp [h1, SB.cells, hd]
    refine hq A 0 (by simp [hd]) Ext.refl (by simpa using h) (by simpa using ok)

theorem next_ok (A : AHeap) (p : Nat) (b : SB) (sp : List Spn) (S : Nat → Prop) (Q : Value → AHeap → Prop) (n : Int) (h : BufAt A p b sp S) (ok : b.Ok sp)
    (hq : ∀ A' (k : Nat), (k : Int) = max 0 (min n ((b.una + b.text.length : Nat) - (b.sent : Int))) → Ext S A A' → BufAt A' p { b with sent := b.sent + k } sp S → ({ b with sent := b.sent + k } : SB).Ok sp → Q (.tuple ⟨[.int .i64 (b.sent : Nat), .string ⟨⟨(b.text.drop (b.sent - b.una)).take k⟩⟩]⟩) A') : wF T (.func (.func 17) #[] #[]) [.pointer (some ⟨p, 0, none⟩), .int .i64 n] A Q := by
  have lt := h.lt
  have h' := h
  obtain ⟨av, h1, h2, h3, h4, h5⟩ := h'
  have ok' := ok
  obtain ⟨o1, o2, o3, o4, o5, o6⟩ := ok'
  refine wF_func (first := []) (captured := []) t17 ⟨rfl, by decide⟩ ?_
  dsimp only [c17]
  have w1 : IntKind.i64.wrap ((b.una : Int) + (b.text.length : Int) - (b.sent : Int)) = ((b.una + b.text.length - b.sent : Nat) : Int) := by rw [IntWalk.i64_in _ (by omega)]; omega
  obtain ⟨k, hk⟩ : ∃ k : Nat, (k : Int) = max 0 (min n ((b.una + b.text.length : Nat) - (b.sent : Int))) := ⟨(max 0 (min n ((b.una + b.text.length : Nat) - (b.sent : Int)))).toNat, by omega⟩
  have w2 : foldV minV (.int .i64 n) [.int .i64 ((b.una + b.text.length - b.sent : Nat) : Int)] = some (.int .i64 (min n ((b.una + b.text.length : Nat) - (b.sent : Int)))) := by
    simp only [foldV, minV]
    congr 2; omega
  have w3 : foldV maxV (.int .i64 0) [.int .i64 (min n ((b.una + b.text.length : Nat) - (b.sent : Int)))] = some (.int .i64 (k : Int)) := by
    simp only [foldV, maxV]
    congr 2; omega
  have w4 : IntKind.i64.wrap ((b.sent : Int) + (k : Int)) = ((b.sent + k : Nat) : Int) := by rw [IntWalk.i64_in _ (by omega)]; omega
  have w5 : IntKind.i64.wrap ((b.sent : Int) - (b.una : Int)) = ((b.sent - b.una : Nat) : Int) := by rw [IntWalk.i64_in _ (by omega)]; omega
  have w6 : IntKind.i64.wrap ((b.sent : Int) + (k : Int) - (b.una : Int)) = ((b.sent + k - b.una : Nat) : Int) := by rw [IntWalk.i64_in _ (by omega)]; omega
  have s1 := sl_mid b.text .i64 .i64 (b.sent - b.una) (b.sent + k - b.una) (by omega) (by omega)
  rw [show b.sent + k - b.una - (b.sent - b.una) = k by omega] at s1
  simp [h1, SB.cells]
  refine wC_opsD_chk ?_
  simp [h1, SB.cells]
  refine written_ok A p b sp S _ h ok ?_
  simp at w1 w2 w3 w4 w5 w6 ⊢
  simp [h1, SB.cells, w1, w2, w3, w4, w5, w6, s1, lt]
  refine wE_intro ?_ ?_
  · simp only [List.all_cons, List.all_nil, chkOk, List.nil_append, List.cons_append, List.getElem?_cons_succ, List.getElem?_cons_zero]
    simp [Bx, h1, SB.cells, vbeq]
  generalize hA2 : AHeap.set A p _ = A2
  obtain ⟨g2, e2, z2⟩ := set_facts lt hA2
  simp [g2, w5, w6, s1]
  refine hq _ k hk (e2.mono fun j _ q => q ▸ h3) ⟨av, by simp [g2, SB.cells], h2.ext e2 fun j hj q => h4 (q ▸ hj), h3, h4, h5⟩ ⟨by simp only; omega, by simp only; omega, o3, o4, o5, fun s hs => ?_⟩
  have := o6 s hs
  simp only; omega

def textF (b : SB) (off n : Int) : List UInt8 := if n < 0 ∨ off < b.una ∨ off > (b.una + b.text.length : Nat) ∨ n > (b.una + b.text.length : Nat) - off then [] else (b.text.drop (off.toNat - b.una)).take n.toNat

theorem text_ok (A : AHeap) (p : Nat) (b : SB) (sp : List Spn) (S : Nat → Prop) (Q : Value → AHeap → Prop) (off n : Int) (h : BufAt A p b sp S) (ok : b.Ok sp)
    (hq : Q (.string ⟨⟨textF b off n⟩⟩) A) : wF T (.func (.func 23) #[] #[]) [.pointer (some ⟨p, 0, none⟩), .int .i64 off, .int .i64 n] A Q := by
  have lt := h.lt
  have h' := h
  obtain ⟨av, h1, h2, h3, h4, h5⟩ := h'
  have ok' := ok
  obtain ⟨o1, o2, o3, o4, o5, o6⟩ := ok'
  refine wF_func (first := []) (captured := []) t23 ⟨rfl, by decide⟩ ?_
  dsimp only [c23]
  by_cases g1 : n < 0
  · rw [textF, if_pos (.inl g1)] at hq
    simp [h1, SB.cells, g1]
    exact hq
  by_cases g2 : off < (b.una : Int)
  · rw [textF, if_pos (.inr (.inl g2))] at hq
    simp [h1, SB.cells, g1, g2]
    exact hq
  simp [h1, SB.cells, g1, g2]
  refine written_ok A p b sp S _ h ok ?_
  simp
  by_cases g3 : (b.una : Int) + (b.text.length : Int) < off
  · rw [textF, if_pos (.inr (.inr (.inl (by omega))))] at hq
    simp [g3]
    exact hq
  simp [g3]
  refine written_ok A p b sp S _ h ok ?_
  have w1 : IntKind.i64.wrap ((b.una : Int) + (b.text.length : Int) - off) = (b.una : Int) + (b.text.length : Int) - off := IntWalk.i64_in _ (by omega)
  simp [w1]
  by_cases g4 : (b.una : Int) + (b.text.length : Int) - off < n
  · rw [textF, if_pos (.inr (.inr (.inr (by omega))))] at hq
    simp [g4]
    exact hq
  rw [textF, if_neg (by omega)] at hq
  obtain ⟨m, rfl⟩ : ∃ m : Nat, n = (m : Int) := ⟨n.toNat, by omega⟩
  obtain ⟨i, hi⟩ : ∃ i, i = off.toNat - b.una := ⟨_, rfl⟩
  rw [← hi] at hq
  have w2 : IntKind.i64.wrap (off - (b.una : Int)) = (i : Int) := by rw [IntWalk.i64_in _ (by omega)]; omega
  have w3 : IntKind.i64.wrap ((i : Int) + (m : Int)) = (i : Int) + (m : Int) := IntWalk.i64_in _ (by omega)
  have s1 := sl_mid b.text .i64 .i64 i (i + m) (by omega) (by omega)
  rw [show i + m - i = m by omega, Int.natCast_add] at s1
  simp [h1, SB.cells, g4, w2, w3, s1]
  simpa using hq
end Go.Proofs.Ytidgbapgedegbaa
