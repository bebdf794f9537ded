/- A hole: small contracts. -/
import Derived.Test.YtidgbapgedegbaaKc
import Derived.Test.YtidgbapgedegbaaM3
import Derived.KernelRfl
namespace Go.Proofs.Ytidgbapgedegbaa
open Go Go.AS
set_option maxRecDepth 100000
set_option linter.unusedSimpArgs false
set_option linter.unusedVariables false
theorem beqd (a b : Int) : (a == b) = decide (a = b) := by
  rw [Bool.eq_iff_iff]; simp
theorem bned (a b : Int) : (a != b) = !decide (a = b) := by
  rw [bne, beqd]
attribute [local irreducible] Trie.set Trie.get Env.rd
attribute [local simp] Nat.add_assoc wD_cons'' wD_nil' wC_seq wC_ops wC_opsD_nil wC_cond wC_skip wC_ret wC_exit wC_block wO_cons' wO_nil wantedA wV_eq lop qop ev wL_some wL_none wPut envOf rd_set rd_leaf eqA thenC blockC wB_true wB_false endF unwindA resultsA resA tupleA rdCell rdCells wrCells cl fillP lay rep binA unA get_set' AHeap.get_alloc oneCell beqd bned idxA

theorem wn (n : Nat) (h : n < 9000000000000000000) : IntKind.i64.wrap (n : Int) = n := IntWalk.i64_in _ (by omega)
theorem set_facts {A A2 : AHeap} {p : Nat} {x : ABlk} (lt : p < A.size) (h : A.set p x = A2) : A2.get p = some x ∧ Ext (fun j => j = p) A A2 ∧ A2.size = A.size := by
  subst h; exact ⟨by simp [lt], Ext.set rfl, rfl⟩
theorem alloc_facts {A A2 : AHeap} {x : ABlk} (h : A.alloc x = A2) : A2.get A.size = some x ∧ Ext NoB A A2 ∧ A2.size = A.size + 1 := by
  subst h; exact ⟨by simp, Ext.alloc, rfl⟩

abbrev Bytes := Int → Option UInt8
/-- A hole in memory, in the blocks p and mb. -/
structure HoleAt (A : AHeap) (p mb room base : Nat) (f : Bytes) : Prop where
  cell : A.get p = some (.cells [.int .i64 (room : Nat), .int .i64 (base : Nat), .map (some mb)] false 0)
  map : MapIs A mb fun k => (f k).map byt
  ne : p ≠ mb
  dom : ∀ k b, f k = some b → (base : Int) ≤ k ∧ k < (base : Int) + room
  room1 : 1 ≤ room
  room2 : room ≤ 2048
  big : base ≤ 2305843009213693952

theorem HoleAt.ext {A A' : AHeap} {p mb room base : Nat} {f : Bytes} {S : Nat → Prop} (h : HoleAt A p mb room base f) (e : Ext S A A') (h1 : ¬ S p) (h2 : ¬ S mb) : HoleAt A' p mb room base f :=
  ⟨e.get h.cell h1, h.map.ext e h2, h.ne, h.dom, h.room1, h.room2, h.big⟩
theorem HoleAt.lt {A : AHeap} {p mb room base : Nat} {f : Bytes} (h : HoleAt A p mb room base f) : p < A.size ∧ mb < A.size := ⟨AHeap.get_lt h.cell, h.map.lt⟩

theorem hnew_ok (room : Nat) (h1 : 1 ≤ room) (h2 : room ≤ 2048) (A : AHeap) (Q : Value → AHeap → Prop) (hq : ∀ A' p mb, Ext NoB A A' → A.size ≤ p → A.size ≤ mb → HoleAt A' p mb room 0 (fun _ => none) → Q (.tuple ⟨[.pointer (some ⟨p, 0, none⟩), .int .i64 0]⟩) A') :
    wF T (.func (.func 71) #[] #[]) [.int .i64 (room : Nat)] A Q := by
  refine wF_func (first := []) (captured := []) t71 ⟨rfl, by decide⟩ ?_
  dsimp only [c71]
  have g1 : ¬ ((room : Int) < 1) := by omega
  have g2 : ¬ ((2048 : Int) < room) := by omega
  simp [g1, g2]
  refine hq _ (A.size + 1) A.size ((Ext.alloc).trans Ext.alloc) (by omega) (by omega) ⟨by simp, ?_, by omega, (fun k b q => by cases q), h1, h2, by decide⟩
  exact MapIs.nil (c := 0) (by simp)

theorem hnew_bad (room : Int) (h : room < 1 ∨ 2048 < room) (A : AHeap) (Q : Value → AHeap → Prop) (hq : Q (.tuple ⟨[.pointer none, .int .i64 2]⟩) A) :
    wF T (.func (.func 71) #[] #[]) [.int .i64 room] A Q := by
  refine wF_func (first := []) (captured := []) t71 ⟨rfl, by decide⟩ ?_
  dsimp only [c71]
  by_cases g1 : room < 1
  · simp [g1]; exact hq
  · simp [g1, show (2048 : Int) < room by omega, undef]; exact hq

theorem has_ok (A : AHeap) (p mb room base : Nat) (f : Bytes) (Q : Value → AHeap → Prop) (k : Int) (h : HoleAt A p mb room base f) (hq : Q (.bool (f k).isSome) A) : wF T (.func (.func 122) #[] #[]) [.pointer (some ⟨p, 0, none⟩), .int .i64 k] A Q := by
  refine wF_func (first := []) (captured := []) t122 ⟨rfl, by decide⟩ ?_
  dsimp only [c122]
  obtain ⟨es, c, g1, g2⟩ := h.map.get k
  have hc := h.cell
  cases hf : f k with
  | none =>
    rw [hf] at g2 hq
    simp only [Option.map_none] at g2
    simp [hc, g1, g2, getRes]
    exact hq
  | some b =>
    rw [hf] at g2 hq
    obtain ⟨i, g2⟩ := g2
    simp [hc, g1, g2, getRes]
    exact hq

theorem base_ok (A : AHeap) (p mb room base : Nat) (f : Bytes) (Q : Value → AHeap → Prop) (h : HoleAt A p mb room base f) (hq : Q (.int .i64 (base : Nat)) A) : wF T (.func (.func 88) #[] #[]) [.pointer (some ⟨p, 0, none⟩)] A Q := by
  refine wF_func (first := []) (captured := []) t88 ⟨rfl, by decide⟩ ?_
  dsimp only [c88]
  simp [h.cell]
  exact hq

theorem fits_ok (A : AHeap) (p mb room base : Nat) (f : Bytes) (Q : Value → AHeap → Prop) (off n : Int) (hr : off < 9223372036854775808) (h : HoleAt A p mb room base f) (hq : Q (.bool (decide (0 ≤ off ∧ 0 ≤ n ∧ off ≤ base + room ∧ n ≤ base + room - off))) A) :
    wF T (.func (.func 126) #[] #[]) [.pointer (some ⟨p, 0, none⟩), .int .i64 off, .int .i64 n] A Q := by
  refine wF_func (first := []) (captured := []) t126 ⟨rfl, by decide⟩ ?_
  dsimp only [c126]
  have hb := h.big; have r2 := h.room2
  by_cases g1 : 0 ≤ off
  · by_cases g2 : 0 ≤ n
    · have w1 : IntKind.i64.wrap ((base : Int) + (room : Int)) = (base : Int) + (room : Int) := IntWalk.i64_in _ (by omega)
      by_cases g3 : off ≤ (base : Int) + (room : Int)
      · have w2 : IntKind.i64.wrap ((base : Int) + (room : Int) - off) = (base : Int) + (room : Int) - off := IntWalk.i64_in _ (by omega)
        simp [h.cell, g1, g2, g3, w1, w2]
        simpa [g1, g2, g3] using hq
      · simp [h.cell, g1, g2, g3, w1, undef]
        simpa [g1, g2, g3] using hq
    · simp [h.cell, g1, g2, undef]
      simpa [g1, g2] using hq
  · simp [h.cell, g1, undef]
    simpa [g1] using hq

/-- The first number from base on without a byte. -/
def NextIs (base : Nat) (f : Bytes) (n : Nat) : Prop := base ≤ n ∧ f n = none ∧ ∀ k : Nat, base ≤ k → k < n → (f k).isSome = true

theorem nextis_ex (base room : Nat) (f : Bytes) (dom : ∀ k b, f k = some b → (base : Int) ≤ k ∧ k < (base : Int) + room) : ∀ (m n : Nat), base + room ≤ n + m → base ≤ n → (∀ k : Nat, base ≤ k → k < n → (f k).isSome = true) → ∃ n', NextIs base f n' ∧ n ≤ n' ∧ n' ≤ max n (base + room)
  | m, n, hm, hb, hk => by
    cases hf : f n with
    | none => exact ⟨n, ⟨hb, hf, hk⟩, Nat.le_refl _, by omega⟩
    | some b =>
      have := dom n b hf
      cases m with
      | zero => omega
      | succ m =>
        obtain ⟨n', q1, q2, q3⟩ := nextis_ex base room f dom m (n + 1) (by omega) (by omega) fun k h1 h2 => by
          by_cases q : k = n
          · subst q; rw [hf]; rfl
          · exact hk k h1 (by omega)
        exact ⟨n', q1, by omega, by omega⟩
theorem NextIs.le {base room n : Nat} {f : Bytes} (dom : ∀ k b, f k = some b → (base : Int) ≤ k ∧ k < (base : Int) + room) (h : NextIs base f n) : n ≤ base + room := by
  obtain ⟨h1, h2, h3⟩ := h
  rcases Nat.lt_or_ge (base + room) n with q | q
  · have := h3 (base + room) (by omega) q
    cases hf : f ((base + room : Nat) : Int) with
    | none => rw [hf] at this; cases this
    | some b => have := dom _ b hf; omega
  · exact q

def NI (p base : Nat) (A : AHeap) (n : Nat) (k : Nat) (st : St) : Prop := ∃ j : Nat, j + k = n ∧ base ≤ j ∧ st.n = 12 ∧ st.dfs = [] ∧ st.A = A ∧ st.env.rd 0 = .pointer (some ⟨p, 0, none⟩) ∧ st.env.rd 3 = .int .i64 (j : Nat)

theorem next_ok (A : AHeap) (p mb room base : Nat) (f : Bytes) (Q : Value → AHeap → Prop) (h : HoleAt A p mb room base f) (hq : ∀ n : Nat, NextIs base f n → n ≤ base + room → Q (.int .i64 (n : Nat)) A) : wF T (.func (.func 87) #[] #[]) [.pointer (some ⟨p, 0, none⟩)] A Q := by
  obtain ⟨n, hn, _, _⟩ := nextis_ex base room f h.dom room base (by omega) (Nat.le_refl _) fun k h1 h2 => by omega
  have hle := hn.le h.dom
  refine wF_func (first := []) (captured := []) t87 ⟨rfl, by decide⟩ ?_
  dsimp only [c87]
  simp
  refine base_ok A p mb room base f _ h ?_
  simp
  refine wC_loop_inv (NI p base A n) ?_ (n - base) _ ⟨base, by have := hn.1; omega, Nat.le_refl _, rfl, rfl, rfl, by simp, by simp⟩
  rintro m ⟨env, nn, dfs, A1⟩ ⟨j, k0, kb, k1, k2, k3, r0, r3⟩
  simp only at k1 k2 k3 r0 r3
  subst k1; subst k2; subst k3
  simp [r0, r3]
  refine has_ok A1 p mb room base f _ j h ?_
  by_cases q : j = n
  · subst q
    rw [hn.2.1]
    simp [r3]
    exact hq j hn hle
  · have := hn.2.2 j kb (by omega)
    have hb := h.big; have r2 := h.room2
    have w : IntKind.i64.wrap ((j : Int) + 1) = ((j + 1 : Nat) : Int) := by rw [IntWalk.i64_in _ (by omega)]; omega
    rw [this]
    simp [r3]
    exact ⟨m - 1, by omega, j + 1, by omega, by omega, rfl, rfl, rfl, by simp [r0], by simpa using w⟩
end Go.Proofs.Ytidgbapgedegbaa
