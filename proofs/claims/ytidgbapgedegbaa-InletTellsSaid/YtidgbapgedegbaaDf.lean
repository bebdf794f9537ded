/- The sum of texts: what a range over its words adds. -/
import Derived.Test.YtidgbapgedegbaaDe
import Derived.KernelRfl
namespace Go.Proofs.Ytidgbapgedegbaa
open Go Go.AS
set_option maxRecDepth 100000
set_option linter.unusedSimpArgs false
set_option linter.unusedVariables false
attribute [local irreducible] Trie.set Trie.get Env.rd
attribute [local simp ↓] wV_b2s
attribute [local simp] Nat.add_assoc wD_cons'' wD_nil' wC_seq wC_ops wC_opsD_nil wC_cond wC_skip wC_ret wC_exit wC_block wO_cons' wO_nil wantedA wV_eq lop qop ev wL_some wL_none wPut envOf rd_set rd_leaf eqA thenC blockC wB_true wB_false endF unwindA resultsA resA tupleA rdCell rdCells wrCells cl fillP lay rep binA unA get_set' AHeap.get_alloc oneCell beqd bned idxA

/-! ## The words of bytes, as they come -/
def accB (bs : List UInt8) : Nat := if bs.length % 2 = 0 then wsum bs else wsum bs.dropLast
def oddB (bs : List UInt8) : Bool := decide (bs.length % 2 = 1)
def halfOk (bs : List UInt8) (h : Nat) : Prop := ∀ init b, bs = init ++ [b] → bs.length % 2 = 1 → h = b.toNat * 256
theorem accB_even {bs : List UInt8} (b : UInt8) (h : bs.length % 2 = 0) : accB (bs ++ [b]) = accB bs := by
  unfold accB
  rw [if_pos h, if_neg (by simp; omega)]
  simp
theorem accB_odd {bs : List UInt8} (b : UInt8) {h : Nat} (ho : bs.length % 2 = 1) (hh : halfOk bs h) : accB (bs ++ [b]) = accB bs + (h + b.toNat) := by
  have hne : bs ≠ [] := fun q => by subst q; simp at ho
  have hc := List.dropLast_concat_getLast hne
  have hh' := hh _ _ hc.symm ho
  have he : bs.dropLast.length % 2 = 0 := by rw [List.length_dropLast]; omega
  unfold accB
  rw [if_pos (by simp; omega), if_neg (by omega), ← hc, List.append_assoc, wsum_append _ _ he]
  simp [wsum, hh']
theorem accB_end (bs : List UInt8) {h : Nat} (hh : halfOk bs h) : wsum bs = accB bs + (if bs.length % 2 = 1 then h else 0) := by
  unfold accB
  by_cases ho : bs.length % 2 = 1
  · rw [if_neg (by omega), if_pos ho]
    have hne : bs ≠ [] := fun q => by subst q; simp at ho
    have hc := List.dropLast_concat_getLast hne
    have hh' := hh _ _ hc.symm ho
    have he : bs.dropLast.length % 2 = 0 := by rw [List.length_dropLast]; omega
    conv => lhs; rw [← hc]
    rw [wsum_append _ _ he]
    simp [wsum, hh']
  · rw [if_pos (by omega), if_neg ho]; rfl
theorem accB_lt (bs : List UInt8) (h : bs.length < 100000000) : accB bs < 1000000000000000 := by
  unfold accB
  split
  · have := wsum_le bs; omega
  · have := wsum_le bs.dropLast; rw [List.length_dropLast] at this; omega

/-- What the range's body does. -/
def y92a : ACode := .ops [⟨some 4, none, .mov (.tmp 7)⟩]
def y92b : ACode := .block 1 (.ops [⟨some 8, none, .load1 (.tmp 3)⟩, ⟨some 9, none, .mov (.tmp 4)⟩, ⟨some 10, none, .cvInt .u64 (.tmp 9)⟩, ⟨some 11, none, .bin .add (.tmp 8) (.tmp 10)⟩, ⟨none, none, .store 1 (.tmp 3) (.tmp 11)⟩])
/-- A range over words, at work. -/
def RgAt (A : AHeap) (l q3 d : Nat) (acc : Nat) : Prop := ∃ e : Env, A.get l = some (.loop .ready none 92 14 e [7] y92a y92b d) ∧ e.rd 3 = .pointer (some ⟨q3, 0, none⟩) ∧ A.get q3 = some (.cells [.int .u64 (acc : Nat)] false 0)
theorem word_ok (A : AHeap) (l q3 d acc w : Nat) (Q : Value → AHeap → Prop) (h : RgAt A l q3 d acc) (hne : l ≠ q3) (hw : w < 65536) (ha : acc < 1000000000000000) (hq : ∀ A', RgAt A' l q3 d (acc + w) → Ext (fun j => j = l ∨ j = q3) A A' → Q (.bool true) A') :
    wF T (.func (.yield l) #[] #[]) [.int .u16 (w : Nat)] A Q := by
  obtain ⟨e, hl, h3, g3⟩ := h
  have b1 := AHeap.get_lt hl
  have b3 := AHeap.get_lt g3
  refine wF_yield hl rfl (by decide) ?_
  have wu : IntKind.u64.wrap (w : Int) = w := IntWalk.u64_in _ (by omega)
  have wa : IntKind.u64.wrap ((acc : Int) + (w : Int)) = ((acc + w : Nat) : Int) := by rw [IntWalk.u64_in _ (by omega)]; omega
  dsimp only [y92a, y92b]
  simp [midY, hl, b1, h3, g3, hne.symm, wu, wa, b3]
  generalize hA3 : AHeap.set A l _ = A3
  obtain ⟨l3, e3, z3⟩ := set_facts b1 hA3
  have b3' : q3 < A3.size := by omega
  generalize hA4 : AHeap.set A3 q3 _ = A4
  obtain ⟨q4, e4, z4⟩ := set_facts b3' hA4
  have l4 := e4.get l3 hne
  have b4 : l < A4.size := by omega
  simp [endY, l4, jumpOf]
  generalize hA5 : AHeap.set A4 l _ = A5
  obtain ⟨l5, e5, z5⟩ := set_facts b4 hA5
  refine hq A5 ⟨_, l5, by simp [h3], ?_⟩ ((e3.mono fun _ _ q => .inl q).trans ((e4.mono fun _ _ q => .inr q).trans (e5.mono fun _ _ q => .inl q)))
  have := e5.get q4 hne.symm
  simpa using this

/-! ## One byte -/
theorem or8 (x c : Nat) (hx : x < 256) (hc : c < 256) : binA .or (.int .u16 ((x * 256 : Nat) : Int)) (.int .u16 (c : Int)) = some (.int .u16 ((x * 256 + c : Nat) : Int)) := by
  show some (Value.int .u16 (IntKind.u16.wrap (((BitVec.ofInt 16 ((x * 256 : Nat) : Int) ||| BitVec.ofInt 16 (c : Int)).toNat : Nat) : Int))) = _
  rw [BitVec.ofInt_natCast, BitVec.ofInt_natCast, BitVec.toNat_or, BitVec.toNat_ofNat, BitVec.toNat_ofNat, Nat.mod_eq_of_lt (by omega), Nat.mod_eq_of_lt (by omega)]
  have := Nat.two_pow_add_eq_or_of_lt (i := 8) (b := c) hc x
  rw [show x * 256 = 2 ^ 8 * x by omega, ← this, IntWalk.u16_in _ (by omega)]
/-- The words' closure, at work: what came so far. -/
structure WdAt (A : AHeap) (l q3 d p2 p3 p4 : Nat) (bs : List UInt8) : Prop where
  rg : RgAt A l q3 d (accB bs)
  g2 : A.get p2 = some (.cells [.func (.yield l) #[] #[]] false 0)
  g3 : ∃ h : Nat, halfOk bs h ∧ h < 65536 ∧ A.get p3 = some (.cells [.int .u16 (h : Nat)] false 0)
  g4 : A.get p4 = some (.cells [.bool (oddB bs)] false 0)
structure Dis (l q3 p2 p3 p4 : Nat) : Prop where
  d1 : l ≠ q3
  d2 : p2 ≠ l ∧ p2 ≠ q3 ∧ p2 ≠ p3 ∧ p2 ≠ p4
  d3 : p3 ≠ l ∧ p3 ≠ q3 ∧ p3 ≠ p4
  d4 : p4 ≠ l ∧ p4 ≠ q3
def Wk (l q3 p3 p4 : Nat) : Nat → Prop := fun j => j = l ∨ j = q3 ∨ j = p3 ∨ j = p4
theorem RgAt.ext {A A' : AHeap} {l q3 d acc : Nat} {S : Nat → Prop} (h : RgAt A l q3 d acc) (e : Ext S A A') (h1 : ¬ S l) (h2 : ¬ S q3) : RgAt A' l q3 d acc := by
  obtain ⟨x, a, b, c⟩ := h
  exact ⟨x, e.get a h1, b, e.get c h2⟩
theorem take_ok (A : AHeap) (l q3 d p2 p3 p4 : Nat) (bs : List UInt8) (b : UInt8) (Q : Value → AHeap → Prop) (h : WdAt A l q3 d p2 p3 p4 bs) (D : Dis l q3 p2 p3 p4) (hb : bs.length < 100000000) (hq : ∀ A', WdAt A' l q3 d p2 p3 p4 (bs ++ [b]) → Ext (Wk l q3 p3 p4) A A' → Q (.bool true) A') :
    wF T (.func (.func 156) #[] #[.pointer (some ⟨p4, 0, none⟩), .pointer (some ⟨p3, 0, none⟩), .pointer (some ⟨p2, 0, none⟩)]) [.int .u8 ((b.toNat : Nat) : Int)] A Q := by
  obtain ⟨rg, g2, ⟨hf, hh, hl, g3⟩, g4⟩ := h
  have l2 := AHeap.get_lt g2
  have l3 := AHeap.get_lt g3
  have l4 := AHeap.get_lt g4
  have bl := byte_lt b
  have wb : IntKind.u16.wrap ((b.toNat : Nat) : Int) = ((b.toNat : Nat) : Int) := IntWalk.u16_in _ (by omega)
  refine wF_func (first := []) (captured := [.pointer (some ⟨p4, 0, none⟩), .pointer (some ⟨p3, 0, none⟩), .pointer (some ⟨p2, 0, none⟩)]) t156 ⟨rfl, by decide⟩ ?_
  dsimp only [c156]
  by_cases ho : bs.length % 2 = 1
  · have hod : oddB bs = true := by simp [oddB, ho]
    have hev : oddB (bs ++ [b]) = false := by simp [oddB]; omega
    rw [hod] at g4
    have hx : ∃ x : Nat, x < 256 ∧ hf = x * 256 := by
      have hne : bs ≠ [] := fun q => by subst q; simp at ho
      have hc := List.dropLast_concat_getLast hne
      exact ⟨_, byte_lt _, hh _ _ hc.symm ho⟩
    obtain ⟨x, hx1, hx2⟩ := hx
    have hor := or8 x b.toNat hx1 bl
    rw [← hx2] at hor
    simp [-binA, g4, l4, g2, g3, wb, hor, D.d2.2.2.2, D.d3.2.2]
    generalize hA1 : AHeap.set A p4 _ = A1
    obtain ⟨k4, e1, z1⟩ := set_facts l4 hA1
    have k2 := e1.get g2 D.d2.2.2.2
    have k3 := e1.get g3 D.d3.2.2
    have := accB_lt bs hb
    refine word_ok A1 l q3 d (accB bs) (hf + b.toNat) _ (rg.ext e1 D.d4.1.symm D.d4.2.symm) D.d1 (by omega) this fun A2 h2 e2 => ?_
    simp
    refine hq A2 ⟨?_, e2.get k2 (fun q => q.elim D.d2.1 D.d2.2.1), ⟨hf, ?_, hl, e2.get k3 (fun q => q.elim D.d3.1 D.d3.2.1)⟩, ?_⟩ ((e1.mono fun _ _ q => .inr (.inr (.inr q))).trans (e2.mono fun _ _ q => q.elim .inl fun z => .inr (.inl z)))
    · rw [accB_odd b ho hh]; exact h2
    · intro init c q1 q2
      exfalso; simp at q2; omega
    · have := e2.get k4 (fun q => q.elim D.d4.1 D.d4.2)
      rw [hev]; exact this
  · have hod : oddB bs = false := by simp [oddB, ho]
    have hev : oddB (bs ++ [b]) = true := by simp [oddB]; omega
    rw [hod] at g4
    have wsh : IntKind.u16.wrap (((b.toNat : Nat) : Int) * 256) = ((b.toNat * 256 : Nat) : Int) := by rw [IntWalk.u16_in _ (by omega)]; omega
    simp [g4, l4, g3, D.d3.2.2, wb, IntKind.bits, wsh, l3]
    generalize hA1 : AHeap.set A p4 _ = A1
    obtain ⟨k4, e1, z1⟩ := set_facts l4 hA1
    have l3' : p3 < A1.size := by omega
    generalize hA2 : AHeap.set A1 p3 _ = A2
    obtain ⟨k3, e2, z2⟩ := set_facts l3' hA2
    have x2 : Ext (fun j => j = p3 ∨ j = p4) A A2 := (e1.mono fun _ _ q => .inr q).trans (e2.mono fun _ _ q => .inl q)
    refine hq A2 ⟨?_, x2.get g2 (fun q => q.elim D.d2.2.2.1 D.d2.2.2.2), ⟨b.toNat * 256, ?_, by omega, ?_⟩, ?_⟩ (x2.mono fun _ _ q => .inr (.inr q))
    · rw [accB_even b (by omega)]
      exact rg.ext x2 (fun q => q.elim D.d3.1.symm D.d4.1.symm) (fun q => q.elim D.d3.2.1.symm D.d4.2.symm)
    · intro init c q1 q2
      have := List.append_inj' q1 rfl
      simp at this
      rw [this.2]
    · simpa using k3
    · have := e2.get k4 D.d3.2.2.symm
      rw [hev]; exact this
end Go.Proofs.Ytidgbapgedegbaa
