/- Arguments: rows of options, out of what the row's reading bears. -/
import Derived.Test.YtigknpfjhegkgaaGreatDam
import Derived.Test.YtigknpfjhegkgaaGreatZr
import Derived.KernelRfl
set_option linter.unusedSimpArgs false
set_option linter.unusedVariables false
namespace Go.Proofs.YtigknpfjhegkgaaGreat
open Go Go.AS
set_option maxRecDepth 100000
def shO : List Prim := [.int .i64, .int .i64, .int .i64, .bool, .bool, .int .u64, .int .u64, .int .i64, .int .u16, .int .i64, .bool, .int .i64, .int .u32, .int .u32, .str, .bool, .bool, .bool, .int .u64, .bool, .bool, .int .u64, .int .u32, .int .i64, .bool, .int .u16, .bool, .int .i64, .str, .bool, .int .i64, .str, .str, .bool, .int .u64, .int .u64, .int .i64, .int .i64]
theorem shapeO : shapeOf Tryz.prog 6 46 = some shO := by kernel_rfl
theorem litN {k : IntKind} {n : Int} (h : (Lit.int k n).wf = true) (m : Nat) (h0 : k.min = 0) (h1 : k.max < m) : ∃ j : Nat, n = (j : Nat) ∧ j < m := by
  simp only [Lit.wf, Bool.and_eq_true, decide_eq_true_eq] at h
  exact ⟨n.toNat, by omega, by omega⟩
theorem lit64 {n : Int} (h : (Lit.int .u64 n).wf = true) : ∃ j : Nat, n = (j : Nat) ∧ j < 256 ^ 8 := litN h _ (by decide) (by decide)
theorem lit32 {n : Int} (h : (Lit.int .u32 n).wf = true) : ∃ j : Nat, n = (j : Nat) ∧ j < 256 ^ 4 := litN h _ (by decide) (by decide)
theorem lit16 {n : Int} (h : (Lit.int .u16 n).wf = true) : ∃ j : Nat, n = (j : Nat) ∧ j < 256 ^ 2 := litN h _ (by decide) (by decide)
theorem lit8 {n : Int} (h : (Lit.int .u8 n).wf = true) : ∃ j : Nat, n = (j : Nat) ∧ j < 256 := litN h _ (by decide) (by decide)
theorem okI {k : IntKind} {ps : List Prim} {cs : List Value} (h : Oks (.int k :: ps) cs) : ∃ n r, cs = .int k n :: r ∧ (Lit.int k n).wf = true ∧ Oks ps r := by
  match cs, h with
  | v :: r, h => obtain ⟨⟨n, rfl, hw⟩, h2⟩ := h; exact ⟨n, r, rfl, hw, h2⟩
theorem okB {ps : List Prim} {cs : List Value} (h : Oks (.bool :: ps) cs) : ∃ b r, cs = .bool b :: r ∧ Oks ps r := by
  match cs, h with
  | v :: r, h => obtain ⟨⟨n, rfl⟩, h2⟩ := h; exact ⟨n, r, rfl, h2⟩
theorem okS {ps : List Prim} {cs : List Value} (h : Oks (.str :: ps) cs) : ∃ (l : List UInt8) (r : List Value), cs = .string ⟨⟨l⟩⟩ :: r ∧ Oks ps r := by
  match cs, h with
  | v :: r, h => obtain ⟨⟨⟨⟨l⟩⟩, rfl, hw⟩, h2⟩ := h; exact ⟨l, r, rfl, h2⟩
theorem okE {cs : List Value} (h : Oks [] cs) : cs = [] := by
  match cs, h with
  | [], _ => rfl
theorem readO {cs : List Value} (h0 : Oks shO cs) (hs : ∀ s, Value.string s ∈ cs → s.data.toList.length ≤ reachBytes) : ∃ x : Op, cs = x.cells ∧ x.W := by
  obtain ⟨x0, r0, rfl, v0, h1⟩ := okI h0
  obtain ⟨x1, r1, rfl, v1, h2⟩ := okI h1
  obtain ⟨x2, r2, rfl, v2, h3⟩ := okI h2
  obtain ⟨x3, r3, rfl, h4⟩ := okB h3
  obtain ⟨x4, r4, rfl, h5⟩ := okB h4
  obtain ⟨x5, r5, rfl, v5, h6⟩ := okI h5
  obtain ⟨x5, rfl, w5⟩ := lit64 v5
  obtain ⟨x6, r6, rfl, v6, h7⟩ := okI h6
  obtain ⟨x6, rfl, w6⟩ := lit64 v6
  obtain ⟨x7, r7, rfl, v7, h8⟩ := okI h7
  obtain ⟨x8, r8, rfl, v8, h9⟩ := okI h8
  obtain ⟨x8, rfl, w8⟩ := lit16 v8
  obtain ⟨x9, r9, rfl, v9, h10⟩ := okI h9
  obtain ⟨x10, r10, rfl, h11⟩ := okB h10
  obtain ⟨x11, r11, rfl, v11, h12⟩ := okI h11
  obtain ⟨x12, r12, rfl, v12, h13⟩ := okI h12
  obtain ⟨x12, rfl, w12⟩ := lit32 v12
  obtain ⟨x13, r13, rfl, v13, h14⟩ := okI h13
  obtain ⟨x13, rfl, w13⟩ := lit32 v13
  obtain ⟨x14, r14, rfl, h15⟩ := okS h14
  obtain ⟨x15, r15, rfl, h16⟩ := okB h15
  obtain ⟨x16, r16, rfl, h17⟩ := okB h16
  obtain ⟨x17, r17, rfl, h18⟩ := okB h17
  obtain ⟨x18, r18, rfl, v18, h19⟩ := okI h18
  obtain ⟨x18, rfl, w18⟩ := lit64 v18
  obtain ⟨x19, r19, rfl, h20⟩ := okB h19
  obtain ⟨x20, r20, rfl, h21⟩ := okB h20
  obtain ⟨x21, r21, rfl, v21, h22⟩ := okI h21
  obtain ⟨x21, rfl, w21⟩ := lit64 v21
  obtain ⟨x22, r22, rfl, v22, h23⟩ := okI h22
  obtain ⟨x22, rfl, w22⟩ := lit32 v22
  obtain ⟨x23, r23, rfl, v23, h24⟩ := okI h23
  obtain ⟨x24, r24, rfl, h25⟩ := okB h24
  obtain ⟨x25, r25, rfl, v25, h26⟩ := okI h25
  obtain ⟨x25, rfl, w25⟩ := lit16 v25
  obtain ⟨x26, r26, rfl, h27⟩ := okB h26
  obtain ⟨x27, r27, rfl, v27, h28⟩ := okI h27
  obtain ⟨x28, r28, rfl, h29⟩ := okS h28
  obtain ⟨x29, r29, rfl, h30⟩ := okB h29
  obtain ⟨x30, r30, rfl, v30, h31⟩ := okI h30
  obtain ⟨x31, r31, rfl, h32⟩ := okS h31
  obtain ⟨x32, r32, rfl, h33⟩ := okS h32
  obtain ⟨x33, r33, rfl, h34⟩ := okB h33
  obtain ⟨x34, r34, rfl, v34, h35⟩ := okI h34
  obtain ⟨x34, rfl, w34⟩ := lit64 v34
  obtain ⟨x35, r35, rfl, v35, h36⟩ := okI h35
  obtain ⟨x35, rfl, w35⟩ := lit64 v35
  obtain ⟨x36, r36, rfl, v36, h37⟩ := okI h36
  obtain ⟨x37, r37, rfl, v37, h38⟩ := okI h37
  obtain rfl := okE h38
  have b14 : x14.length < 200000000000000 := Nat.lt_of_le_of_lt (hs ⟨⟨x14⟩⟩ (by simp)) (by decide)
  have b28 : x28.length < 200000000000000 := Nat.lt_of_le_of_lt (hs ⟨⟨x28⟩⟩ (by simp)) (by decide)
  have b31 : x31.length < 200000000000000 := Nat.lt_of_le_of_lt (hs ⟨⟨x31⟩⟩ (by simp)) (by decide)
  have b32 : x32.length < 200000000000000 := Nat.lt_of_le_of_lt (hs ⟨⟨x32⟩⟩ (by simp)) (by decide)
  exact ⟨⟨x0, ⟨x1, x2, x3, x4, x5, x6, x7, x8⟩, ⟨x9, x10, x11, x12, x13, x14⟩, ⟨x15, x16, x17, x18, x19, x20, x21, x22, x23, x24, x25⟩, ⟨x26, x27, x28, x29, x30, x31⟩, x32, x33, x34, x35, x36, x37⟩, rfl, ⟨⟨w5, w6, w8⟩, ⟨w12, w13, b14⟩, ⟨w18, w21, w22, w25⟩, ⟨b28, b31⟩, b32, w34, w35⟩⟩
theorem readOs : ∀ {rows : List (List Value)}, (∀ r ∈ rows, Oks shO r ∧ ∀ s, Value.string s ∈ r → s.data.toList.length ≤ reachBytes) → ∃ l : List Op, l.length = rows.length ∧ rows.flatten = opsC l ∧ ∀ x ∈ l, x.W
  | [], _ => ⟨[], rfl, rfl, by simp⟩
  | r :: rows, h => by
    obtain ⟨x, hx, hw⟩ := readO (h r (List.mem_cons_self ..)).1 (h r (List.mem_cons_self ..)).2
    obtain ⟨l, h1, h2, h3⟩ := readOs fun r hr => h r (List.mem_cons_of_mem _ hr)
    refine ⟨x :: l, by simp [h1], by rw [List.flatten_cons, h2, hx]; rfl, fun y hy => ?_⟩
    rcases List.mem_cons.1 hy with q | q
    · subst q; exact hw
    · exact h3 y q
end Go.Proofs.YtigknpfjhegkgaaGreat
