/- A text of this claim. -/
import Derived.Test.YtigknpfjhegkgaaGreatDoorUam
import Derived.Test.YtigknpfjhegkgaaGreatDoorZq
import Derived.KernelRfl
set_option linter.unusedSimpArgs false
set_option linter.unusedVariables false
namespace Go.Proofs.YtigknpfjhegkgaaGreatDoor
open Go Go.AS
set_option maxRecDepth 100000
def shO : List Prim := [.int .i64, .int .i64, .int .i64, .bool, .bool, .int .u64, .int .u64, .int .i64, .int .u16, .int .i64, .bool, .int .i64, .int .u32, .int .u32, .str, .bool, .bool, .bool, .int .u64, .bool, .bool, .int .u64, .int .u32, .int .i64, .bool, .int .u16, .bool, .int .i64, .str, .bool, .int .i64, .str, .str, .bool, .int .u64, .int .u64, .int .i64, .int .i64]
def shD : List Prim := [.int .u8, .int .u8, .int .u8, .bool, .bool, .bool, .int .u64, .int .u64, .int .u16, .int .u16] ++ times 24 [.int .u8]
theorem okD : ElemOk Tryz.prog 29 shD := shapeOf_ok 6 29 _ (by kernel_rfl)
theorem litN {k : IntKind} {n : Int} (h : (Lit.int k n).wf = true) (m : Nat) (h0 : k.min = 0) (h1 : k.max < m) : ∃ j : Nat, n = (j : Nat) ∧ j < m := by
  simp only [Lit.wf, Bool.and_eq_true, decide_eq_true_eq] at h
  exact ⟨n.toNat, by omega, by omega⟩
theorem lit64 {n : Int} (h : (Lit.int .u64 n).wf = true) : ∃ j : Nat, n = (j : Nat) ∧ j < 256 ^ 8 := litN h _ (by decide) (by decide)
theorem lit16 {n : Int} (h : (Lit.int .u16 n).wf = true) : ∃ j : Nat, n = (j : Nat) ∧ j < 256 ^ 2 := litN h _ (by decide) (by decide)
theorem lit8 {n : Int} (h : (Lit.int .u8 n).wf = true) : ∃ j : Nat, n = (j : Nat) ∧ j < 256 := litN h _ (by decide) (by decide)
theorem okI {k : IntKind} {ps : List Prim} {cs : List Value} (h : Oks (.int k :: ps) cs) : ∃ n r, cs = .int k n :: r ∧ (Lit.int k n).wf = true ∧ Oks ps r := by
  match cs, h with
  | v :: r, h => obtain ⟨⟨n, rfl, hw⟩, h2⟩ := h; exact ⟨n, r, rfl, hw, h2⟩
theorem okB {ps : List Prim} {cs : List Value} (h : Oks (.bool :: ps) cs) : ∃ b r, cs = .bool b :: r ∧ Oks ps r := by
  match cs, h with
  | v :: r, h => obtain ⟨⟨n, rfl⟩, h2⟩ := h; exact ⟨n, r, rfl, h2⟩
theorem okS {ps : List Prim} {cs : List Value} (h : Oks (.str :: ps) cs) : ∃ (l : List UInt8) (r : List Value), cs = .string ⟨⟨l⟩⟩ :: r ∧ Oks ps r := by
  match cs, h with
  | v :: r, h => obtain ⟨⟨⟨⟨l⟩⟩, rfl, hw⟩, h2⟩ := h; exact ⟨l, r, rfl, h2⟩
theorem okE {cs : List Value} (h : Oks [] cs) : cs = [] := by
  match cs, h with
  | [], _ => rfl
theorem readBs : ∀ (n : Nat) (cs : List Value), Oks (times n [.int .u8]) cs → ∃ l : List UInt8, cs = bcells l ∧ l.length = n
  | 0, cs, h => ⟨[], okE h, rfl⟩
  | n + 1, cs, h => by
    obtain ⟨b, r, rfl, hw, h2⟩ := okI (ps := times n [.int .u8]) h
    obtain ⟨j, rfl, hj⟩ := lit8 hw
    obtain ⟨l, rfl, hl⟩ := readBs n r h2
    refine ⟨UInt8.ofNat j :: l, ?_, by simp [hl]⟩
    show _ = byt (UInt8.ofNat j) :: bcells l
    rw [byt, ofNat_toNat hj]
theorem readD {cs : List Value} (h0 : Oks shD cs) : ∃ d : Dr, cs = d.cells ∧ d.W := by
  obtain ⟨x0, r0, rfl, v0, h1⟩ := okI h0
  obtain ⟨x0, rfl, w0⟩ := lit8 v0
  obtain ⟨x1, r1, rfl, v1, h2⟩ := okI h1
  obtain ⟨x1, rfl, w1⟩ := lit8 v1
  obtain ⟨x2, r2, rfl, v2, h3⟩ := okI h2
  obtain ⟨x2, rfl, w2⟩ := lit8 v2
  obtain ⟨x3, r3, rfl, h4⟩ := okB h3
  obtain ⟨x4, r4, rfl, h5⟩ := okB h4
  obtain ⟨x5, r5, rfl, h6⟩ := okB h5
  obtain ⟨x6, r6, rfl, v6, h7⟩ := okI h6
  obtain ⟨x6, rfl, w6⟩ := lit64 v6
  obtain ⟨x7, r7, rfl, v7, h8⟩ := okI h7
  obtain ⟨x7, rfl, w7⟩ := lit64 v7
  obtain ⟨x8, r8, rfl, v8, h9⟩ := okI h8
  obtain ⟨x8, rfl, w8⟩ := lit16 v8
  obtain ⟨x9, r9, rfl, v9, h10⟩ := okI h9
  obtain ⟨x9, rfl, w9⟩ := lit16 v9
  obtain ⟨l, rfl, hl⟩ := readBs 24 r9 h10
  exact ⟨⟨x0, x1, x2, x3, x4, x5, x6, x7, x8, x9, l⟩, rfl, ⟨w0, w1, w2, w6, w7, w8, w9, hl⟩⟩
theorem Dr.W.opt {d : Dr} (h : d.W) : d.opt.W := by
  have z0 : Op.zero.W := ⟨⟨by decide, by decide, by decide⟩, ⟨by decide, by decide, by decide⟩, ⟨by decide, by decide, by decide, by decide⟩, ⟨by decide, by decide⟩, by decide, by decide, by decide⟩
  have ha := h.a
  have hb := h.b
  have hm := h.m
  have hl := h.bytes
  unfold Dr.opt
  split
  · refine ⟨⟨?_, ?_, ?_⟩, z0.jn, z0.ds, z0.ad, z0.ids, z0.fail, z0.fast⟩
    · show (if 1 ≤ d.what % 5 then d.a else 0) < _
      split <;> omega
    · show (if 2 ≤ d.what % 5 then d.b else 0) < _
      split <;> omega
    · show (if d.what % 5 = 4 then d.m else 0) < _
      split <;> omega
  split
  · refine ⟨z0.cap, ?_, z0.ds, z0.ad, z0.ids, z0.fail, z0.fast⟩
    show d.jn.W
    unfold Dr.jn
    split
    · exact ⟨by show d.a % 4294967296 < _; omega, by show d.b % 4294967296 < _; omega, by show 0 < _; omega⟩
    split
    · exact ⟨by show 0 < _; omega, by show d.b % 4294967296 < _; omega, by show (d.bytes.take 8).length < _; rw [List.length_take]; omega⟩
    · exact ⟨by show 0 < _; omega, by show 0 < _; omega, by show (d.bytes.take 20).length < _; rw [List.length_take]; omega⟩
  split
  · refine ⟨z0.cap, z0.jn, ⟨?_, ?_, ?_, ?_⟩, z0.ad, z0.ids, z0.fail, z0.fast⟩
    · show (if d.what % 3 ≠ 1 then (if d.f0 then d.a else d.a % 4294967296) else 0) < _
      split
      · split <;> omega
      · omega
    · show (if d.what % 3 ≠ 0 then (if d.f2 then d.b else d.b % 4294967296) else 0) < _
      split
      · split <;> omega
      · omega
    · show (if d.what % 3 ≠ 0 then d.a / 4294967296 else 0) < _
      split <;> omega
    · show (if d.what % 3 ≠ 0 ∧ d.id % 2 = 1 then d.m else 0) < _
      split <;> omega
  split
  · refine ⟨z0.cap, z0.jn, z0.ds, ⟨?_, ?_⟩, z0.ids, z0.fail, z0.fast⟩
    · show (if d.f1 then d.bytes.take 16 else d.bytes.take 4).length < _
      split <;> rw [List.length_take] <;> omega
    · show (if d.f0 then [] else d.bytes.drop 16).length < _
      split
      · decide
      · rw [List.length_drop]; omega
  split
  · refine ⟨z0.cap, z0.jn, z0.ds, z0.ad, ?_, z0.fail, z0.fast⟩
    show (d.bytes.take (1 + d.what % 24)).length < _
    rw [List.length_take]; omega
  split
  · exact ⟨z0.cap, z0.jn, z0.ds, z0.ad, z0.ids, z0.fail, z0.fast⟩
  split
  · exact ⟨z0.cap, z0.jn, z0.ds, z0.ad, z0.ids, h.a, z0.fast⟩
  split
  · exact ⟨z0.cap, z0.jn, z0.ds, z0.ad, z0.ids, z0.fail, h.a⟩
  · exact ⟨z0.cap, z0.jn, z0.ds, z0.ad, z0.ids, z0.fail, z0.fast⟩
end Go.Proofs.YtigknpfjhegkgaaGreatDoor
