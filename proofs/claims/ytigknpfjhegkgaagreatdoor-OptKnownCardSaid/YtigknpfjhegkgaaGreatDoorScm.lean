/- More arguments: items, two bytes, rows of drafts. -/
import Derived.Test.YtigknpfjhegkgaaGreatDoorSbm
set_option linter.unusedSimpArgs false
set_option linter.unusedVariables false
namespace Go.Proofs.YtigknpfjhegkgaaGreatDoor
open Go Go.AS
set_option maxRecDepth 100000
theorem open_arr {H : Type} {enc : TypeId × Value → H} {P : Program} {w : World} {b0 : Nat} {r : Reach} {sp : Nat → Bool} {held : Bool} {base : Nat} {t e m : Nat} {ps : List Prim} {v : Value} {d : DataW H} {q : List MemPlace}
    (ht : P.underlying t = some (.array m e)) (he : ElemOk P t ps) (hval : Value.okWide P w r b0 t v) (h : DataW.Trod enc P w base sp held t v d q) : ∃ cs, v = .agg ⟨cs⟩ ∧ Oks ps cs := by
  simp only [Value.okWide, ht] at hval
  obtain ⟨cs, rfl, _, _⟩ := hval
  obtain ⟨fuel, hf⟩ := h
  exact ⟨cs.toList, rfl, he.2 enc w base sp held fuel _ _ hf⟩
def shA : List Prim := [.int .u8, .int .u8]
def shI : List Prim := [.int .i64, .str]
theorem okA : ElemOk Tryz.prog 30 shA := shapeOf_ok 6 30 _ (by kernel_rfl)
theorem okIt : ElemOk Tryz.prog 23 shI := shapeOf_ok 6 23 _ (by kernel_rfl)
theorem readA {cs : List Value} (h0 : Oks shA cs) : ∃ a b : Nat, cs = [.int .u8 (a : Nat), .int .u8 (b : Nat)] ∧ a < 256 ∧ b < 256 := by
  obtain ⟨x0, r0, rfl, v0, h1⟩ := okI h0
  obtain ⟨a, rfl, wa⟩ := lit8 v0
  obtain ⟨x1, r1, rfl, v1, h2⟩ := okI h1
  obtain ⟨b, rfl, wb⟩ := lit8 v1
  obtain rfl := okE h2
  exact ⟨a, b, rfl, wa, wb⟩
theorem readI {cs : List Value} (h0 : Oks shI cs) : ∃ (k : Int) (l : List UInt8), cs = [.int .i64 k, .string ⟨⟨l⟩⟩] := by
  obtain ⟨x0, r0, rfl, v0, h1⟩ := okI h0
  obtain ⟨l, r1, rfl, h2⟩ := okS h1
  obtain rfl := okE h2
  exact ⟨x0, l, rfl⟩
end Go.Proofs.YtigknpfjhegkgaaGreatDoor
