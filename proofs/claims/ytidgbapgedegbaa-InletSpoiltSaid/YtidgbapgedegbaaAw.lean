/- An argument that is a struct with a slice in it. -/
import Derived.Test.YtidgbapgedegbaaM3
import Derived.ChangeSame
namespace Go.AS
open Go Go.RowKit
set_option linter.unusedSimpArgs false
set_option linter.unusedVariables false
theorem VRs.snoc {ρ : Ren} : ∀ {l l' : List Value} {v v' : Value}, VRs ρ (l ++ [v]) (l' ++ [v']) → VRs ρ l l' ∧ VR ρ v v'
  | [], [], _, _, h => by cases h with | cons _ _ _ _ h1 h2 => exact ⟨.nil, h1⟩
  | [], x :: l', _, _, h => by have := h.length; simp at this
  | x :: l, [], _, _, h => by have := h.length; simp at this
  | x :: l, y :: l', v, v', h => by
    cases h with
    | cons _ _ _ _ h1 h2 =>
      obtain ⟨a, b⟩ := VRs.snoc h2
      exact ⟨.cons _ _ _ _ h1 a, b⟩
/-- The last argument, put into a struct among plain values. -/
theorem Args.wrap2 {P : Program} {w : World} {ρ : Ren} {A : AHeap} {vs vcs : List Value} {v vc : Value} (h : Args P w ρ A (vs ++ [v]) (vcs ++ [vc])) (l m : List Value) (hl : ∀ x ∈ l, Plain x) (hm : ∀ x ∈ m, Plain x) : Args P w ρ A (vs ++ [.agg ⟨l ++ v :: m⟩]) (vcs ++ [.agg ⟨l ++ vc :: m⟩]) := by
  obtain ⟨h1, h2⟩ := VRs.snoc h.vrs
  exact ⟨h.rel, h.pas, h.free, h1.append (.cons _ _ _ _ (.agg _ _ ((Plain.vrs hl).append (.cons _ _ _ _ h2 (Plain.vrs hm)))) .nil)⟩

/-- A struct of a text, a slice, a number and a yes or no. -/
theorem open_path {H : Type} {enc : TypeId × Value → H} {P : Program} {w : World} {b0 : Nat} {r : Reach} {sp : Nat → Bool} {held : Bool} {base : Nat} {t e : TypeId} {f0 f1 f2 f3 : Field} {k : IntKind} {ps : List Prim} {v : Value} {d : DataW H} {q : List MemPlace}
    (ht : P.underlying t = some (.struct #[f0, f1, f2, f3])) (o : f0.offset = 0 ∧ f1.offset = 1 ∧ f2.offset = 2 ∧ f3.offset = 3) (c0 : P.cellsOf f0.type = 1) (c1 : P.cellsOf f1.type = 1) (c2 : P.cellsOf f2.type = 1) (c3 : P.cellsOf f3.type = 1) (hc : P.cellsOf t = 4)
    (h0 : P.underlying f0.type = some .string) (h1 : P.underlying f1.type = some (.slice e)) (h2 : P.underlying f2.type = some (.int k)) (h3 : P.underlying f3.type = some .bool)
    (hct : P.cellTypes P.depth t = some [f0.type, f1.type, f2.type, f3.type]) (he : ElemOk P e ps) (hval : Value.okWide P w r b0 t v) (h : DataW.Trod enc P w base sp held t v d q) :
    ∃ (s : ByteArray) (n : Int) (b : Bool) (rows : List (List Value)) (sv : Value), v = .agg ⟨[.string s, sv, .int k n, .bool b]⟩ ∧ (Lit.int k n).wf = true ∧ (∀ r ∈ rows, Oks ps r) ∧ RowC w sv rows.length ps.length rows.flatten := by
  simp only [Value.okWide, ht] at hval
  obtain ⟨cs, rfl, hsz, ts, hq2, _, hq3⟩ := hval
  rw [hct] at hq2
  cases hq2
  obtain ⟨cs⟩ := cs
  rw [hc] at hsz
  match cs, hsz with
  | [a, b, c, d'], _ =>
    obtain ⟨fuel, hf⟩ := h
    obtain ⟨xs, n, _, _, _, hl, hi⟩ := DataW.trod_struct ht hf
    match xs, hl with
    | [y0, y1, y2, y3], _ =>
      have g0 := hi 0 f0 rfl
      have g1 := hi 1 f1 rfl
      have g2 := hi 2 f2 rfl
      have g3 := hi 3 f3 rfl
      rw [o.1, c0] at g0
      rw [o.2.1, c1] at g1
      rw [o.2.2.1, c2] at g2
      rw [o.2.2.2, c3] at g3
      obtain ⟨s, e1, _, _⟩ := DataW.trod_string h0 g0
      have e1' : a = .string s := by simpa [Value.cells] using e1
      subst e1'
      obtain ⟨m, e2, _, hm⟩ := DataW.trod_int h2 g2
      have e2' : c = .int k m := by simpa [Value.cells] using e2
      subst e2'
      obtain ⟨y, e3, _⟩ := DataW.trod_bool h3 g3
      have e3' : d' = .bool y := by simpa [Value.cells] using e3
      subst e3'
      obtain ⟨u, hu, hw⟩ := hq3 1 b rfl
      have : u = f1.type := by simpa using hu.symm
      subst this
      have hvb : Value.okWide P w r b0 f1.type b := by
        simp only [Value.okWide, h1]
        exact hw
      obtain ⟨sa, sn, sc, rfl⟩ := WideShapes.okWide_slice h1 hvb
      have ht1 : DataW.Trod enc P w base sp held f1.type (.slice sa sn sc) y1.1 y1.2 := ⟨n, by simpa [Value.cells] using g1⟩
      obtain ⟨rows, k1, k2⟩ := open_rows h1 he hvb ht1
      exact ⟨s, m, y, rows, _, rfl, hm, k1, k2⟩
end Go.AS
