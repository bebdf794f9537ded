import Derived.Test.YtidgbapgedegbaaAsF
namespace Go.AS
open Go
set_option linter.unusedSimpArgs false
set_option linter.unusedVariables false

section
variable {C : Comp} {ρ : Ren} {A : AHeap} {w : World} {P : Program} {e : Env} {cev : Operand → Value}

theorem run_typeInfo {t : TypeId} {i : TypeInfo} (h : P.info? t = some i) : (typeInfo t).run P w = .ok i w := by
  simp [typeInfo, run_bind, program, Sem.run, h, run_pure]
theorem run_underlying {t : TypeId} {d : TypeDesc} (h : P.underlying t = some d) : (underlying t).run P w = .ok d w := by
  simp [underlying, run_bind, program, Sem.run, h, run_pure]
theorem run_sizeOf {t : TypeId} {n : Nat} (h : szOf P t = some n) : (sizeOf t).run P w = .ok n w := by
  unfold szOf at h
  cases hi : P.info? t with
  | none => rw [hi] at h; cases h
  | some i => rw [hi] at h; cases h; simp only [sizeOf, run_bind, run_typeInfo hi, run_pure]
theorem run_isAgg {t : TypeId} {b : Bool} (h : aggOf P t = some b) : (isAgg t).run P w = .ok b w := by
  unfold aggOf at h
  cases hi : P.underlying t with
  | none => rw [hi] at h; cases h
  | some d =>
    rw [hi] at h
    simp only [Option.map_some, Option.some.injEq] at h
    simp only [isAgg, run_bind, run_underlying hi]
    split at h <;> subst h <;> (first | rfl | (split <;> first | rfl | simp_all))
theorem zeroOf_spec {t : TypeId} {z : List Value} (h : zeroOf P t = some z) : ∃ v, (zeroValue t).run P w = .ok v w ∧ cl v = z ∧ VRs ρ z z := by
  unfold zeroOf at h
  cases hi : P.info? t with
  | none => rw [hi] at h; cases h
  | some i =>
    rw [hi] at h
    simp only [Option.bind_eq_bind, Option.bind_some] at h
    cases hz : i.zero with
    | none => rw [hz] at h; cases h
    | some v =>
      rw [hz] at h
      simp only [Option.bind_some] at h
      split at h
      · rename_i hp
        cases h
        exact ⟨v, by simp only [zeroValue, run_bind, run_typeInfo hi, hz, run_pure], rfl, plains_VRs hp⟩
      · cases h

theorem run_v {s : Sem Value} {x : Value} {w' : World} (h : s.run P w = .ok x w') : (do let r ← s; pure (Next.value r) : Sem Next).run P w = .ok (.value x) w' := by
  rw [run_bind, h]; rfl
theorem run_u {s : Sem Unit} {w' : World} (h : s.run P w = .ok () w') : (do s; pure Next.skip : Sem Next).run P w = .ok .skip w' := by
  rw [run_bind, h]; rfl

theorem VRs.map {l : List Operand} (h : ∀ x ∈ l, VR ρ (ev e x) (cev x)) : VRs ρ (l.map (ev e)) (l.map cev) := by
  induction l with
  | nil => exact .nil
  | cons x l ih => exact .cons _ _ _ _ (h x (by simp)) (ih fun y hy => h y (by simp [hy]))

/-! ### Numbers and strings -/
theorem append_bytes (a b : ByteArray) : a ++ b = ⟨⟨a.data.toList ++ b.data.toList⟩⟩ := by
  apply ByteArray.ext
  apply Array.ext'
  simp

theorem run_addS {a b : ByteArray} {v : Value} (t : TypeId) (h : binA .add (.string a) (.string b) = some v) : (binOp .add t (.string a) (.string b)).run P w = .ok v w := by
  simp only [binA] at h
  split at h
  · cases h
  · rename_i hb
    have hs : ¬ ((a.size + b.size : Nat) : Int) > IntKind.i64.max := hb
    cases h
    simp only [binOp, Op.stringOp, if_neg hs, run_pure, append_bytes]

theorem binA_sound {op : BinOp} {x y v : Value} {x' y' : Value} (t : TypeId) (h : binA op x y = some v) (hx : VR ρ x x') (hy : VR ρ y y') :
    (binOp op t x' y').run P w = .ok v w ∧ VR ρ v v := by
  unfold binA at h
  split at h
  · rename_i k a k' b
    cases hx; cases hy
    split at h
    · split at h
      · cases h
      · cases h; rename_i hb; exact ⟨by simp only [binOp, Op.shift, if_neg hb, run_pure], .int _ _⟩
    · split at h
      · cases h
      · cases h; rename_i hb; exact ⟨by simp only [binOp, Op.shift, if_neg hb, run_pure], .int _ _⟩
    · rename_i hs1 hs2
      split at h
      · cases h
      · rename_i hk
        have hk' : k = k' := by simpa using hk
        subst hk'
        split at h
        all_goals first
          | (cases h; exact ⟨by simp only [binOp, ne_eq, not_true_eq_false, if_false, Op.intArith, Op.intBits, Op.intCmp, run_pure], by constructor⟩)
          | (split at h
             · cases h
             · rename_i hb; cases h; exact ⟨by simp only [binOp, ne_eq, not_true_eq_false, if_false, Op.intDiv, if_neg hb, run_pure], by constructor⟩)
          | cases h
  · rename_i a b
    cases hx; cases hy
    have e1 : a.toList = a.data.toList := ByteArray.toList_eq a
    have e2 : b.toList = b.data.toList := ByteArray.toList_eq b
    cases op
    case add => exact ⟨run_addS t h, by
      simp only [binA] at h
      split at h
      · cases h
      · cases h; constructor⟩
    all_goals first
      | (cases h; exact ⟨by simp only [binOp, Op.stringOp, e1, e2, run_pure], by constructor⟩)
      | (simp at h; done)
  · cases h

theorem unA_sound {op : UnOp} {x v x' : Value} (h : unA op x = some v) (hx : VR ρ x x') : (Op.unary op x').run P w = .ok v w ∧ VR ρ v v := by
  unfold unA at h
  split at h
  · cases hx; cases h; exact ⟨rfl, by constructor⟩
  · cases hx; cases h; exact ⟨rfl, by constructor⟩
  · cases hx; cases h; exact ⟨rfl, by constructor⟩
  · cases h

end
end Go.AS
