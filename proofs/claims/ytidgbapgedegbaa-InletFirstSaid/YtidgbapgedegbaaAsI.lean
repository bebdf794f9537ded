import Derived.Test.YtidgbapgedegbaaAsH
namespace Go.AS
open Go
set_option linter.unusedSimpArgs false
set_option linter.unusedVariables false

section
variable {C : Comp} {ρ : Ren} {A : AHeap} {w : World} {P : Program} {e : Env} {cev : Operand → Value}

theorem VR.ptr_inv {b o : Nat} {x : Value} (h : VR ρ (.pointer (some ⟨b, o, none⟩)) x) : ∃ en, ρ b = some en ∧ x = .pointer (some ⟨en.cb, en.base + o, none⟩) := by
  cases h with | ptr _ _ en he => exact ⟨en, he, rfl⟩

theorem VR.int_inv {k : IntKind} {n : Int} {x : Value} (h : VR ρ (.int k n) x) : x = .int k n := by cases h; rfl
theorem VR.bool_inv {b : Bool} {x : Value} (h : VR ρ (.bool b) x) : x = .bool b := by cases h; rfl
theorem VR.string_inv {s : ByteArray} {x : Value} (h : VR ρ (.string s) x) : x = .string s := by cases h; rfl

theorem idxA_sound {x x' : Value} {j : Int} (h : idxA x = some j) (hx : VR ρ x x') : ∃ k, (asIntOf x').run P w = .ok (k, j) w := by
  unfold idxA at h
  split at h
  · cases h; rw [hx.int_inv]; exact ⟨_, rfl⟩
  · cases h

/-- What is read of a slice's or a string's front. -/
theorem firstA_sound (hr : HRel C ρ A w.heap) {size n : Nat} {x x' : Value} {vs : List Value} (h : firstA A size n x = some vs) (hx : VR ρ x x') :
    ∃ vs' : Array Value, (Builtin.firstCells size n x').run P w = .ok vs' w ∧ VRs ρ vs vs'.toList := by
  unfold firstA at h
  split at h
  · cases h; cases hx; exact ⟨#[], rfl, .nil⟩
  · rename_i b o l c
    split at h
    · rename_i h0; cases h
      have zero : ∀ (ad : Addr) (c' : Nat), ∃ vs' : Array Value, (Builtin.firstCells size n (.slice (some ad) l c')).run P w = .ok vs' w ∧ VRs ρ [] vs'.toList := fun ad c' =>
        ⟨#[], by simp only [Builtin.firstCells, h0]; rfl, .nil⟩
      cases hx <;> exact zero _ _
    · split at h
      · cases h
      · rename_i hce
        have key : ∀ (en : REnt) (c' : Nat), ρ b = some en → ∃ vs' : Array Value, (Builtin.firstCells size n (.slice (some ⟨en.cb, en.base + o, none⟩) l c')).run P w = .ok vs' w ∧ VRs ρ vs vs'.toList := by
          intro en c' he
          obtain ⟨vs', h1, h2⟩ := run_loadN (P := P) hr he h
          exact ⟨vs'.toArray, by simp only [Builtin.firstCells]; exact h2, by simpa using h1⟩
        cases hx with
        | slice _ _ _ _ en he hc hl => exact key en _ he
        | sliceOpen _ _ _ q en he hq hrm => exact key en _ he
        | sliceEnd => exact absurd rfl hce
  · rename_i s
    cases h
    rw [hx.string_inv]
    refine ⟨_, rfl, ?_⟩
    have : (s.extract 0 n).data.toList = s.data.toList.take n := by simp
    rw [Array.toList_map, this]
    generalize s.data.toList.take n = l
    induction l with
    | nil => exact .nil
    | cons a l ih => exact .cons _ _ _ _ (.int _ _) ih
  · cases h

theorem eqA_run {lit : Bool} {t : TypeId} {k : EqK} {d : TypeDesc} {x y x' y' : Value} {b : Bool} (hd : P.underlying t = some d) (hk : eqKind d = some k)
    (h : eqA lit k x y = some b) (hx : VR ρ x x') (hy : VR ρ y y') : (Op.equal t x' y').run P w = .ok b w := by
  unfold Op.equal
  obtain ⟨n, hm⟩ : ∃ n, Op.maxDepth = n + 1 := ⟨9999, rfl⟩
  rw [hm]
  unfold eqA at h
  split at h
  all_goals first
    | (cases d <;> simp only [eqKind, Option.some.injEq, reduceCtorEq] at hk
       cases hx <;> cases hy <;> first
         | (cases h; simp only [Op.equalIn, run_bind, run_underlying hd, run_pure]; done)
         | (cases h; simp only [Op.equalIn, run_bind, run_underlying hd, run_pure]; rfl)
         | (split at h
            · cases h; simp only [Op.equalIn, run_bind, run_underlying hd, run_pure]
            · cases h))
    | cases h

theorem eqA_guard {lit : Bool} {op : BinOp} {t : TypeId} {k : EqK} {x y : Operand} {X Y x' y' : Value} {b : Bool} (hop : op = .eql ∨ op = .neq) (hl : lit = (isLit x || isLit y)) 
    (h : eqA lit k X Y = some b) (hx : VR ρ X x') (hy : VR ρ Y y') : (eqGuard op t x y x' y').run P w = .ok () w := by
  unfold eqA at h
  split at h
  all_goals first
    | (simp only [reduceCtorEq] at h; done)
    | (cases hx <;> cases hy <;> rcases hop with rfl | rfl <;> rfl)
    | (cases hx; cases hy
       subst hl
       rcases hop with rfl | rfl <;> cases x <;> cases y <;> first | rfl | (simp [isLit] at h; done))
    | cases h

theorem eqA_bin {lit : Bool} {t : TypeId} {k : EqK} {x y x' y' : Value} {b : Bool} (h : eqA lit k x y = some b) (hx : VR ρ x x') (hy : VR ρ y y') :
    binOp .eql t x' y' = (do pure (.bool (← Op.equal t x' y'))) ∧ binOp .neq t x' y' = (do pure (.bool (!(← Op.equal t x' y')))) := by
  unfold eqA at h
  split at h
  all_goals first
    | (cases hx <;> cases hy <;> exact ⟨rfl, rfl⟩)
    | cases h

end
end Go.AS
