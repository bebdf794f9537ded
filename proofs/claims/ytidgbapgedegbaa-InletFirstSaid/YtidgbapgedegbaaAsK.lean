import Derived.Test.YtidgbapgedegbaaAsJ
namespace Go.AS
open Go
set_option linter.unusedSimpArgs false
set_option linter.unusedVariables false

section
variable {C : Comp} {ρ : Ren} {A : AHeap} {w : World} {P : Program} {e : Env} {cev : Operand → Value}

theorem foldV_sound {f : Value → Value → Option Value} {g : Value → Value → Sem Value} (hfg : ∀ {x y z x' y' : Value}, f x y = some z → VR ρ x x' → VR ρ y y' → ∃ z', (g x' y').run P w = .ok z' w ∧ VR ρ z z')
    {l : List Value} : ∀ {l' : List Value} {x x' v : Value}, foldV f x l = some v → VR ρ x x' → VRs ρ l l' → ∃ v', (l'.foldlM g x').run P w = .ok v' w ∧ VR ρ v v' := by
  induction l with
  | nil => intro l' x x' v h hx hl; cases hl; cases h; exact ⟨x', rfl, hx⟩
  | cons y l ih =>
    intro l' x x' v h hx hl
    cases hl with
    | cons _ y' _ l2 hy hl =>
      simp only [foldV] at h
      split at h
      · rename_i z hz
        obtain ⟨z', h1, h2⟩ := hfg hz hx hy
        obtain ⟨v', h3, h4⟩ := ih h h2 hl
        exact ⟨v', by simp only [List.foldlM_cons, run_bind, h1]; exact h3, h4⟩
      · cases h

theorem minV_sound {x y z x' y' : Value} (h : minV x y = some z) (hx : VR ρ x x') (hy : VR ρ y y') : ∃ z', (Builtin.min2 x' y').run P w = .ok z' w ∧ VR ρ z z' := by
  unfold minV at h
  split at h
  · cases hx; cases hy; cases h; exact ⟨_, rfl, .int _ _⟩
  · cases h
theorem maxV_sound {x y z x' y' : Value} (h : maxV x y = some z) (hx : VR ρ x x') (hy : VR ρ y y') : ∃ z', (Builtin.max2 x' y').run P w = .ok z' w ∧ VR ρ z z' := by
  unfold maxV at h
  split at h
  · cases hx; cases hy; cases h; exact ⟨_, rfl, .int _ _⟩
  · cases h

theorem lenA_sound {x x' : Value} {n : Nat} (h : lenA x = some n) (hx : VR ρ x x') : (Builtin.lenOf x').run P w = .ok n w := by
  unfold lenA at h
  split at h
  · cases h; cases hx <;> rfl
  · cases h; cases hx; rfl
  · cases h

/-- bytes of a slice to a string -/
theorem b2s_loop (f : Value → ByteArray → Sem (ForInStep ByteArray)) (hf : ∀ n r, f (.int .u8 n) r = pure (.yield (r.push (UInt8.ofNat n.toNat)))) (cs : List Value) : ∀ (cs' : List Value) (acc : ByteArray), VRs ρ cs cs' → (cs.all fun v => match v with | .int .u8 _ => true | _ => false) = true →
    (forIn cs'.toArray acc f).run P w =
      .ok ⟨⟨acc.data.toList ++ cs.map fun v => match v with | .int _ n => UInt8.ofNat n.toNat | _ => 0⟩⟩ w := by
  induction cs with
  | nil => intro cs' acc h _; cases h; simp [run_pure]
  | cons v cs ih =>
    intro cs' acc h ha
    cases h with
    | cons _ v' _ l' hv hl =>
      simp only [List.all_cons, Bool.and_eq_true] at ha
      obtain ⟨h1, h2⟩ := ha
      split at h1
      · rename_i n
        rw [hv.int_inv]
        have := ih l' (acc.push (UInt8.ofNat n.toNat)) hl h2
        simp only [List.forIn_toArray, List.forIn_cons, run_bind, run_pure, hf] at this ⊢
        rw [this]
        simp
      · cases h1

theorem cvB2S_sound (hr : HRel C ρ A w.heap) {a : Option Addr} {n c : Nat} {cs : List Value} {x' : Value} (h : firstA A 1 n (.slice a n c) = some cs)
    (ha : (cs.all fun v => match v with | .int .u8 _ => true | _ => false) = true) (hx : VR ρ (.slice a n c) x') :
    (Conv.bytesToString x').run P w = .ok (.string ⟨⟨cs.map fun v => match v with | .int _ n => UInt8.ofNat n.toNat | _ => 0⟩⟩) w := by
  obtain ⟨vs', h1, h2⟩ := firstA_sound (P := P) hr h hx
  have key : ∀ (b : Addr) (c' : Nat), x' = .slice (some b) n c' → (Conv.bytesToString x').run P w = .ok (.string ⟨⟨cs.map fun v => match v with | .int _ n => UInt8.ofNat n.toNat | _ => 0⟩⟩) w := by
    intro b c' hx'
    subst hx'
    simp only [Builtin.firstCells, Nat.mul_one] at h1
    simp only [Conv.bytesToString, run_bind, h1]
    have hl := fun f hf => b2s_loop (P := P) (w := w) f hf cs vs'.toList ByteArray.empty h2 ha
    simp only [Array.toArray_toList] at hl
    rw [hl _ (fun _ _ => rfl)]
    simp [run_pure]
  cases hx with
  | nils => cases h; rfl
  | slice _ _ _ _ en he hc hl => exact key _ _ rfl
  | sliceOpen _ _ _ q en he hq hrm => exact key _ _ rfl
  | sliceEnd => exact key _ _ rfl

end
end Go.AS
