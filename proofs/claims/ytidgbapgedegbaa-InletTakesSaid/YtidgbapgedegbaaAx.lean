/- How long a slice may be that comes as an argument. -/
import Derived.Test.YtidgbapgedegbaaM3
import Derived.ChangeSame
import Derived.SizedLaws
namespace Go.AS
open Go Go.RowKit
theorem slice_sized {H : Type} {enc : TypeId × Value → H} {P : Program} {w : World} {base : Nat} {sp : Nat → Bool} {held : Bool} {t e : TypeId} {v : Value} {d : DataW H} {q : List MemPlace} {ts : List TypeId} {ds : List (DataW H)} {j : Nat} {n sz : Nat} {cs : List Value}
    (ht : P.underlying t = some (.slice e)) (hb : decide (1 ≤ P.bytesOf e) = true) (h : DataW.Trod enc P w base sp held t v d q) (hs : (DataW.weightsEach P ts ds).all (· ≤ reachBytes) = true) (h1 : ts[j]? = some t) (h2 : ds[j]? = some d) (hr : RowC w v n sz cs) : n ≤ reachBytes := by
  obtain ⟨fuel, hf⟩ := h
  have hb' := of_decide_eq_true hb
  rcases hr with ⟨rfl, rfl, rfl⟩ | ⟨x, cap, rfl, _⟩
  · exact Nat.zero_le _
  · rcases DataW.trod_slice ht hf with ⟨hcs, _⟩ | ⟨x', len', cap', elems, rest, k, _, hcs, he, _, hl, _, hlen, _⟩
    · simp [Value.cells] at hcs
    · simp [Value.cells] at hcs
      obtain ⟨rfl, rfl, rfl⟩ := hcs
      have hd : d = .slice (elems.map (·.1)) (rest.map (·.1)) := congrArg Prod.fst he
      rw [hd] at h2
      have := sized_slice hs h1 h2 ht
      rw [List.length_map, List.length_map, hlen] at this
      have h3 := Nat.le_mul_of_pos_right (n + rest.length) hb'
      omega
end Go.AS
