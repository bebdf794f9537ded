/- Rows of structs that come as an argument, with the length of every text in them bounded. -/
import Derived.Test.YtigknpfjhegkgaaGreatZq
import Derived.SizedLaws
set_option linter.unusedSimpArgs false
set_option linter.unusedVariables false
namespace Go.AS
open Go
theorem str_fields {P : Program} {G : Nat → Prop} {sh : TypeId → Option (List Prim)} {H : Type} {enc : TypeId × Value → H} {w : World} {base : Nat} {sp : Nat → Bool} {held : Bool} {n : Nat} {cs : List Value}
    (hlen : ∀ t ps, sh t = some ps → P.cellsOf t = ps.length)
    (ih : ∀ t ps (cs : List Value) x, sh t = some ps → DataW.trod enc P w base sp held n t cs = some x → ∀ s, Value.string s ∈ cs → s.data.toList.length ∈ x.1.weights P t) :
    ∀ (fs : List Field) (o : Nat) (ps : List Prim), shapeFs sh o fs = some ps → cs.length = o + ps.length → (∀ f ∈ fs, ∃ x, DataW.trod enc P w base sp held n f.type ((cs.drop f.offset).take (P.cellsOf f.type)) = some x ∧ ∀ m ∈ x.1.weights P f.type, G m) → ∀ s, Value.string s ∈ cs.drop o → G s.data.toList.length
  | [], o, ps, h, hl, _ => by
    cases h
    rw [List.drop_of_length_le (by simp at hl; omega)]
    intro s hs
    cases hs
  | f :: r, o, ps, h, hl, hx => by
    simp only [shapeFs] at h
    split at h
    · rename_i ho
      split at h
      · rename_i p1 h1
        cases h2 : shapeFs sh (o + p1.length) r with
        | none => rw [h2] at h; cases h
        | some p2 =>
          rw [h2] at h
          obtain rfl : p1 ++ p2 = ps := Option.some.inj h
          obtain ⟨x, hx1, hx2⟩ := hx f (List.mem_cons_self ..)
          intro s hs
          rw [← List.take_append_drop p1.length (cs.drop o)] at hs
          rcases List.mem_append.1 hs with q | q
          · rw [ho, hlen _ _ h1] at hx1
            exact hx2 _ (ih _ _ _ _ h1 hx1 s q)
          · rw [List.drop_drop] at q
            exact str_fields hlen ih r (o + p1.length) p2 h2 (by simp at hl; omega) (fun g hg => hx g (List.mem_cons_of_mem _ hg)) s q
      · cases h
    · cases h
theorem mem_all {H : Type} {P : Program} {e : TypeId} {d : DataW H} {m : Nat} (hm : m ∈ d.weights P e) : ∀ (ds : List (DataW H)), d ∈ ds → m ∈ DataW.weightsAll P e ds
  | a :: r, h => by
    rw [DataW.weightsAll, List.mem_append]
    rcases List.mem_cons.1 h with q | q
    · subst q; exact .inl hm
    · exact .inr (mem_all hm r q)
theorem str_times {P : Program} {G : Nat → Prop} {e : TypeId} {H : Type} {enc : TypeId × Value → H} {w : World} {base : Nat} {sp : Nat → Bool} {held : Bool} {n : Nat} {cs : List Value}
    (ih : ∀ (cs : List Value) x, DataW.trod enc P w base sp held n e cs = some x → ∀ s, Value.string s ∈ cs → s.data.toList.length ∈ x.1.weights P e) :
    ∀ (k o : Nat), cs.length = (o + k) * P.cellsOf e → (∀ i, o ≤ i → i < o + k → ∃ x, DataW.trod enc P w base sp held n e ((cs.drop (i * P.cellsOf e)).take (P.cellsOf e)) = some x ∧ ∀ m ∈ x.1.weights P e, G m) → ∀ s, Value.string s ∈ cs.drop (o * P.cellsOf e) → G s.data.toList.length
  | 0, o, hl, _ => by
    rw [List.drop_of_length_le (by rw [hl]; exact Nat.le_refl _)]
    intro s hs
    cases hs
  | k + 1, o, hl, hx => by
    intro s hs
    obtain ⟨x, h1, h2⟩ := hx o (Nat.le_refl _) (by omega)
    rw [← List.take_append_drop (P.cellsOf e) (cs.drop (o * P.cellsOf e))] at hs
    rcases List.mem_append.1 hs with q | q
    · exact h2 _ (ih _ _ h1 s q)
    · rw [List.drop_drop, ← Nat.succ_mul] at q
      exact str_times ih k (o + 1) (by rw [hl]; congr 1; omega) (fun i hi hi2 => hx i (by omega) (by omega)) s q
/-- A text's length is among the weights of what it stands in. -/
theorem str_weight {P : Program} {H : Type} {enc : TypeId × Value → H} {w : World} {base : Nat} {sp : Nat → Bool} {held : Bool} : ∀ (n : Nat) (t : TypeId) (ps : List Prim) (fuel : Nat) (cs : List Value) (x : DataW H × List MemPlace), shapeOf P n t = some ps → DataW.trod enc P w base sp held fuel t cs = some x → ∀ s, Value.string s ∈ cs → s.data.toList.length ∈ x.1.weights P t
  | 0, _, _, _, _, _, h, _ => by cases h
  | n + 1, t, ps, fuel, cs, x, h, hd => by
    have hok := (shapeOf_ok (n + 1) t ps h).2 enc w base sp held fuel cs x hd
    unfold shapeOf at h
    split at h
    · rename_i hu
      split at h
      · cases h
        match cs, hok with
        | [v], hok =>
          obtain ⟨⟨s, rfl, hs⟩, _⟩ := hok
          cases fuel with
          | zero => cases hd
          | succ fuel =>
            simp only [DataW.trod, hu, if_pos hs, Option.some.injEq] at hd
            subst hd
            intro s' hs'
            rw [List.mem_singleton] at hs'
            cases hs'
            simp [DataW.weights]
      · cases h
    · split at h
      · cases h
        match cs, hok with
        | [v], hok =>
          obtain ⟨⟨n, rfl, _⟩, _⟩ := hok
          intro s' hs'
          rw [List.mem_singleton] at hs'
          cases hs'
      · cases h
    · split at h
      · cases h
        match cs, hok with
        | [v], hok =>
          obtain ⟨⟨n, rfl⟩, _⟩ := hok
          intro s' hs'
          rw [List.mem_singleton] at hs'
          cases hs'
      · cases h
    · rename_i fs hu
      split at h
      · rename_i ps' hp
        split at h
        · rename_i hc
          cases h
          obtain ⟨xs, m, hm, hxe, hl, hx, hi⟩ := DataW.trod_struct hu hd
          have := str_fields (P := P) (G := fun k => k ∈ x.1.weights P t) (enc := enc) (w := w) (base := base) (sp := sp) (held := held) (n := m) (cs := cs) (fun t ps q => (shapeOf_ok n t ps q).1) (fun t ps cs x q1 q2 => str_weight n t ps m cs x q1 q2) fs.toList 0 ps hp (by omega) fun f hf => by
            obtain ⟨i, hi1, hi2⟩ := List.getElem_of_mem hf
            have hi3 : fs[i]? = some f := by rw [← Array.getElem?_toList, List.getElem?_eq_getElem hi1, hi2]
            have h4 := hi i f hi3
            have hlt : i < xs.length := by rw [hx]; simpa using hi1
            rw [List.getElem?_eq_getElem hlt] at h4
            refine ⟨_, h4, fun m hm => ?_⟩
            have e1 : x.1 = .agg (xs.map (·.1)) := by rw [hxe]
            show m ∈ x.1.weights P t
            rw [e1, DataW.weights, hu]
            refine DataW.weights_mem_each (j := i) (t := f.type) ?_ ?_ m hm
            · rw [List.getElem?_map, List.getElem?_eq_getElem hi1, hi2]; rfl
            · rw [List.getElem?_map, List.getElem?_eq_getElem hlt]; rfl
          simpa using this
        · cases h
      · cases h
    · rename_i m e hu
      split at h
      · rename_i ps' hp
        split at h
        · rename_i hc
          cases h
          obtain ⟨xs, k, hk, hxe, hl, hx, hi⟩ := DataW.trod_array hu hd
          have he := (shapeOf_ok n e ps' hp).1
          have := str_times (P := P) (G := fun k => k ∈ x.1.weights P t) (e := e) (enc := enc) (w := w) (base := base) (sp := sp) (held := held) (n := k) (cs := cs) (fun cs x q => str_weight n e ps' k cs x hp q) m 0 (by rw [hl, hc, he, Nat.zero_add]) fun i _ hlt => by
            have h4 := hi i (by omega)
            have hlt2 : i < xs.length := by omega
            rw [List.getElem?_eq_getElem hlt2] at h4
            refine ⟨_, h4, fun m hm => ?_⟩
            have e1 : x.1 = .agg (xs.map (·.1)) := by rw [hxe]
            show m ∈ x.1.weights P t
            rw [e1, DataW.weights, hu]
            exact mem_all hm _ (List.mem_map.2 ⟨_, List.getElem_mem hlt2, rfl⟩)
          simpa using this
        · cases h
      · cases h
    · cases h
theorem open_rowsW {H : Type} {n0 j0 : Nat} {ts : List TypeId} {ds : List (DataW H)} {enc : TypeId × Value → H} {P : Program} {w : World} {b0 : Nat} {r : Reach} {sp : Nat → Bool} {held : Bool} {base : Nat} {t e : TypeId} {ps : List Prim} {v : Value} {d : DataW H} {q : List MemPlace}
    (ht : P.underlying t = some (.slice e)) (hsh : shapeOf P n0 e = some ps) (hval : Value.okWide P w r b0 t v) (h : DataW.Trod enc P w base sp held t v d q) (hsz : (DataW.weightsEach P ts ds).all (· ≤ reachBytes) = true) (hj1 : ts[j0]? = some t) (hj2 : ds[j0]? = some d) :
    ∃ rows : List (List Value), (∀ r ∈ rows, Oks ps r ∧ ∀ s, Value.string s ∈ r → s.data.toList.length ≤ reachBytes) ∧ RowC w v rows.length ps.length rows.flatten := by
  have he := shapeOf_ok n0 e ps hsh
  obtain ⟨a, len, cap, rfl⟩ := WideShapes.okWide_slice ht hval
  obtain ⟨fuel, hf⟩ := h
  rcases DataW.trod_slice ht hf with ⟨hcs, _⟩ | ⟨x, len', cap', elems, rest, n, _, hcs, hde, hb, hl, hm, hlen, hel, _⟩
  · simp [Value.cells] at hcs
    obtain ⟨rfl, rfl, rfl⟩ := hcs
    exact ⟨[], by simp, .inl ⟨rfl, rfl, rfl⟩⟩
  · simp [Value.cells] at hcs
    obtain ⟨rfl, rfl, rfl⟩ := hcs
    have hs := okWide_spot ht hval
    have key : ∀ k, k ≤ len → ∃ rows : List (List Value), rows.length = k ∧ (∀ r ∈ rows, Oks ps r) ∧ (∀ r ∈ rows, ∀ s, Value.string s ∈ r → s.data.toList.length ≤ reachBytes) ∧ ∀ i v, rows.flatten[i]? = some v → w.cell? (x.add i) = some v := by
      intro k
      induction k with
      | zero => intro _; exact ⟨[], rfl, by simp, by simp, by simp⟩
      | succ k ih =>
        intro hk
        obtain ⟨rows, r1, r2, rw, r3⟩ := ih (by omega)
        have h1 := hel k (by omega)
        have hlt : k < elems.length := by omega
        rw [List.getElem?_eq_getElem hlt, Option.bind_eq_some_iff] at h1
        obtain ⟨cs, h2, h3⟩ := h1
        have h4 := he.2 enc w base sp held n cs _ h3
        obtain ⟨_, h5, h6⟩ := World.cells?_some h2
        have fl : rows.flatten.length = k * ps.length := by rw [flat_len r2, r1]
        have hwt := str_weight n0 e ps n cs _ hsh h3
        refine ⟨rows ++ [cs], by simp [r1], fun r hr => ?_, fun r hr s hs => ?_, fun i v hv => ?_⟩
        · rcases List.mem_append.1 hr with q | q
          · exact r2 r q
          · rw [List.mem_singleton] at q; subst q; exact h4
        · rcases List.mem_append.1 hr with q | q
          · exact rw r q s hs
          · rw [List.mem_singleton] at q; subst q
            have m1 := hwt s hs
            have hd : d = .slice (elems.map (·.1)) (rest.map (·.1)) := congrArg Prod.fst hde
            have m2 : s.data.toList.length ∈ d.weights P t := by
              rw [hd, DataW.weights, ht]
              refine List.mem_cons_of_mem _ (List.mem_append_left _ (mem_all m1 _ ?_))
              exact List.mem_map.2 ⟨_, List.getElem_mem hlt, rfl⟩
            have := List.all_eq_true.1 hsz _ (DataW.weights_mem_each hj1 hj2 _ m2)
            simpa using this
        · rw [List.flatten_append] at hv
          simp only [List.flatten_cons, List.flatten_nil, List.append_nil] at hv
          by_cases hi : i < rows.flatten.length
          · rw [List.getElem?_append_left hi] at hv; exact r3 i v hv
          · rw [List.getElem?_append_right (by omega)] at hv
            have hlt2 : i - rows.flatten.length < cs.length := (List.getElem?_eq_some_iff.1 hv).1
            have h7 := h6 (i - rows.flatten.length) (by omega)
            rw [hv, add_add hs, he.1, fl] at h7
            rw [show k * ps.length + (i - k * ps.length) = i by rw [fl] at hi; omega] at h7
            exact h7
    obtain ⟨rows, r1, r2, rw, r3⟩ := key len (Nat.le_refl _)
    refine ⟨rows, fun r hr => ⟨r2 r hr, rw r hr⟩, .inr ⟨x, cap, by rw [r1], hs, by omega, hm, ?_, ?_, r3⟩⟩
    · exact flat_len r2
    · intro v hv
      obtain ⟨r, hr, hv⟩ := List.mem_flatten.1 hv
      exact (r2 r hr).plain v hv
end Go.AS
