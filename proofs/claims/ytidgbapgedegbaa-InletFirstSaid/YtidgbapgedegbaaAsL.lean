import Derived.Test.YtidgbapgedegbaaAsK
import Derived.ChangeKeysEq
import Derived.Laws.StructEq
namespace Go.AS
open Go
set_option linter.unusedSimpArgs false
set_option linter.unusedVariables false

section
variable {C : Comp} {ρ : Ren} {A : AHeap} {w : World} {P : Program} {e : Env} {cev : Operand → Value}

theorem mapM_some {α β : Type} {f : α → Option β} {l : List α} : ∀ {l' : List β}, l.mapM f = some l' → l'.length = l.length ∧ ∀ (i : Nat) (x : α) (y : β), l[i]? = some x → l'[i]? = some y → f x = some y := by
  induction l with
  | nil => intro l' h; cases h; exact ⟨rfl, fun i x y hx => by simp at hx⟩
  | cons x l ih =>
    intro l' h
    simp only [List.mapM_cons, Option.bind_eq_bind, Option.pure_def] at h
    cases hf : f x with
    | none => rw [hf] at h; cases h
    | some y =>
      rw [hf] at h
      simp only [Option.bind_some] at h
      cases hl : l.mapM f with
      | none => rw [hl] at h; cases h
      | some ys =>
        rw [hl] at h; cases h
        obtain ⟨h1, h2⟩ := ih hl
        refine ⟨by simp [h1], fun i a b ha hb => ?_⟩
        cases i with
        | zero => simp at ha hb; subst ha; subst hb; exact hf
        | succ i => simp at ha hb; exact h2 i a b ha hb

theorem map_arr {α β : Type} (l : Array α) (g : α → β) : (⟨l.toList.map g⟩ : Array β) = l.map g := by
  apply Array.ext'
  simp

theorem run_mapM {α β : Type} {f : α → Sem β} {g : α → β} (l : List α) (h : ∀ x ∈ l, (f x).run P w = .ok (g x) w) : (l.mapM f).run P w = .ok (l.map g) w := by
  induction l with
  | nil => rfl
  | cons x l ih => simp only [List.mapM_cons, run_bind, h x (by simp), run_pure, ih (fun y hy => h y (by simp [hy])), List.map_cons]

theorem run_mapMA {α β : Type} {f : α → Sem β} {g : α → β} (l : Array α) (h : ∀ x ∈ l, (f x).run P w = .ok (g x) w) : (l.mapM f).run P w = .ok (l.map g) w := by
  have h1 := run_mapM (P := P) (w := w) (f := f) (g := g) l.toList (fun x hx => h x (Array.mem_toList_iff.1 hx))
  have h2 : l.mapM f = (do let r ← l.toList.mapM f; pure r.toArray) := by
    rw [Array.mapM_eq_mapM_toList]
    rfl
  rw [h2, run_bind, h1]
  rw [← map_arr l g]; rfl

theorem partsOf_spec {t : TypeId} {ps : List (Nat × Operand)} {qs : List (Nat × Nat × Operand)} {z z' out : List Value} (hp : partsOf P t ps = some qs)
    (hev : ∀ p ∈ ps, VR ρ (ev e p.2) (cev p.2)) (hz : VRs ρ z z') (hf : fillP z (qs.map fun q => (q.1, q.2.1, ev e q.2.2)) = some out) (v0 : Value) (hv0 : (zeroValue t).run P w = .ok v0 w) (hcl : cl v0 = z') :
    ∃ v', (Instr.build t (ps.map fun p => (p.1, cev p.2)).toArray).run P w = .ok v' w ∧ VR ρ (.agg ⟨out⟩) v' := by
  unfold partsOf at hp
  have hcells : v0.cells = ⟨z'⟩ := by rw [cells_cl, hcl]
  split at hp
  · rename_i fields hu
    split at hp
    · rename_i hall
      have hmap : (fields.mapM fun f => do pure (f.offset, ← sizeOf f.type) : Sem (Array (Nat × Nat))).run P w = .ok (fields.map fun f => (f.offset, (szOf P f.type).getD 0)) w := by
        refine run_mapMA fields fun f hfm => ?_
        rw [List.all_eq_true] at hall
        have := hall f (Array.mem_toList_iff.2 hfm)
        obtain ⟨s, hs⟩ := Option.isSome_iff_exists.1 this
        simp only [run_bind, run_sizeOf hs, run_pure, hs, Option.getD_some]
      obtain ⟨hlen, hget⟩ := mapM_some hp
      obtain ⟨out', h1, h2⟩ := fill_sound (ρ := ρ) (e := e) (cev := cev) (fun i => (fields.map fun f => (f.offset, (szOf P f.type).getD 0))[i]?) ps qs hlen.symm
        (fun i p q hp hq => by
          have := hget i p q hp hq
          simp only [Option.bind_eq_bind] at this
          cases hfi : fields[p.1]? with
          | none => rw [hfi] at this; cases this
          | some f =>
            rw [hfi] at this
            simp only [Option.bind_some] at this
            cases hs : szOf P f.type with
            | none => rw [hs] at this; cases this
            | some s =>
              rw [hs] at this; cases this
              simp [hfi, hs]) hev z z' out hz hf
      refine ⟨.agg out', ?_, by have := VR.agg _ _ h2; simpa using this⟩
      simp only [Instr.build, run_bind, hv0, hcells, run_underlying hu, hmap, h1, run_pure]
    · cases hp
  · rename_i n elem hu
    cases hs : szOf P elem with
    | none => rw [hs] at hp; cases hp
    | some s =>
      rw [hs] at hp
      simp only [Option.bind_eq_bind, Option.bind_some, Option.some.injEq] at hp
      subst hp
      obtain ⟨out', h1, h2⟩ := fill_sound (ρ := ρ) (e := e) (cev := cev) (fun i => some (i * s, s)) ps (ps.map fun p => (p.1 * s, s, p.2)) (by simp)
        (fun i p q hp hq => by rw [List.getElem?_map, hp] at hq; cases hq; exact ⟨rfl, rfl⟩) hev z z' out hz hf
      refine ⟨.agg out', ?_, by have := VR.agg _ _ h2; simpa using this⟩
      simp only [Instr.build, run_bind, hv0, hcells, run_underlying hu, run_sizeOf hs]
      simp only [h1, run_pure]
  · cases hp

/-! ### Structs and arrays compared -/
theorem leafEq_mono {k : LeafK} {a b : Option Value} {r : Bool} (h : leafEq k a b = some r) {a' b' : Option Value} (ha : ∀ v, a = some v → ∃ v', a' = some v' ∧ VR ρ v v') (hb : ∀ v, b = some v → ∃ v', b' = some v' ∧ VR ρ v v') : leafEq k a' b' = some r := by
  unfold leafEq at h
  split at h
  · obtain ⟨x, h1, h2⟩ := ha _ rfl; obtain ⟨y, h3, h4⟩ := hb _ rfl
    rw [h1, h3, h2.bool_inv, h4.bool_inv]; exact h
  · obtain ⟨x, h1, h2⟩ := ha _ rfl; obtain ⟨y, h3, h4⟩ := hb _ rfl
    rw [h1, h3, h2.int_inv, h4.int_inv]; exact h
  · obtain ⟨x, h1, h2⟩ := ha _ rfl; obtain ⟨y, h3, h4⟩ := hb _ rfl
    rw [h1, h3, h2.string_inv, h4.string_inv]; exact h
  · cases h

theorem eqL_mono {L : List (Nat × LeafK)} {xs ys xs' ys' : List Value} (hx : VRs ρ xs xs') (hy : VRs ρ ys ys') : ∀ {b : Bool}, eqL L xs ys = some b → eqL L xs' ys' = some b := by
  induction L with
  | nil => intro b h; exact h
  | cons p L ih =>
    intro b h
    obtain ⟨o, k⟩ := p
    simp only [eqL] at h ⊢
    cases h1 : leafEq k xs[o]? ys[o]? with
    | none => rw [h1] at h; cases h
    | some r1 =>
      cases h2 : eqL L xs ys with
      | none => rw [h1, h2] at h; cases h
      | some r2 =>
        rw [h1, h2] at h
        rw [leafEq_mono h1 (fun v hv => hx.get hv) (fun v hv => hy.get hv), ih h2]
        exact h

theorem eqL_append {L M : List (Nat × LeafK)} {xs ys : List Value} : ∀ {b : Bool}, eqL (L ++ M) xs ys = some b → ∃ b1 b2, eqL L xs ys = some b1 ∧ eqL M xs ys = some b2 ∧ b = (b1 && b2) := by
  induction L with
  | nil => intro b h; exact ⟨true, b, rfl, h, by simp⟩
  | cons p L ih =>
    intro b h
    obtain ⟨o, k⟩ := p
    simp only [List.cons_append, eqL] at h ⊢
    cases h1 : leafEq k xs[o]? ys[o]? with
    | none => rw [h1] at h; cases h
    | some r1 =>
      cases h2 : eqL (L ++ M) xs ys with
      | none => rw [h1, h2] at h; cases h
      | some r2 =>
        rw [h1, h2] at h; cases h
        obtain ⟨b1, b2, e1, e2, e3⟩ := ih h2
        exact ⟨r1 && b1, b2, by rw [e1], e2, by rw [e3, Bool.and_assoc]⟩

theorem eqL_shift {L : List (Nat × LeafK)} {xs ys : List Value} {off s : Nat} (hL : L.all (fun p => decide (p.1 < s)) = true) : ∀ {b : Bool}, eqL (L.map fun p => (off + p.1, p.2)) xs ys = some b → eqL L ((xs.drop off).take s) ((ys.drop off).take s) = some b := by
  induction L with
  | nil => intro b h; exact h
  | cons p L ih =>
    intro b h
    obtain ⟨o, k⟩ := p
    simp only [List.all_cons, Bool.and_eq_true, decide_eq_true_eq] at hL
    simp only [List.map_cons, eqL] at h ⊢
    have e1 : ∀ zs : List Value, ((zs.drop off).take s)[o]? = zs[off + o]? := by
      intro zs
      rw [List.getElem?_take_of_lt hL.1, List.getElem?_drop]
    rw [e1, e1]
    cases h1 : leafEq k xs[off + o]? ys[off + o]? with
    | none => rw [h1] at h; cases h
    | some r1 =>
      cases h2 : eqL (L.map fun p => (off + p.1, p.2)) xs ys with
      | none => rw [h1, h2] at h; cases h
      | some r2 =>
        rw [h1, h2] at h
        rw [ih hL.2 h2]
        exact h

/-- A value of a type as cells. -/
def AsCells (P : Program) (t : TypeId) (x : Value) (xs : List Value) : Prop :=
  (aggOf P t = some true ∧ x = .agg ⟨xs⟩) ∨ (aggOf P t = some false ∧ xs[0]? = some x)

theorem part_cells {t : TypeId} {xs : List Value} {off s : Nat} (hs : szOf P t = some s) (hs0 : 0 < s) (hle : off < xs.length) (ha : (aggOf P t).isSome = true) :
    ∃ x, (part t ⟨xs⟩ off).run P w = .ok x w ∧ AsCells P t x ((xs.drop off).take s) := by
  obtain ⟨g, hg⟩ := Option.isSome_iff_exists.1 ha
  cases g with
  | true =>
    refine ⟨.agg ⟨(xs.drop off).take s⟩, ?_, .inl ⟨hg, rfl⟩⟩
    simp only [part, run_bind, run_isAgg hg, run_sizeOf hs, run_pure, if_true]
    congr 2
    apply Array.ext'
    simp [List.extract_eq_take_drop]
  | false =>
    refine ⟨xs[off], ?_, .inr ⟨hg, ?_⟩⟩
    · simp only [part, run_bind, run_isAgg hg, Bool.false_eq_true, if_false, List.getElem?_toArray, List.getElem?_eq_getElem hle]; rfl
    · rw [List.getElem?_take_of_lt hs0, List.getElem?_drop, Nat.add_zero, List.getElem?_eq_getElem hle]

theorem leaf_lt {L : List (Nat × LeafK)} {xs ys : List Value} {b : Bool} (h : eqL L xs ys = some b) {o : Nat} {k : LeafK} (hm : (o, k) ∈ L) : o < xs.length ∧ o < ys.length := by
  induction L generalizing b with
  | nil => cases hm
  | cons p L ih =>
    obtain ⟨o2, k2⟩ := p
    simp only [eqL] at h
    cases h1 : leafEq k2 xs[o2]? ys[o2]? with
    | none => rw [h1] at h; cases h
    | some r1 =>
      cases h2 : eqL L xs ys with
      | none => rw [h1, h2] at h; cases h
      | some r2 =>
        cases hm with
        | head =>
          unfold leafEq at h1
          have key : ∀ (zs : List Value) v, zs[o]? = some v → o < zs.length := fun zs v hv => by
            rcases Nat.lt_or_ge o zs.length with q | q
            · exact q
            · rw [List.getElem?_eq_none q] at hv; cases hv
          split at h1
          · exact ⟨key _ _ ‹_›, key _ _ ‹_›⟩
          · exact ⟨key _ _ ‹_›, key _ _ ‹_›⟩
          · exact ⟨key _ _ ‹_›, key _ _ ‹_›⟩
          · cases h1
        | tail _ hm => exact ih h2 hm

theorem fieldsOf_eq {t : TypeId} {fs : Array Field} (h : P.underlying t = some (.struct fs)) : P.fieldsOf t = fs := by
  unfold Program.fieldsOf; rw [h]

theorem cellsOf_eq {t : TypeId} {s : Nat} (h : szOf P t = some s) : P.cellsOf t = s := by
  unfold szOf at h
  unfold Program.cellsOf
  cases hi : P.info? t with
  | none => rw [hi] at h; cases h
  | some i => rw [hi] at h; cases h; rfl

theorem aggOf_some {t : TypeId} {d : TypeDesc} (h : P.underlying t = some d) : (aggOf P t).isSome = true := by
  unfold aggOf; rw [h]; rfl

theorem flat_agg {d : Nat} {t : TypeId} {L : List (Nat × LeafK)} (h : flat P d t = some L) : (aggOf P t).isSome = true := by
  cases d with
  | zero => cases h
  | succ d =>
    simp only [flat] at h
    split at h
    all_goals first
      | exact aggOf_some ‹_›
      | cases h

theorem leafEq_b {x y : Value} {b : Bool} (h : leafEq .b (some x) (some y) = some b) : ∃ a c, x = .bool a ∧ y = .bool c ∧ b = (a == c) := by
  cases x <;> cases y <;> simp only [leafEq, reduceCtorEq] at h
  cases h; exact ⟨_, _, rfl, rfl, rfl⟩
theorem leafEq_i {x y : Value} {b : Bool} (h : leafEq .i (some x) (some y) = some b) : ∃ k a c, x = .int k a ∧ y = .int k c ∧ b = (a == c) := by
  cases x <;> cases y <;> simp only [leafEq, reduceCtorEq] at h
  split at h
  · rename_i hk; subst hk; cases h; exact ⟨_, _, _, rfl, rfl, rfl⟩
  · cases h
theorem leafEq_s {x y : Value} {b : Bool} (h : leafEq .s (some x) (some y) = some b) : ∃ a c, x = .string a ∧ y = .string c ∧ b = (a.data.toList == c.data.toList) := by
  cases x <;> cases y <;> simp only [leafEq, reduceCtorEq] at h
  cases h; exact ⟨_, _, rfl, rfl, rfl⟩

theorem flat_equal (d : Nat) : ∀ (D : Nat) (t : TypeId) (L : List (Nat × LeafK)) (xs ys : List Value) (x y : Value) (b : Bool), flat P d t = some L → eqL L xs ys = some b → AsCells P t x xs → AsCells P t y ys →
    (Op.equalIn (D + d) t x y).run P w = .ok b w := by
  induction d with
  | zero => intro D t L xs ys x y b h; cases h
  | succ d ih =>
    intro D t L xs ys x y b h he hx hy
    have part_eq : ∀ (e : TypeId) (l : List (Nat × LeafK)) (s off : Nat) (b : Bool), flat P d e = some l → szOf P e = some s → (l.all (fun p => decide (p.1 < s)) && !l.isEmpty) = true → eqL (l.map fun p => (off + p.1, p.2)) xs ys = some b →
        ∃ u v, (part e ⟨xs⟩ off).run P w = .ok u w ∧ (part e ⟨ys⟩ off).run P w = .ok v w ∧ (Op.equalIn (D + d) e u v).run P w = .ok b w := by
      intro e l s off b hl hs hall heq
      simp only [Bool.and_eq_true, Bool.not_eq_true'] at hall
      obtain ⟨hall, hne⟩ := hall
      cases l with
      | nil => cases hne
      | cons p l =>
        have hlt := leaf_lt heq (o := off + p.1) (k := p.2) (by simp)
        have hs0 : 0 < s := by
          have := List.all_eq_true.1 hall p (by simp)
          simp only [decide_eq_true_eq] at this; omega
        obtain ⟨u, u1, u2⟩ := part_cells (P := P) (w := w) (off := off) hs hs0 (show off < xs.length by omega) (flat_agg hl)
        obtain ⟨v, v1, v2⟩ := part_cells (P := P) (w := w) (off := off) hs hs0 (show off < ys.length by omega) (flat_agg hl)
        exact ⟨u, v, u1, v1, ih D e _ _ _ u v b hl (eqL_shift hall heq) u2 v2⟩
    have leaf : ∀ k, aggOf P t = some false → L = [(0, k)] → x = x ∧ leafEq k (some x) (some y) = some b := by
      intro k ha hL
      subst hL
      have hx0 : xs[0]? = some x := by rcases hx with ⟨h1, _⟩ | ⟨_, h2⟩; rw [ha] at h1; cases h1; exact h2
      have hy0 : ys[0]? = some y := by rcases hy with ⟨h1, _⟩ | ⟨_, h2⟩; rw [ha] at h1; cases h1; exact h2
      simp only [eqL, hx0, hy0] at he
      cases h1 : leafEq k (some x) (some y) with
      | none => rw [h1] at he; cases he
      | some r => rw [h1] at he; simp at he; subst he; exact ⟨rfl, rfl⟩
    simp only [flat] at h
    split at h
    · rename_i hu
      have ha : aggOf P t = some false := by unfold aggOf; rw [hu]; rfl
      obtain ⟨_, hl⟩ := leaf .b ha (by cases h; rfl)
      obtain ⟨a', b', e1, e2, e3⟩ := leafEq_b hl
      subst e1; subst e2; subst e3
      show (Op.equalIn ((D + d) + 1) t _ _).run P w = _
      simp only [Op.equalIn, run_bind, run_underlying hu]; rfl
    · rename_i kk hu
      have ha : aggOf P t = some false := by unfold aggOf; rw [hu]; rfl
      obtain ⟨_, hl⟩ := leaf .i ha (by cases h; rfl)
      obtain ⟨k1, a', b', e1, e2, e3⟩ := leafEq_i hl
      subst e1; subst e2; subst e3
      show (Op.equalIn ((D + d) + 1) t _ _).run P w = _
      simp only [Op.equalIn, run_bind, run_underlying hu, if_true]; rfl
    · rename_i hu
      have ha : aggOf P t = some false := by unfold aggOf; rw [hu]; rfl
      obtain ⟨_, hl⟩ := leaf .s ha (by cases h; rfl)
      obtain ⟨a', b', e1, e2, e3⟩ := leafEq_s hl
      subst e1; subst e2; subst e3
      show (Op.equalIn ((D + d) + 1) t _ _).run P w = _
      rw [run_equalIn_string (P := P) w (D + d) t a' b' hu, ByteArray.toList_eq, ByteArray.toList_eq]
    · rename_i fs hu
      have ha : aggOf P t = some true := by unfold aggOf; rw [hu]; rfl
      have hxx : x = .agg ⟨xs⟩ := by rcases hx with ⟨_, h2⟩ | ⟨h1, _⟩; exact h2; rw [ha] at h1; cases h1
      have hyy : y = .agg ⟨ys⟩ := by rcases hy with ⟨_, h2⟩ | ⟨h1, _⟩; exact h2; rw [ha] at h1; cases h1
      subst hxx; subst hyy
      split at h
      · cases h
      · rename_i hst
        have hst' : P.stoodInHeld t = false := by simpa using hst
        show (Op.equalIn ((D + d) + 1) t _ _).run P w = _
        rw [run_equalIn_struct (P := P) w (D + d) t ⟨xs⟩ ⟨ys⟩ (by rw [fieldsOf_eq hu]; exact hu) hst', fieldsOf_eq hu]
        generalize fs.toList = l at h
        clear hx hy leaf ha
        cases hm : l.mapM (fieldLeaves P (flat P d)) with
        | none => rw [hm] at h; cases h
        | some Ls =>
          rw [hm] at h; cases h
          clear hst hst' hu
          induction l generalizing Ls b with
          | nil => cases hm; cases he; rfl
          | cons f l ihl =>
            simp only [List.mapM_cons, Option.bind_eq_bind, Option.pure_def] at hm
            cases h1 : fieldLeaves P (flat P d) f with
            | none => rw [h1] at hm; cases hm
            | some L1 =>
              rw [h1] at hm; simp only [Option.bind_some] at hm
              cases h2 : l.mapM (fieldLeaves P (flat P d)) with
              | none => rw [h2] at hm; cases hm
              | some L2 =>
                rw [h2] at hm; cases hm
                simp only [List.flatten_cons] at he
                obtain ⟨b1, b2, e1, e2, e3⟩ := eqL_append he
                have hrest := ihl b2 L2 h2 e2
                simp only [Op.eqFields]
                unfold fieldLeaves at h1
                by_cases hn : f.name = "_"
                · rw [if_pos hn] at h1; cases h1
                  rw [if_neg (by simpa using hn)]
                  cases e1
                  rw [e3]; simpa using hrest
                · rw [if_neg hn] at h1
                  rw [if_pos hn]
                  cases hfl : flat P d f.type with
                  | none => rw [hfl] at h1; cases h1
                  | some l' =>
                    cases hs : szOf P f.type with
                    | none => rw [hfl, hs] at h1; cases h1
                    | some s =>
                      rw [hfl, hs] at h1
                      simp only at h1
                      split at h1
                      · rename_i hall
                        cases h1
                        obtain ⟨u, v, p1, p2, p3⟩ := part_eq f.type l' s f.offset b1 hfl hs hall e1
                        simp only [run_bind, p1, p2, p3]
                        cases b1 with
                        | false => rw [e3]; rfl
                        | true => rw [e3]; simpa using hrest
                      · cases h1
    · rename_i n e hu
      have ha : aggOf P t = some true := by unfold aggOf; rw [hu]; rfl
      have hxx : x = .agg ⟨xs⟩ := by rcases hx with ⟨_, h2⟩ | ⟨h1, _⟩; exact h2; rw [ha] at h1; cases h1
      have hyy : y = .agg ⟨ys⟩ := by rcases hy with ⟨_, h2⟩ | ⟨h1, _⟩; exact h2; rw [ha] at h1; cases h1
      subst hxx; subst hyy
      cases hfl : flat P d e with
      | none => rw [hfl] at h; cases h
      | some l' =>
        cases hs : szOf P e with
        | none => rw [hfl, hs] at h; cases h
        | some s =>
          rw [hfl, hs] at h
          simp only at h
          split at h
          · rename_i hall
            cases h
            show (Op.equalIn ((D + d) + 1) t _ _).run P w = _
            have hi : ∃ i, P.info? e = some i := by
              unfold szOf at hs
              cases hi : P.info? e with
              | none => rw [hi] at hs; cases hs
              | some i => exact ⟨i, rfl⟩
            obtain ⟨i, hi⟩ := hi
            rw [run_equalIn_array (P := P) w (D + d) ⟨xs⟩ ⟨ys⟩ hu hi, cellsOf_eq hs]
            generalize List.range n = is at he
            clear hx hy leaf ha
            induction is generalizing b with
            | nil => simp only [List.flatMap_nil, eqL] at he; cases he; rfl
            | cons j is ihl =>
              simp only [List.flatMap_cons] at he
              obtain ⟨b1, b2, e1, e2, e3⟩ := eqL_append he
              have hrest := ihl b2 e2
              obtain ⟨u, v, p1, p2, p3⟩ := part_eq e l' s (j * s) b1 hfl hs hall e1
              simp only [Op.eqItems, run_bind, p1, p2, p3]
              cases b1 with
              | false => rw [e3]; rfl
              | true => rw [e3]; simpa using hrest
          · cases h
    · cases h

end
end Go.AS
