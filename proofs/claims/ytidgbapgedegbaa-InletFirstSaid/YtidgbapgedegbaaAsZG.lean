import Derived.Test.YtidgbapgedegbaaAsZF
import Derived.Below
import Derived.ChangeArms
import Derived.DataReads
import Derived.WideShapes
namespace Go.AS
open Go Go.RowKit
set_option linter.unusedSimpArgs false
set_option linter.unusedVariables false

/-! ## Arguments: from the machine's to ours -/

/-- What an element's cell may be. -/
inductive Prim where
  | int (k : IntKind)
  | str
  | bool

def Prim.ok : Prim → Value → Prop
  | .int k, v => ∃ n, v = .int k n ∧ (Lit.int k n).wf = true
  | .str, v => ∃ s, v = .string s ∧ s.size ≤ maxLen
  | .bool, v => ∃ b, v = .bool b

def Oks : List Prim → List Value → Prop
  | [], [] => True
  | p :: ps, v :: vs => p.ok v ∧ Oks ps vs
  | _, _ => False

theorem Oks.length : ∀ {ps : List Prim} {vs : List Value}, Oks ps vs → vs.length = ps.length
  | [], [], _ => rfl
  | _ :: _, _ :: _, h => by simp [Oks.length h.2]
  | [], _ :: _, h => h.elim
  | _ :: _, [], h => h.elim

theorem oks_of : ∀ {ps : List Prim} {vs : List Value}, vs.length = ps.length → (∀ (i : Nat) p v, ps[i]? = some p → vs[i]? = some v → p.ok v) → Oks ps vs
  | [], [], _, _ => trivial
  | p :: ps, v :: vs, h, k => ⟨k 0 p v rfl rfl, oks_of (by simpa using h) fun i p v a b => k (i + 1) p v (by simpa using a) (by simpa using b)⟩
  | [], _ :: _, h, _ => by simp at h
  | _ :: _, [], h, _ => by simp at h

inductive Plain : Value → Prop
  | bool (b : Bool) : Plain (.bool b)
  | int (k : IntKind) (n : Int) : Plain (.int k n)
  | string (s : ByteArray) : Plain (.string s)

theorem Plain.vr {ρ : Ren} {v : Value} (h : Plain v) : VR ρ v v := by
  cases h
  · exact .bool _
  · exact .int _ _
  · exact .string _

theorem Plain.vrs {ρ : Ren} : ∀ {l : List Value}, (∀ v ∈ l, Plain v) → VRs ρ l l
  | [], _ => .nil
  | v :: l, h => .cons _ _ _ _ (h v (by simp)).vr (Plain.vrs fun x hx => h x (by simp [hx]))

theorem Prim.plain {p : Prim} {v : Value} (h : p.ok v) : Plain v := by
  cases p with
  | int k => obtain ⟨n, rfl, _⟩ := h; exact .int k n
  | str => obtain ⟨s, rfl, _⟩ := h; exact .string s
  | bool => obtain ⟨b, rfl⟩ := h; exact .bool b

theorem Oks.plain : ∀ {ps : List Prim} {vs : List Value}, Oks ps vs → ∀ v ∈ vs, Plain v
  | [], [], _, v, hv => by simp at hv
  | p :: ps, w :: vs, h, v, hv => by
    rcases List.mem_cons.1 hv with q | q
    · subst q; exact Prim.plain h.1
    · exact Oks.plain h.2 v q
  | [], _ :: _, h, _, _ => h.elim
  | _ :: _, [], h, _, _ => h.elim

/-- The cells of an element that the row's reading bears. -/
def ElemOk (P : Program) (e : TypeId) (ps : List Prim) : Prop := P.cellsOf e = ps.length ∧
  ∀ {H : Type} (enc : TypeId × Value → H) (w : World) (base : Nat) (sp : Nat → Bool) (held : Bool) (fuel : Nat) (cs : List Value) (x : DataW H × List MemPlace), DataW.trod enc P w base sp held fuel e cs = some x → Oks ps cs

theorem elemOk_string {P : Program} {e : TypeId} (he : P.underlying e = some .string) (hc : P.cellsOf e = 1) : ElemOk P e [.str] :=
  ⟨hc, fun enc w base sp held fuel cs x h => by obtain ⟨s, rfl, _, hs⟩ := DataW.trod_string he h; exact ⟨⟨s, rfl, hs⟩, trivial⟩⟩
theorem elemOk_int {P : Program} {e : TypeId} {k : IntKind} (he : P.underlying e = some (.int k)) (hc : P.cellsOf e = 1) : ElemOk P e [.int k] :=
  ⟨hc, fun enc w base sp held fuel cs x h => by obtain ⟨n, rfl, _, hs⟩ := DataW.trod_int he h; exact ⟨⟨n, rfl, hs⟩, trivial⟩⟩
theorem elemOk_bool {P : Program} {e : TypeId} (he : P.underlying e = some .bool) (hc : P.cellsOf e = 1) : ElemOk P e [.bool] :=
  ⟨hc, fun enc w base sp held fuel cs x h => by obtain ⟨b, rfl, _⟩ := DataW.trod_bool he h; exact ⟨⟨b, rfl⟩, trivial⟩⟩

/-- A struct of such fields, one cell each. -/
theorem elemOk_struct {P : Program} {e : TypeId} {fs : Array Field} {ps : List Prim} (he : P.underlying e = some (.struct fs)) (hc : P.cellsOf e = ps.length)
    (hf : ∀ (i : Nat) p, ps[i]? = some p → ∃ f, fs[i]? = some f ∧ f.offset = i ∧ ElemOk P f.type [p]) : ElemOk P e ps := by
  refine ⟨hc, fun enc w base sp held fuel cs x h => ?_⟩
  obtain ⟨xs, n, _, _, hl, hx, hi⟩ := DataW.trod_struct he h
  refine oks_of (by omega) fun i p v hp hv => ?_
  obtain ⟨f, h1, h2, h3⟩ := hf i p hp
  have hlt : i < xs.length := by rw [hx]; exact (Array.getElem?_eq_some_iff.1 h1).1
  have h4 := hi i f h1
  rw [List.getElem?_eq_getElem hlt] at h4
  have h5 := h3.2 enc w base sp held n _ _ h4
  rw [h2, h3.1] at h5
  have e1 : (cs.drop i).take [p].length = [v] := by
    obtain ⟨hlt2, hv2⟩ := List.getElem?_eq_some_iff.1 hv
    rw [List.drop_eq_getElem_cons hlt2, hv2]; rfl
  rw [e1] at h5
  exact h5.1

/-- A row's argument that is a slice: its cells. -/
def RowC (w : World) (vc : Value) (n sz : Nat) (cs : List Value) : Prop :=
  (vc = .slice none 0 0 ∧ n = 0 ∧ cs = []) ∨
  ∃ x cap, vc = .slice (some x) n cap ∧ x.spot = none ∧ n ≤ cap ∧ cap ≤ maxLen ∧ cs.length = n * sz ∧ (∀ v ∈ cs, Plain v) ∧ ∀ i v, cs[i]? = some v → w.cell? (x.add i) = some v

theorem okWide_spot {P : Program} {w : World} {r : Reach} {base : Nat} {t e : TypeId} {a : Addr} {len cap : Nat} (ht : P.underlying t = some (.slice e)) (h : Value.okWide P w r base t (.slice (some a) len cap)) : a.spot = none := by
  simp only [Value.okWide, ht, Cell.okWide, Cell.ok] at h
  exact h.2.2.2.1

theorem add_add {x : Addr} {i j : Nat} (h : x.spot = none) : (x.add i).add j = x.add (i + j) := by
  obtain ⟨b, o, s⟩ := x
  cases h
  unfold Addr.add
  by_cases hi : i = 0
  · subst hi; simp
  · by_cases hj : j = 0
    · subst hj; simp
    · rw [if_neg hi, if_neg hj, if_neg (by omega)]; simp; omega

theorem flat_len {ps : List Prim} : ∀ {rows : List (List Value)}, (∀ r ∈ rows, Oks ps r) → rows.flatten.length = rows.length * ps.length
  | [], _ => by simp
  | r :: rows, h => by
    have h1 := Oks.length (h r (by simp))
    have h2 := flat_len (rows := rows) fun x hx => h x (by simp [hx])
    rw [List.flatten_cons, List.length_append, h1, h2, List.length_cons, Nat.succ_mul]; omega

/-- A slice of such elements, opened: its elements' cells, row by row. -/
theorem open_rows {H : Type} {enc : TypeId × Value → H} {P : Program} {w : World} {b0 : Nat} {r : Reach} {sp : Nat → Bool} {held : Bool} {base : Nat} {t e : TypeId} {ps : List Prim} {v : Value} {d : DataW H} {q : List MemPlace}
    (ht : P.underlying t = some (.slice e)) (he : ElemOk P e ps) (hval : Value.okWide P w r b0 t v) (h : DataW.Trod enc P w base sp held t v d q) :
    ∃ rows : List (List Value), (∀ r ∈ rows, Oks ps r) ∧ RowC w v rows.length ps.length rows.flatten := by
  obtain ⟨a, len, cap, rfl⟩ := WideShapes.okWide_slice ht hval
  obtain ⟨fuel, hf⟩ := h
  rcases DataW.trod_slice ht hf with ⟨hcs, _⟩ | ⟨x, len', cap', elems, rest, n, _, hcs, _, hb, hl, hm, hlen, hel, _⟩
  · simp [Value.cells] at hcs
    obtain ⟨rfl, rfl, rfl⟩ := hcs
    exact ⟨[], by simp, .inl ⟨rfl, rfl, rfl⟩⟩
  · simp [Value.cells] at hcs
    obtain ⟨rfl, rfl, rfl⟩ := hcs
    have hs := okWide_spot ht hval
    have key : ∀ k, k ≤ len → ∃ rows : List (List Value), rows.length = k ∧ (∀ r ∈ rows, Oks ps r) ∧ ∀ i v, rows.flatten[i]? = some v → w.cell? (x.add i) = some v := by
      intro k
      induction k with
      | zero => intro _; exact ⟨[], rfl, by simp, by simp⟩
      | succ k ih =>
        intro hk
        obtain ⟨rows, r1, r2, r3⟩ := ih (by omega)
        have h1 := hel k (by omega)
        have hlt : k < elems.length := by omega
        rw [List.getElem?_eq_getElem hlt, Option.bind_eq_some_iff] at h1
        obtain ⟨cs, h2, h3⟩ := h1
        have h4 := he.2 enc w base sp held n cs _ h3
        obtain ⟨_, h5, h6⟩ := World.cells?_some h2
        have fl : rows.flatten.length = k * ps.length := by rw [flat_len r2, r1]
        refine ⟨rows ++ [cs], by simp [r1], fun r hr => ?_, fun i v hv => ?_⟩
        · rcases List.mem_append.1 hr with q | q
          · exact r2 r q
          · rw [List.mem_singleton] at q; subst q; exact h4
        · rw [List.flatten_append] at hv
          simp only [List.flatten_cons, List.flatten_nil, List.append_nil] at hv
          by_cases hi : i < rows.flatten.length
          · rw [List.getElem?_append_left hi] at hv; exact r3 i v hv
          · rw [List.getElem?_append_right (by omega)] at hv
            have hlt2 : i - rows.flatten.length < cs.length := (List.getElem?_eq_some_iff.1 hv).1
            have h7 := h6 (i - rows.flatten.length) (by omega)
            rw [hv, add_add hs, he.1, fl] at h7
            rw [show k * ps.length + (i - k * ps.length) = i by rw [fl] at hi; omega] at h7
            exact h7
    obtain ⟨rows, r1, r2, r3⟩ := key len (Nat.le_refl _)
    refine ⟨rows, r2, .inr ⟨x, cap, by rw [r1], hs, by omega, hm, ?_, ?_, r3⟩⟩
    · exact flat_len r2
    · intro v hv
      obtain ⟨r, hr, hv⟩ := List.mem_flatten.1 hv
      exact (r2 r hr).plain v hv

/-- Rows, read as what they stand for. -/
theorem rows_as {α : Type} {ps : List Prim} (g : α → List Value) (good : α → Prop) (dec : ∀ r, Oks ps r → ∃ x, r = g x ∧ good x) : ∀ (rows : List (List Value)), (∀ r ∈ rows, Oks ps r) → ∃ l : List α, l.length = rows.length ∧ rows.flatten = l.flatMap g ∧ ∀ x ∈ l, good x
  | [], _ => ⟨[], rfl, rfl, by simp⟩
  | r :: rows, h => by
    obtain ⟨x, hx, hg⟩ := dec r (h r (by simp))
    obtain ⟨l, h1, h2, h3⟩ := rows_as g good dec rows fun y hy => h y (by simp [hy])
    refine ⟨x :: l, by simp [h1], by simp [h2, hx], fun y hy => ?_⟩
    rcases List.mem_cons.1 hy with q | q
    · subst q; exact hg
    · exact h3 y q

/-! ## The call's own memory -/
structure Args (P : Program) (w : World) (ρ : Ren) (A : AHeap) (vs vcs : List Value) : Prop where
  rel : HRel (CompOf P) ρ A w.heap
  pas : ∀ b, passive (A.get b)
  free : ∀ b, A.size ≤ b → ρ b = none
  vrs : VRs ρ vs vcs

def A00 : AHeap := ⟨0, .leaf⟩

theorem Args.nil {P : Program} {w : World} : Args P w (fun _ => none) A00 [] [] where
  rel := ⟨fun b e x he => (by cases he), fun b b' e e' x x' _ he => (by cases he)⟩
  pas := fun b => by
    have : A00.get b = none := by unfold AHeap.get; rfl
    rw [this]; trivial
  free := fun _ _ => rfl
  vrs := .nil

theorem Args.plain {P : Program} {w : World} {ρ : Ren} {A : AHeap} {vs vcs : List Value} (h : Args P w ρ A vs vcs) {v : Value} (hv : Plain v) : Args P w ρ A (vs ++ [v]) (vcs ++ [v]) :=
  ⟨h.rel, h.pas, h.free, h.vrs.append (.cons _ _ _ _ hv.vr .nil)⟩

theorem Args.agg {P : Program} {w : World} {ρ : Ren} {A : AHeap} {vs vcs : List Value} (h : Args P w ρ A vs vcs) {l : List Value} (hv : ∀ v ∈ l, Plain v) : Args P w ρ A (vs ++ [.agg ⟨l⟩]) (vcs ++ [.agg ⟨l⟩]) :=
  ⟨h.rel, h.pas, h.free, h.vrs.append (.cons _ _ _ _ (.agg _ _ (Plain.vrs hv)) .nil)⟩

/-- An argument's own slice. -/
def ArgV (v : Value) (n : Nat) : Prop := (v = .slice none 0 0 ∧ n = 0) ∨ ∃ d c, v = .slice (some ⟨d, 0, none⟩) n c ∧ n ≤ c ∧ c < OPEN

theorem ArgV.front {A : AHeap} {sz n l : Nat} {v : Value} {cs : List Value} {k2 : IntKind} (h : ArgV v n) (hr : ReadAt A sz v n cs) (hl : l ≤ n) :
    ∃ v', sliceVA A sz v none (some (.int k2 (l : Int))) none = some v' ∧ ReadAt A sz v' l (cs.take (l * sz)) ∧ ∀ j, Own v' j → Own v j := by
  have hb : ∀ cap, l ≤ cap → bndsA n cap none (some (.int k2 (l : Int))) none = some (0, l, cap) := fun cap hc => by
    delta bndsA; simp [bnd_nat, hc]
  have hm : l * sz ≤ n * sz := Nat.mul_le_mul_right _ hl
  rcases h with ⟨h1, h2⟩ | ⟨d, c, h1, h2, h3⟩
  · subst h1; subst h2
    have : l = 0 := by omega
    subst this
    exact ⟨_, by simp only [sliceVA, hb 0 (Nat.le_refl _)], .inl ⟨rfl, rfl, by simp⟩, fun j hj => hj⟩
  · subst h1
    have c1 : c ≠ OPEN := by omega
    have c2 : c ≠ ENDCAP := fun q => by rw [q] at h3; exact absurd h3 (by decide)
    refine ⟨.slice (some ⟨d, 0, none⟩) l c, ?_, ?_, ?_⟩
    · simp only [sliceVA, if_neg c1, if_neg c2, if_neg (show ¬ OPEN ≤ c by omega), hb c (Nat.le_trans hl h2), Nat.sub_zero]
      simp
    · rcases hr with ⟨q, _⟩ | ⟨d', o, c', bs, ro, opn, q1, q2, q3, q4, q5⟩ | ⟨d', o, c', q1, q2, q3⟩
      · cases q
      · cases q1
        exact .inr (.inl ⟨d, 0, c, bs, ro, opn, rfl, q2, by omega, by rw [q4, List.take_take, Nat.min_eq_left hm], fun q => absurd q c2⟩)
      · have : l = 0 := by omega
        subst this
        exact .inr (.inr ⟨d, 0, c, rfl, rfl, by simp⟩)
    · rintro j ⟨o', n', c', q⟩; cases q; exact ⟨_, _, _, rfl⟩

theorem Args.rowV {P : Program} {w : World} {ρ : Ren} {A : AHeap} {vs vcs : List Value} (h : Args P w ρ A vs vcs) {vc : Value} {n sz : Nat} {cs : List Value} (hr : RowC w vc n sz cs) (hsz : 0 < sz) :
    ∃ ρ' A' v, Args P w ρ' A' (vs ++ [v]) (vcs ++ [vc]) ∧ Ext NoB A A' ∧ ReadAt A' sz v n cs ∧ (∀ j, Own v j → j < A'.size) ∧ ArgV v n := by
  rcases hr with ⟨h1, h2, h3⟩ | ⟨x, cap, h1, h2, h3, h4, h5, h6, h7⟩
  · subst h1; subst h2; subst h3
    exact ⟨ρ, A, .slice none 0 0, ⟨h.rel, h.pas, h.free, h.vrs.append (.cons _ _ _ _ .nils .nil)⟩, Ext.refl, .inl ⟨rfl, rfl, rfl⟩, (fun j ⟨_, _, _, q⟩ => by cases q), .inl ⟨rfl, rfl⟩⟩
  · obtain ⟨xb, xo, xs⟩ := x
    simp only at h2
    subst h2
    let blk : ABlk := if cs = [] then .dead else .cells cs true 0
    let ρ' : Ren := fun b => if b = A.size then some ⟨xb, xo, 0, 0⟩ else ρ b
    have hpas : passive (some blk) := by
      show passive (some (if cs = [] then ABlk.dead else ABlk.cells cs true 0))
      split
      · trivial
      · trivial
    have hle : Ren.le ρ ρ' := fun b e he => by
      show (if b = A.size then _ else _) = _
      rw [if_neg fun q => by rw [h.free b (by omega)] at he; cases he]; exact he
    have hpas' : ∀ b, passive ((A.alloc blk).get b) := fun b => by
      rw [AHeap.get_alloc]
      split
      · exact hpas
      · exact h.pas b
    have hcap : cap < OPEN := Nat.lt_of_le_of_lt h4 (by decide)
    refine ⟨ρ', A.alloc blk, .slice (some ⟨A.size, 0, none⟩) n cap, ⟨⟨?_, ?_⟩, hpas', ?_, (h.vrs.mono hle).append (.cons _ _ _ _ ?_ .nil)⟩, Ext.alloc, ?_, ?_, .inr ⟨A.size, cap, rfl, h3, hcap⟩⟩
    · intro b e y he hy
      rw [AHeap.get_alloc] at hy
      by_cases hb : b = A.size
      · rw [if_pos hb] at hy
        cases hy
        have he' : (if b = A.size then some (⟨xb, xo, 0, 0⟩ : REnt) else ρ b) = some e := he
        rw [if_pos hb] at he'
        cases he'
        show BRel (CompOf P) ρ' _ _ (if cs = [] then ABlk.dead else ABlk.cells cs true 0)
        split
        · trivial
        · rename_i hne
          have hpos : 0 < cs.length := List.length_pos_iff.2 hne
          have h0 := h7 0 cs[0] (List.getElem?_eq_getElem hpos)
          have e0 : (⟨xb, xo, none⟩ : Addr).add 0 = ⟨xb, xo, none⟩ := rfl
          rw [e0] at h0
          unfold World.cell? at h0
          split at h0
          case h_2 => cases h0
          rename_i cc el fz hcc
          have hcell : ∀ i v, cs[i]? = some v → cc[xo + i]? = some v := by
            intro i v hv
            have := h7 i v hv
            unfold World.cell? Addr.add at this
            by_cases hi : i = 0
            · subst hi
              simp only [if_true, hcc] at this
              simpa using this
            · simp only [if_neg hi, hcc] at this
              simpa using this
          refine ⟨cc, el, fz.1, fz.2, hcc, ?_, ?_, (fun q => by cases q), (fun q => absurd rfl q)⟩
          · have hlast := hcell (cs.length - 1) cs[cs.length - 1] (List.getElem?_eq_getElem (by omega))
            have := (Array.getElem?_eq_some_iff.1 hlast).1
            show xo + cs.length ≤ cc.size
            omega
          · intro i v hv
            exact ⟨v, hcell i v hv, (h6 v (List.mem_of_getElem? hv)).vr⟩
      · rw [if_neg hb] at hy
        have he' : (if b = A.size then some (⟨xb, xo, 0, 0⟩ : REnt) else ρ b) = some e := he
        rw [if_neg hb] at he'
        by_cases hd : y = .dead
        · subst hd; trivial
        · exact BRel.keep hle (.inr rfl) (h.rel.blk b e y he' hy)
    · intro b b' e e' y y' _ _ _ hy _ hp _
      have := hpas' b
      rw [hy] at this
      exact absurd this hp
    · intro b hb
      simp only [AHeap.size_alloc] at hb
      show (if b = A.size then _ else _) = _
      rw [if_neg (by omega)]; exact h.free b (by omega)
    · have hs : ρ' A.size = some ⟨xb, xo, 0, 0⟩ := if_pos rfl
      subst h1
      exact VR.slice (ρ := ρ') A.size 0 n cap ⟨xb, xo, 0, 0⟩ hs hcap h3
    · by_cases hne : cs = []
      · have hn : n = 0 := by
          rw [hne] at h5
          rcases Nat.eq_zero_or_pos n with q | q
          · exact q
          · have := Nat.mul_pos q hsz; simp at h5; omega
        exact .inr (.inr ⟨A.size, 0, cap, by rw [hn], hn, hne⟩)
      · refine .inr (.inl ⟨A.size, 0, cap, cs, true, 0, rfl, ?_, by omega, ?_, ?_⟩)
        · rw [AHeap.get_alloc, if_pos rfl]
          show some (if cs = [] then ABlk.dead else ABlk.cells cs true 0) = _
          rw [if_neg hne]
        · rw [List.drop_zero, List.take_of_length_le (by omega)]
        · intro q; rw [q] at hcap; exact absurd hcap (by decide)
    · rintro j ⟨o, n', c', q⟩; cases q
      simp

theorem Args.row {P : Program} {w : World} {ρ : Ren} {A : AHeap} {vs vcs : List Value} (h : Args P w ρ A vs vcs) {vc : Value} {n sz : Nat} {cs : List Value} (hr : RowC w vc n sz cs) (hsz : 0 < sz) :
    ∃ ρ' A' v, Args P w ρ' A' (vs ++ [v]) (vcs ++ [vc]) ∧ Ext NoB A A' ∧ ReadAt A' sz v n cs ∧ ∀ j, Own v j → j < A'.size := by
  obtain ⟨ρ', A', v, h1, h2, h3, h4, _⟩ := h.rowV hr hsz
  exact ⟨ρ', A', v, h1, h2, h3, h4⟩

/-- What answers yes in our words does so on the machine. -/
theorem Args.calls {P : Program} {T : FTab} (hT : TabOk P T) (hmix : P.follows .mixedOrders = true) {w : World} {ρ : Ren} {A : AHeap} {vs vcs : List Value} (h : Args P w ρ A vs vcs) {f : Nat}
    (hw : wF T (.func (.func f) #[] #[]) vs A fun v _ => v = .bool true) : Calls P f ⟨vcs⟩ w fun e w' => e = .returned (.bool true) ∧ Below w.heap.size w w' := by
  obtain ⟨n, v, A', hA, hv⟩ := hw
  subst hv
  cases n with
  | zero => cases hA
  | succ n =>
    obtain ⟨_, h2⟩ := callN_fn_sound hT hmix (callN_sound hT hmix n) hA
    obtain ⟨ρ', vc, w', h3, h4, h5⟩ := h2 ρ w vcs (by simpa using h.vrs) h.rel (fun b hb _ => h.free b hb)
    cases h4
    intro cs
    obtain ⟨fr, k1, k2, k3⟩ := h3 cs
    exact ⟨.returned (.bool true), w', fr, ⟨rfl, h5.below h.pas⟩, k1, k2, k3⟩

end Go.AS
