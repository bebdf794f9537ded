import Derived.Test.YtidgbapgedegbaaAsZH
namespace Go.AS
open Go
set_option linter.unusedSimpArgs false
set_option linter.unusedVariables false

/-! ## Maps keyed by numbers -/
theorem findE_shift (n : Int) : ∀ (es : List (Int × Value × Nat)) (i : Nat), findE n es (i + 1) = (findE n es i).map fun p => (p.1 + 1, p.2)
  | [], _ => rfl
  | e :: es, i => by
    simp only [findE]
    split
    · rfl
    · exact findE_shift n es (i + 1)

/-- What a list of entries says of a key. -/
def lookE (n : Int) (es : List (Int × Value × Nat)) : Option Value := (findE n es 0).map (·.2)
theorem lookE_nil (n : Int) : lookE n [] = none := rfl
theorem lookE_cons (n : Int) (e : Int × Value × Nat) (es : List (Int × Value × Nat)) : lookE n (e :: es) = if n = e.1 then some e.2.1 else lookE n es := by
  unfold lookE
  simp only [findE, beq_iff_eq]
  split
  · rfl
  · rw [show (0 + 1 : Nat) = 0 + 1 from rfl, findE_shift]
    cases findE n es 0 <;> rfl
theorem lookE_app (n k : Int) (v : Value) (c : Nat) : ∀ es : List (Int × Value × Nat), lookE n (es ++ [(k, v, c)]) = match lookE n es with | some x => some x | none => if n = k then some v else none
  | [] => by rw [List.nil_append, lookE_cons, lookE_nil]
  | e :: es => by
    rw [List.cons_append, lookE_cons, lookE_cons, lookE_app n k v c es]
    split <;> rfl
theorem findE_get (n : Int) : ∀ (es : List (Int × Value × Nat)) (i : Nat) (v : Value), findE n es 0 = some (i, v) → ∃ c, es[i]? = some (n, v, c)
  | [], _, _, h => by cases h
  | e :: es, i, v, h => by
    simp only [findE, beq_iff_eq] at h
    split at h
    · rename_i q; cases h; exact ⟨e.2.2, by rw [q]; rfl⟩
    · rw [findE_shift] at h
      cases hq : findE n es 0 with
      | none => rw [hq] at h; cases h
      | some p =>
        rw [hq] at h; cases h
        obtain ⟨c, hc⟩ := findE_get n es p.1 p.2 hq
        exact ⟨c, by simpa using hc⟩
theorem lookE_none {n : Int} : ∀ {es : List (Int × Value × Nat)}, (∀ e ∈ es, e.1 ≠ n) → lookE n es = none
  | [], _ => rfl
  | e :: es, h => by
    rw [lookE_cons, if_neg fun q => h e (by simp) q.symm]
    exact lookE_none fun x hx => h x (by simp [hx])
theorem lookE_erase (n k : Int) : ∀ (es : List (Int × Value × Nat)) (i : Nat), (es.map (·.1)).Nodup → (es[i]?).map (·.1) = some n → lookE k (es.eraseIdx i) = if k = n then none else lookE k es
  | [], _, _, h => by simp at h
  | e :: es, 0, hn, h => by
    simp at h
    subst h
    rw [List.map_cons, List.nodup_cons] at hn
    rw [List.eraseIdx_cons_zero, lookE_cons]
    split
    · rename_i q; subst q
      exact lookE_none fun x hx q => hn.1 (List.mem_map.2 ⟨x, hx, q⟩)
    · rfl
  | e :: es, i + 1, hn, h => by
    rw [List.map_cons, List.nodup_cons] at hn
    have h' : (es[i]?).map (·.1) = some n := by simpa using h
    rw [List.eraseIdx_cons_succ, lookE_cons, lookE_cons, lookE_erase n k es i hn.2 h']
    have : n ∈ es.map (·.1) := by
      cases q : es[i]? with
      | none => rw [q] at h'; cases h'
      | some x => rw [q] at h'; cases h'; exact List.mem_map.2 ⟨x, List.mem_of_getElem? q, rfl⟩
    have hne : e.1 ≠ n := fun q => hn.1 (q ▸ this)
    by_cases hk : k = e.1
    · subst hk; rw [if_pos rfl, if_neg hne, if_pos rfl]
    · rw [if_neg hk, if_neg hk]

/-- A map in memory, and what it holds. -/
def MapIs (A : AHeap) (mb : Nat) (f : Int → Option Value) : Prop := ∃ es clock, A.get mb = some (.map .i64 es clock) ∧ (es.map (·.1)).Nodup ∧ ∀ k, lookE k es = f k

theorem MapIs.lt {A : AHeap} {mb : Nat} {f : Int → Option Value} (h : MapIs A mb f) : mb < A.size := by
  obtain ⟨es, c, h1, _⟩ := h; exact AHeap.get_lt h1
theorem MapIs.ext {A A' : AHeap} {mb : Nat} {f : Int → Option Value} {S : Nat → Prop} (h : MapIs A mb f) (e : Ext S A A') (hs : ¬ S mb) : MapIs A' mb f := by
  obtain ⟨es, c, h1, h2⟩ := h; exact ⟨es, c, e.get h1 hs, h2⟩
theorem MapIs.congr {A : AHeap} {mb : Nat} {f g : Int → Option Value} (h : MapIs A mb f) (e : ∀ k, f k = g k) : MapIs A mb g := by rw [← funext e]; exact h
theorem MapIs.nil {A : AHeap} {mb : Nat} {c : Nat} (h : A.get mb = some (.map .i64 [] c)) : MapIs A mb fun _ => none := ⟨[], c, h, List.nodup_nil, fun _ => rfl⟩

theorem MapIs.get {A : AHeap} {mb : Nat} {f : Int → Option Value} (h : MapIs A mb f) (n : Int) : ∃ es c, A.get mb = some (.map .i64 es c) ∧ match f n with | some v => ∃ i, findE n es 0 = some (i, v) | none => findE n es 0 = none := by
  obtain ⟨es, c, h1, h2, h3⟩ := h
  refine ⟨es, c, h1, ?_⟩
  have := h3 n
  unfold lookE at this
  cases hq : findE n es 0 with
  | none => rw [hq] at this; rw [← this]; rfl
  | some p => rw [hq] at this; rw [← this]; exact ⟨p.1, rfl⟩

theorem MapIs.put {A : AHeap} {mb : Nat} {f : Int → Option Value} (h : MapIs A mb f) (n : Int) (v : Value) (hn : f n = none) {e : Env} {m k x : Operand} (hm : ev e m = .map (some mb)) (hk : ev e k = .int .i64 n) (hx : ev e x = v) :
    ∃ A', lop e A (.mapPut .i64 m k x) = some (undef, A') ∧ MapIs A' mb (fun j => if j = n then some v else f j) ∧ Ext (fun j => j = mb) A A' ∧ A'.size = A.size := by
  have lt := h.lt
  obtain ⟨es, c, h1, h2⟩ := h.get n
  rw [hn] at h2
  simp only at h2
  obtain ⟨es', c', h3, h4, h5⟩ := h
  rw [h1] at h3; cases h3
  refine ⟨A.set mb (.map .i64 (es ++ [(n, v, c)]) (c + 1)), ?_, ⟨_, _, by rw [AHeap.get_set _ _ _ _ lt, if_pos rfl], ?_, fun j => ?_⟩, Ext.set rfl, rfl⟩
  · simp only [lop, hm, hk, hx, h1, h2, if_true]
  · rw [List.map_append, List.nodup_append]
    refine ⟨h4, by simp, fun a ha b hb q => ?_⟩
    simp only [List.map_cons, List.map_nil, List.mem_singleton] at hb
    subst hb; subst q
    obtain ⟨y, hy, q⟩ := List.mem_map.1 ha
    have hl : lookE a es = none := by unfold lookE; rw [h2]; rfl
    obtain ⟨i, hi⟩ := List.mem_iff_getElem?.1 hy
    have : ∀ (es : List (Int × Value × Nat)), y ∈ es → lookE y.1 es ≠ none := by
      intro es
      induction es with
      | nil => intro q; cases q
      | cons e es ih =>
        intro q
        rw [lookE_cons]
        split
        · simp
        · rename_i hne
          rcases List.mem_cons.1 q with q | q
          · exact absurd (by rw [q]) hne
          · exact ih q
    exact this es hy (q ▸ hl)
  · rw [lookE_app, h5]
    by_cases q : j = n
    · subst q; simp [hn]
    · simp only [if_neg q]; cases f j <;> rfl

theorem MapIs.del {A : AHeap} {mb : Nat} {f : Int → Option Value} (h : MapIs A mb f) (n : Int) {e : Env} {m k : Operand} (hm : ev e m = .map (some mb)) (hk : ev e k = .int .i64 n) :
    ∃ A', lop e A (.mapDel .i64 m k) = some (undef, A') ∧ MapIs A' mb (fun j => if j = n then none else f j) ∧ Ext (fun j => j = mb) A A' ∧ A'.size = A.size := by
  have lt := h.lt
  obtain ⟨es, c, h1, h2⟩ := h.get n
  obtain ⟨es', c', h3, h4, h5⟩ := h
  rw [h1] at h3; cases h3
  cases hf : f n with
  | none =>
    rw [hf] at h2
    refine ⟨A.set mb (.map .i64 es c), ?_, ⟨_, _, by rw [AHeap.get_set _ _ _ _ lt, if_pos rfl], h4, fun j => ?_⟩, Ext.set rfl, rfl⟩
    · simp only [lop, hm, hk, h1, h2, if_true]
    · rw [h5]
      by_cases q : j = n
      · subst q; simp [hf]
      · simp [q]
  | some v =>
    rw [hf] at h2
    obtain ⟨i, hi⟩ := h2
    obtain ⟨c2, hc⟩ := findE_get n es i v hi
    refine ⟨A.set mb (.map .i64 (es.eraseIdx i) c), ?_, ⟨_, _, by rw [AHeap.get_set _ _ _ _ lt, if_pos rfl], ?_, fun j => ?_⟩, Ext.set rfl, rfl⟩
    · simp only [lop, hm, hk, h1, hi, if_true]
    · exact List.Nodup.sublist ((List.eraseIdx_sublist es i).map _) h4
    · rw [lookE_erase n j es i h4 (by rw [hc]; rfl)]; simp [h5]

theorem MapIs.put2 {A : AHeap} {mb : Nat} {f : Int → Option Value} (h : MapIs A mb f) {n : Int} (v : Value) (hn : f n = none) {es : List (Int × Value × Nat)} {c : Nat} (h1 : A.get mb = some (.map .i64 es c)) :
    MapIs (A.set mb (.map .i64 (es ++ [(n, v, c)]) (c + 1))) mb (fun j => if j = n then some v else f j) := by
  obtain ⟨es', c', g1, g2⟩ := h.get n
  rw [h1] at g1; cases g1
  rw [hn] at g2
  simp only at g2
  obtain ⟨A', k1, k2, _⟩ := h.put (e := Trie.leaf) n v hn (m := .const (.map (some mb))) (k := .const (.int .i64 n)) (x := .const v) rfl rfl rfl
  simp only [lop, ev, h1, g2, if_true, Option.some.injEq, Prod.mk.injEq] at k1
  rw [k1.2]; exact k2
theorem MapIs.del2 {A : AHeap} {mb : Nat} {f : Int → Option Value} (h : MapIs A mb f) (n : Int) {es : List (Int × Value × Nat)} {c : Nat} (h1 : A.get mb = some (.map .i64 es c)) :
    (findE n es 0 = none → MapIs (A.set mb (.map .i64 es c)) mb (fun j => if j = n then none else f j)) ∧ ∀ i v, findE n es 0 = some (i, v) → MapIs (A.set mb (.map .i64 (es.eraseIdx i) c)) mb (fun j => if j = n then none else f j) := by
  obtain ⟨A', k1, k2, _⟩ := h.del (e := Trie.leaf) n (m := .const (.map (some mb))) (k := .const (.int .i64 n)) rfl rfl
  refine ⟨fun q => ?_, fun i v q => ?_⟩
  · simp only [lop, ev, h1, q, if_true, Option.some.injEq, Prod.mk.injEq] at k1
    rw [k1.2]; exact k2
  · simp only [lop, ev, h1, q, if_true, Option.some.injEq, Prod.mk.injEq] at k1
    rw [k1.2]; exact k2

/-- One thing more within a slice's own room. -/
theorem app_in {A : AHeap} {b i n d bytes opn : Nat} {y : Value} {bs : List Value} {ro : Bool} {opn2 : Nat} (h : A.get b = some (.cells bs false opn)) (hn : bs.length = n) (hi : i < n) (hs : n ≤ 4294967296) (hb : bytes ≤ 8192) (hd : A.get d = some (.cells [y] ro opn2)) (ho : oneCell y = true) :
    appA A 1 bytes (.slice (some ⟨b, 0, none⟩) i n) (.slice (some ⟨d, 0, none⟩) 1 1) = some (.slice (some ⟨b, 0, none⟩) (i + 1) n, A.set b (.cells (bs.set i y) false opn)) := by
  have hc : n < OPEN := Nat.lt_of_le_of_lt hs (by decide)
  have hfit : fitsA (i + 1) bytes = true := by simp [fitsA, hb]; omega
  unfold appA
  simp only [lenA, hfit, isStr, firstA, rdCells, hd]
  simp [ENDCAP, hc, show i + 1 ≤ n by omega, wrCells, h, hn, ho, lay]

/-! ## Texts of bytes -/
def byt (b : UInt8) : Value := .int .u8 (b.toNat : Nat)
def bcells (l : List UInt8) : List Value := l.map byt
/-- A text of bytes. -/
def b2s (A : AHeap) (v : Value) : Option Value := match v with
    | .slice none 0 0 => some (.string ⟨⟨[]⟩⟩)
    | .slice a n c => match firstA A 1 n (.slice a n c) with
      | some cs => if cs.all (fun v => match v with | .int .u8 _ => true | _ => false) then some (.string ⟨⟨cs.map fun v => match v with | .int _ n => UInt8.ofNat n.toNat | _ => 0⟩⟩) else none
      | none => none
    | _ => none
theorem qop_b2s {e : Env} {A : AHeap} {x : Operand} : qop e A (.cvB2S x) = b2s A (ev e x) := rfl

theorem b2s_ok {A : AHeap} {v : Value} {l : List UInt8} (h : ReadAt A 1 v l.length (bcells l)) : b2s A v = some (.string ⟨⟨l⟩⟩) := by
  have hf := h.firstA (Nat.le_refl _)
  rw [List.take_of_length_le (by rw [h.length]; omega)] at hf
  obtain ⟨a, c, rfl⟩ := h.val
  have key : (match firstA A 1 l.length (.slice a l.length c) with
      | some cs => if cs.all (fun v => match v with | .int .u8 _ => true | _ => false) then some (Value.string ⟨⟨cs.map fun v => match v with | .int _ n => UInt8.ofNat n.toNat | _ => 0⟩⟩) else none
      | none => none) = some (.string ⟨⟨l⟩⟩) := by
    rw [hf]
    have h1 : (bcells l).all (fun v => match v with | .int .u8 _ => true | _ => false) = true := by simp [bcells, byt]
    have h2 : ((bcells l).map fun v => match v with | .int _ n => UInt8.ofNat n.toNat | _ => 0) = l := by
      simp [bcells, byt, List.map_map, Function.comp_def]
    simp only [h1, if_true, h2]
  unfold b2s
  split
  · rename_i h0
    injection h0 with e1 e2 e3
    have : l = [] := List.length_eq_zero_iff.1 e2
    subst this; rfl
  · rename_i h0; cases h0; exact key
  · rename_i h0; exact absurd rfl (h0 _ _ _)


theorem wV_b2s {T : FTab} {e : Env} {A : AHeap} {x : Operand} {Q : Value → AHeap → Prop} : wV T e A (.cvB2S x) Q ↔ wL ((b2s A (ev e x)).map fun v => (v, A)) Q := by rw [wV_eq]; rfl
end Go.AS
