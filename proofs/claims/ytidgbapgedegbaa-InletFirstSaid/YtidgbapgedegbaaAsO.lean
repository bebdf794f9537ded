import Derived.Test.YtidgbapgedegbaaAsN
namespace Go.AS
open Go
set_option linter.unusedSimpArgs false
set_option linter.unusedVariables false

section
variable {C : Comp} {ρ : Ren} {A : AHeap} {w : World} {P : Program} {e : Env} {cev : Operand → Value}

theorem nextcap_le (need old : Nat) (h : old < need) : Builtin.nextslicecap need old ≤ 2 * need + 192 := by
  unfold Builtin.nextslicecap
  split
  · omega
  · split
    · omega
    · have key : ∀ r c, c ≤ 2 * need + 192 → Builtin.growBy need r c ≤ 2 * need + 192 := by
        intro r
        induction r with
        | zero => intro c hc; exact hc
        | succ r ih =>
          intro c hc
          simp only [Builtin.growBy]
          split
          · exact hc
          · apply ih; omega
      exact key 4 old (by omega)

theorem run_askRoom {n : Nat} : (askRoom n).run P w = .ok () w := by
  unfold askRoom
  split
  · simp [mark, Sem.run]
  · rfl

/-- An append that found no room. -/
theorem grow_run (hr : HRel C ρ A w.heap) {size bytes n : Nat} {s' x' : Value} {sType xType elem : TypeId} {d : TypeDesc} {base' : Option Addr} {sLen sCap : Nat} {old new old' new' : List Value} {z : List Value}
    (hu : P.underlying sType = some (.slice elem)) (hux : P.underlying xType = some d) (hd : ∀ k, d ≠ .int k) (hs : szOf P elem = some size) (hb : bytesOf P elem = some bytes) (hz : zeroOf P elem = some z) (hzl : z.length = size)
    (hfit : sLen + n ≤ 4294967296) (hbb : bytes ≤ 8192) (hsz : size ≠ 0) (hs' : s' = .slice base' sLen sCap) (hlen : (Builtin.lenOf x').run P w = .ok n w) (hneed : ¬ sLen + n ≤ sCap)
    (ho : ∀ w2 : World, w2.heap = w.heap → (Builtin.firstCells size sLen s').run P w2 = .ok ⟨old'⟩ w2) (hn : ∀ w2 : World, w2.heap = w.heap → (Builtin.firstCells size n x').run P w2 = .ok ⟨new'⟩ w2)
    (hvo : VRs ρ old old') (hvn : VRs ρ new new') (hlo : old.length = sLen * size) (hln : new.length = n * size) (hfree : ρ A.size = none) (ty : TypeId) :
    ∃ w' room, (Builtin.append_ #[sType, xType] ty #[s', x']).run P w = .ok (.slice (some ⟨w.heap.size, 0, none⟩) (sLen + n) room) w' ∧ sLen + n ≤ room ∧
      Tr C ρ A w (Ren.upd ρ A.size ⟨w.heap.size, 0, room, size⟩) (A.alloc (.cells (old ++ new) false size)) w' := by
  unfold bytesOf at hb
  cases hi : P.info? elem with
  | none => rw [hi] at hb; cases hb
  | some inf =>
    rw [hi] at hb
    simp only [Option.map_some, Option.some.injEq] at hb
    obtain ⟨t, ht⟩ : ∃ t, t = w.tape w.drawn (.appendCap (sLen + n) sCap elem) := ⟨_, rfl⟩
    let room := sLen + n + t % (2 ^ 63 - (sLen + n))
    let w1 : World := { w with drawn := w.drawn + 1 }
    have hch : (choose (.appendCap (sLen + n) sCap elem)).run P w = .ok room w1 := by
      simp only [choose, Sem.run, Question.forced, Bool.false_eq_true, if_false, Question.cut, room, w1, ht]
    obtain ⟨v0, hz1, hz2, hz3⟩ := zeroOf_spec (w := w1) (ρ := ρ) hz
    let rest : Array Value := Builtin.zeroCells v0.cells (room - (sLen + n))
    have hzs : v0.cells.size = size := by rw [cells_cl, hz2]; simpa using hzl
    have hrest : rest.size = (room - (sLen + n)) * size := by simp [rest, Builtin.zeroCells, hzs]
    have hcap := nextcap_le (sLen + n) sCap (by omega)
    have hcap2 : ¬ (Builtin.nextslicecap (sLen + n) sCap * inf.bytes > 2 ^ 48) := by
      rw [hb]
      have : Builtin.nextslicecap (sLen + n) sCap * bytes ≤ (2 * 4294967296 + 192) * 8192 := Nat.mul_le_mul (by omega) hbb
      omega
    have hroom : sLen + n ≤ room := by simp only [room]; omega
    refine ⟨{ w1 with heap := w1.heap.push (.cells (⟨old'⟩ ++ ⟨new'⟩ ++ rest) elem) }, room, ?_, hroom, ?_⟩
    · subst hs'
      have hz4 : ¬ ((((sLen + n : Nat) : Int) > IntKind.i64.max ∧ (false = true ∨ inf.bytes = 0))) := by
        intro h
        have : (IntKind.i64.max) = 9223372036854775807 := by rfl
        omega
      simp only [Builtin.append_, List.getElem?_toArray, List.getElem?_cons_zero, List.getElem?_cons_succ, run_bind, run_underlying hu, run_sizeOf hs, run_underlying hux]
      cases d with
      | int k => exact absurd rfl (hd k)
      | _ =>
        simp only [run_pure, Bool.false_eq_true, if_false, hlen, if_neg hneed, run_bind, run_typeInfo hi, false_or]
        rw [if_neg (by intro h; exact hz4 ⟨h.1, .inr h.2⟩)]
        simp only [run_bind, run_typeInfo hi, if_neg hcap2, run_pure, hch, run_askRoom, ho w1 rfl, hn w1 rfl, Bool.not_false, if_true, hz1, run_newRow]
        rfl
    · refine Tr.openCells (w := w) (lo := 0) (hi := 0) (el := elem) (cc := ⟨old'⟩ ++ ⟨new'⟩ ++ rest) (vs' := old' ++ new') hr hfree (hvo.append hvn) ?_ ?_ hsz (fun i _ => by omega) rfl rfl rfl rfl
      · show ((⟨old'⟩ ++ ⟨new'⟩ ++ rest : Array Value).toList).take (old' ++ new').length = old' ++ new'
        rw [Array.toList_append, Array.toList_append]
        exact List.take_left' rfl
      · have h1 := hvo.length
        have h2 := hvn.length
        simp only [Array.size_append, hrest, List.size_toArray, h1, h2, hlo, hln]
        rw [← Nat.add_mul, ← Nat.add_mul]
        congr 1
        omega

/-- An append that finds room. -/
theorem inplace_run {size n : Nat} {s' x' : Value} {sType xType elem : TypeId} {d : TypeDesc} {base' : Option Addr} {sLen sCap : Nat} {new' : List Value}
    (hu : P.underlying sType = some (.slice elem)) (hux : P.underlying xType = some d) (hd : ∀ k, d ≠ .int k) (hs : szOf P elem = some size)
    (hs' : s' = .slice base' sLen sCap) (hlen : (Builtin.lenOf x').run P w = .ok n w) (hneed : sLen + n ≤ sCap)
    (hn : (Builtin.firstCells size n x').run P w = .ok ⟨new'⟩ w) (ty : TypeId) {w' : World}
    (hst : match base' with | some a => (storeCells (a.add (sLen * size)) new').run P w = .ok () w' | none => w' = w) :
    (Builtin.append_ #[sType, xType] ty #[s', x']).run P w = .ok (.slice base' (sLen + n) sCap) w' := by
  subst hs'
  simp only [Builtin.append_, List.getElem?_toArray, List.getElem?_cons_zero, List.getElem?_cons_succ, run_bind, run_underlying hu, run_sizeOf hs, run_underlying hux]
  cases d with
  | int k => exact absurd rfl (hd k)
  | _ =>
    simp only [run_pure, Bool.false_eq_true, if_false, hlen, if_pos hneed, run_bind, Bool.not_false, if_true, hn]
    cases base' with
    | none => simp only at hst; subst hst; rfl
    | some a => simp only [run_bind]; rw [hst]; rfl

theorem firstA_length {size n : Nat} {x : Value} {vs : List Value} (h : firstA A size n x = some vs) (hl : ∀ s : ByteArray, x = .string s → size = 1 ∧ n ≤ s.data.toList.length) (hn : ∀ l c, x = .slice none l c → n = 0) : vs.length = n * size := by
  unfold firstA at h
  split at h
  · cases h; rw [hn _ _ rfl]; simp
  · split at h
    · rename_i h0; cases h; simp [h0]
    · split at h
      · cases h
      · unfold rdCells at h
        split at h
        · split at h
          · cases h; simp only [List.length_take, List.length_drop]; omega
          · cases h
        · cases h
  · rename_i s
    obtain ⟨h1, h2⟩ := hl s rfl
    cases h; subst h1; simp only [List.length_map, List.length_take]; omega
  · cases h

/-- What is read does not hang on how much was drawn. -/
theorem firstA_any (hr : HRel C ρ A w.heap) {size n : Nat} {x x' : Value} {vs : List Value} (h : firstA A size n x = some vs) (hx : VR ρ x x') :
    ∃ vs' : List Value, VRs ρ vs vs' ∧ ∀ w2 : World, w2.heap = w.heap → (Builtin.firstCells size n x').run P w2 = .ok ⟨vs'⟩ w2 := by
  unfold firstA at h
  split at h
  · cases h; cases hx; exact ⟨[], .nil, fun _ _ => rfl⟩
  · rename_i b o l c
    split at h
    · rename_i h0; cases h
      have zero : ∀ (ad : Addr) (c' : Nat), ∃ vs' : List Value, VRs ρ [] vs' ∧ ∀ w2 : World, w2.heap = w.heap → (Builtin.firstCells size n (.slice (some ad) l c')).run P w2 = .ok ⟨vs'⟩ w2 := fun ad c' =>
        ⟨[], .nil, fun _ _ => by simp only [Builtin.firstCells, h0]; rfl⟩
      cases hx <;> exact zero _ _
    · split at h
      · cases h
      · rename_i hce
        have key : ∀ (en : REnt) (c' : Nat), ρ b = some en → ∃ vs' : List Value, VRs ρ vs vs' ∧ ∀ w2 : World, w2.heap = w.heap → (Builtin.firstCells size n (.slice (some ⟨en.cb, en.base + o, none⟩) l c')).run P w2 = .ok ⟨vs'⟩ w2 := by
          intro en c' he
          obtain ⟨vs', h1, h2, h3⟩ := rd_cells hr he h
          refine ⟨vs', h1, fun w2 hw2 => ?_⟩
          simp only [Builtin.firstCells]
          exact run_loadCells h2 (fun j v hj => by have := h3 j v hj; unfold World.cell? at this ⊢; rw [hw2]; exact this)
        cases hx with
        | slice _ _ _ _ en he hc hl => exact key en _ he
        | sliceOpen _ _ _ q en he hq hrm => exact key en _ he
        | sliceEnd => exact absurd rfl hce
  · rename_i s
    cases h
    rw [hx.string_inv]
    refine ⟨(s.data.toList.take n).map fun b => .int .u8 b.toNat, ?_, fun w2 _ => ?_⟩
    · generalize s.data.toList.take n = l
      induction l with
      | nil => exact .nil
      | cons a l ih => exact .cons _ _ _ _ (.int _ _) ih
    · simp only [Builtin.firstCells, run_pure]
      congr 1
      apply Array.ext'
      simp
  · cases h

/-- An append at the end of what is known of a block: with room behind, or without. -/
theorem append_end (hr : HRel C ρ A w.heap) {opn bytes n : Nat} {x' : Value} {sType xType elem : TypeId} {d : TypeDesc} {z : List Value} {b o sLen q : Nat} {en : REnt} {cs new new' old' : List Value}
    (hu : P.underlying sType = some (.slice elem)) (hux : P.underlying xType = some d) (hd : ∀ k, d ≠ .int k) (hs : szOf P elem = some opn) (hb : bytesOf P elem = some bytes) (hz : zeroOf P elem = some z) (hzl : z.length = opn)
    (hf1 : sLen + n ≤ 4294967296) (hf2 : bytes ≤ 8192) (hsz : ¬ opn = 0) (hlen : (Builtin.lenOf x').run P w = .ok n w) (he : ρ b = some en) (hbk : A.get b = some (.cells cs false opn)) (hq : o = q * opn) (hrm : q + sLen ≤ en.room)
    (hend : o + sLen * opn = cs.length) (hone : new.all oneCell = true) (hvn : VRs ρ new new') (hrn : ∀ w2 : World, w2.heap = w.heap → (Builtin.firstCells opn n x').run P w2 = .ok ⟨new'⟩ w2) (hlnew : new.length = n * opn)
    (hvo : VRs ρ (cs.drop o) old') (hro : ∀ w2 : World, w2.heap = w.heap → (Builtin.firstCells opn sLen (.slice (some ⟨en.cb, en.base + o, none⟩) sLen (en.room - q))).run P w2 = .ok ⟨old'⟩ w2) (hf : ρ A.size = none) (ty : TypeId) :
    ∃ ρ' vc w', (Builtin.append_ #[sType, xType] ty #[.slice (some ⟨en.cb, en.base + o, none⟩) sLen (en.room - q), x']).run P w = .ok vc w' ∧
      VR ρ' (growA (A.set b .dead) opn (cs.drop o) new (sLen + n)).1 vc ∧ Tr C ρ A w ρ' (growA (A.set b .dead) opn (cs.drop o) new (sLen + n)).2 w' := by
  obtain ⟨cc, el, lo, hi, hh, hcsz, hc, hfr, hop⟩ := cells_of hr he hbk
  obtain ⟨hop0, hop1, hop2, _⟩ := hop hsz
  simp only [growA]
  by_cases hfits2 : sLen + n ≤ en.room - q
  · have hin : en.base + o + sLen * opn + new'.length ≤ cc.size := by
      have h1 := hvn.length
      have h2 : (q + (sLen + n)) * opn ≤ en.room * opn := Nat.mul_le_mul_right _ (by omega)
      rw [Nat.add_mul, Nat.add_mul] at h2
      rw [hop2] at hop1
      omega
    have hone' : ∀ v ∈ new', oneCell v = true := by
      intro v hvm
      obtain ⟨i, hi⟩ := List.getElem?_of_mem hvm
      have h1 := hvn.length
      have hlt : i < new.length := by
        rcases Nat.lt_or_ge i new.length with q | q
        · exact q
        · rw [List.getElem?_eq_none (by omega)] at hi; cases hi
      obtain ⟨v2, h1, h2⟩ := hvn.get (List.getElem?_eq_getElem hlt)
      rw [hi] at h1; cases h1
      exact h2.oneCell (List.all_eq_true.1 hone _ (List.getElem_mem hlt))
    obtain ⟨w', k1, k2⟩ := run_storeCells (P := P) en.cb el lo hi new' w cc (en.base + o + sLen * opn) 0 hh hone' (by omega) (fun j h1 h2 => hfr rfl j (by omega) (by omega))
    have hlt : en.cb < w.heap.size := by
      rcases Nat.lt_or_ge en.cb w.heap.size with q | q
      · exact q
      · rw [Array.getElem?_eq_none q] at hh; cases hh
    refine ⟨Ren.upd ρ A.size ⟨en.cb, en.base + o, en.room - q, opn⟩, _, w', inplace_run (size := opn) (n := n) (new' := new') hu hux hd hs rfl hlen hfits2 (hrn w rfl) ty (by simp only [add_plain]; exact k1), ?_, ?_⟩
    · have := VR.sliceOpen (ρ := Ren.upd ρ A.size ⟨en.cb, en.base + o, en.room - q, opn⟩) A.size 0 (sLen + n) 0 ⟨en.cb, en.base + o, en.room - q, opn⟩ Ren.upd_same (by simp) (by simp only; omega)
      simpa using this
    · refine Tr.move (e' := ⟨en.cb, en.base + o, en.room - q, opn⟩) hr hf he hbk (fun hp => hp) rfl (by rw [k2]; simp) (fun cb hcb => by rw [k2]; simp [Array.getElem?_setIfInBounds, Ne.symm hcb]) ?_ (by rw [k2]) (by rw [k2]) (by rw [k2])
      refine ⟨⟨lay cc.toList (en.base + o + sLen * opn + 0) new'⟩, el, lo, hi, ?_, ?_, ?_, ?_, ?_⟩
      · rw [k2]; simp [Array.getElem?_setIfInBounds, hlt]
      · have h1 := hvn.length
        simp [lay_length]; omega
      · intro i v hi2
        have h1 := hvn.length
        have e1 : (⟨lay cc.toList (en.base + o + sLen * opn + 0) new'⟩ : Array Value)[en.base + o + i]? = (lay cc.toList (en.base + o + sLen * opn) new')[en.base + o + i]? := by simp
        simp only
        rw [e1, lay_get _ _ _ _ (by simp; omega)]
        by_cases hio : i < (cs.drop o).length
        · rw [List.getElem?_append_left hio, List.getElem?_drop] at hi2
          simp only [List.length_drop] at hio
          rw [if_neg (by omega)]
          obtain ⟨v', h3, h4⟩ := hc (o + i) v hi2
          exact ⟨v', by rw [show en.base + o + i = en.base + (o + i) by omega]; simpa using h3, h4.mono (Ren.le_upd hf)⟩
        · rw [List.getElem?_append_right (by omega)] at hi2
          simp only [List.length_drop] at hio hi2
          have hlt2 : i - (cs.length - o) < new.length := by
            rcases Nat.lt_or_ge (i - (cs.length - o)) new.length with q | q
            · exact q
            · rw [List.getElem?_eq_none q] at hi2; cases hi2
          rw [if_pos (by omega)]
          obtain ⟨v', h3, h4⟩ := hvn.get hi2
          exact ⟨v', by rw [← h3]; congr 1; omega, h4.mono (Ren.le_upd hf)⟩
      · intro hro2 i h1 h2
        simp [lay_length] at h2
        simp only at h1
        exact hfr rfl i (by omega) h2
      · intro _
        have h2 : (q + (sLen + n)) * opn ≤ en.room * opn := Nat.mul_le_mul_right _ (by omega)
        rw [Nat.add_mul, Nat.add_mul] at h2
        rw [hop2] at hop1
        refine ⟨?_, ?_, rfl, rfl⟩
        · simp only [List.length_append, List.length_drop]
          rw [Nat.sub_mul]; omega
        · simp only [lay_length, List.size_toArray, Array.length_toList]
          rw [Nat.sub_mul]; omega
  · have T1 : Tr C ρ A w ρ (A.set b .dead) w := Tr.upd hr he hbk (fun hp => hp) (.inl rfl) rfl (fun _ _ => rfl) trivial rfl rfl rfl
    obtain ⟨w', room, k1, k2, k3⟩ := grow_run (A := A.set b .dead) (old := cs.drop o) T1.rel hu hux hd hs hb hz hzl hf1 hf2 hsz rfl hlen hfits2 hro hrn hvo hvn (by simp; omega) hlnew hf ty
    refine ⟨_, _, w', k1, ?_, T1.trans k3⟩
    have := VR.sliceOpen (ρ := Ren.upd ρ A.size ⟨w.heap.size, 0, room, opn⟩) A.size 0 (sLen + n) 0 ⟨w.heap.size, 0, room, opn⟩ Ren.upd_same (by simp) (by simp only; omega)
    simpa using this

/-- Nothing read. -/
theorem firstA_zero {A : AHeap} {z : Nat} {x : Value} {cs : List Value} (h : firstA A z 0 x = some cs) : cs = [] := by
  unfold firstA at h
  split at h
  all_goals first | (cases h; done) | skip
  all_goals first
    | (split at h <;> first | (cases h; rfl) | (rename_i h0; simp at h0))
    | (cases h; simp)

/-- append -/
theorem appA_sound (hr : HRel C ρ A w.heap) {size bytes : Nat} {s x s' x' v : Value} {A' : AHeap} {sType xType elem : TypeId} {d : TypeDesc} {z : List Value}
    (hu : P.underlying sType = some (.slice elem)) (hux : P.underlying xType = some d) (hd : ∀ k, d ≠ .int k) (hs : szOf P elem = some size) (hb : bytesOf P elem = some bytes) (hz : zeroOf P elem = some z) (hzl : z.length = size)
    (h : appA A size bytes s x = some (v, A')) (hvs : VR ρ s s') (hvx : VR ρ x x') (hfree : ∀ b, A.size ≤ b → b < A'.size → ρ b = none) (ty : TypeId) :
    ∃ ρ' vc w', (Builtin.append_ #[sType, xType] ty #[s', x']).run P w = .ok vc w' ∧ VR ρ' v vc ∧ Tr C ρ A w ρ' A' w' := by
  unfold appA at h
  split at h
  · rename_i base sLen sCap n hln
    have hlen := lenA_sound (P := P) (w := w) hln hvx
    split at h
    · cases h
    rename_i hfit
    simp only [Bool.or_eq_true, Bool.not_eq_true', decide_eq_true_eq, not_or, Bool.not_eq_false, fitsA, Bool.and_eq_true, bne_iff_ne, ne_eq, not_and, Decidable.not_not] at hfit
    obtain ⟨⟨⟨hf1, hf2⟩, hsz⟩, hstr⟩ := hfit
    have hxs : ∀ b, x = .string b → size = 1 := fun b hb => hstr (by rw [hb]; rfl)
    split at h
    · cases h
    rename_i new hnew
    obtain ⟨new', hvn, hrn⟩ := firstA_any (P := P) hr hnew hvx
    have hlnew : new.length = n * size := firstA_length hnew (fun b hb => by subst hb; cases hln; exact ⟨hxs _ rfl, Nat.le_refl _⟩) (fun l c hx => by subst hx; cases hln; cases hvx; rfl)
    have fr : A'.size = A.size + 1 → ρ A.size = none := fun h2 => hfree A.size (Nat.le_refl _) (by omega)
    split at h
    · -- a nil slice
      cases hvs
      split at h
      · rename_i h0
        cases h; subst h0
        refine ⟨ρ, _, w, inplace_run (size := size) (n := 0) (new' := new') hu hux hd hs rfl hlen (by omega) (hrn w rfl) ty rfl, .nils, Tr.refl hr⟩
      · rename_i h0
        split at h
        · rename_i hone
          simp only [growA, Option.some.injEq, Prod.mk.injEq] at h
          obtain ⟨h1, h2⟩ := h
          subst h1; subst h2
          have hf := fr rfl
          obtain ⟨w', room, k1, k2, k3⟩ := grow_run (base' := none) (old := []) (old' := []) (sLen := 0) (sCap := 0) hr hu hux hd hs hb hz hzl hf1 hf2 hsz rfl hlen (by omega) (fun w2 _ => rfl) hrn .nil hvn (by simp) hlnew hf ty
          refine ⟨_, _, w', k1, ?_, k3⟩
          have := VR.sliceOpen (ρ := Ren.upd ρ A.size ⟨w.heap.size, 0, room, size⟩) A.size 0 n 0 ⟨w.heap.size, 0, room, size⟩ Ren.upd_same (by simp) (by simp only; omega)
          simpa using this
        · cases h
    · rename_i b o
      split at h
      · rename_i h0
        cases h; subst h0
        have : ∃ b' c', s' = .slice (some b') sLen c' ∧ sLen ≤ c' := by
          cases hvs with
          | slice _ _ _ _ en he hc hl => exact ⟨_, _, rfl, hl⟩
          | sliceOpen _ _ _ q en he hq hrm => exact ⟨_, _, rfl, by omega⟩
          | sliceEnd => exact ⟨_, _, rfl, by omega⟩
        obtain ⟨b', c', hs', hle⟩ := this
        have hn0 : new' = [] := by
          have := hvn.length
          rw [hlnew, Nat.zero_mul] at this
          exact List.length_eq_zero_iff.1 this
        subst hn0
        exact ⟨ρ, _, w, inplace_run (size := size) (n := 0) (new' := []) hu hux hd hs hs' hlen (by omega) (hrn w rfl) ty rfl, by rw [hs'] at hvs; exact hvs, Tr.refl hr⟩
      · rename_i h0
        split at h
        · rename_i hcap
          cases hvs with
          | sliceOpen => exact absurd hcap (by decide)
          | sliceEnd => exact absurd hcap (by decide)
          | slice _ _ _ _ en he hc hle =>
            split at h
            · rename_i hfits
              cases hw : wrCells A b (o + sLen * size) new with
              | none => rw [hw] at h; cases h
              | some A2 =>
                rw [hw] at h; cases h
                obtain ⟨w', k1, k2⟩ := wrCells_sound (P := P) hr hw he hvn
                refine ⟨ρ, _, w', inplace_run (size := size) (n := n) (new' := new') hu hux hd hs rfl hlen hfits (hrn w rfl) ty (by simp only [add_plain]; rw [Nat.add_assoc]; exact k1), ?_, k2⟩
                exact .slice _ _ _ _ en he hc hfits
            · rename_i hfits
              split at h
              · rename_i old hold
                simp only [growA, Option.some.injEq, Prod.mk.injEq] at h
                obtain ⟨h1, h2⟩ := h
                subst h1; subst h2
                have hf := fr rfl
                obtain ⟨old', hvo, hro⟩ := firstA_any (P := P) hr hold (VR.slice b o sLen sCap en he hc hle)
                obtain ⟨w', room, k1, k2, k3⟩ := grow_run hr hu hux hd hs hb hz hzl hf1 hf2 hsz rfl hlen hfits hro hrn hvo hvn (firstA_length hold (fun s hs => by cases hs) (fun l c hs => by cases hs)) hlnew hf ty
                refine ⟨_, _, w', k1, ?_, k3⟩
                have := VR.sliceOpen (ρ := Ren.upd ρ A.size ⟨w.heap.size, 0, room, size⟩) A.size 0 (sLen + n) 0 ⟨w.heap.size, 0, room, size⟩ Ren.upd_same (by simp) (by simp only; omega)
                simpa using this
              · cases h
        · rename_i hcap
          split at h
          · rename_i hcap'
            cases hvs with
            | slice _ _ _ _ en he hc hle => exact absurd hc hcap
            | sliceEnd => exact absurd hcap' (by decide)
            | sliceOpen _ _ _ q en he hq hrm =>
              split at h
              · rename_i cs opn hbk
                split at h
                · cases h
                rename_i hopn
                have hopn' : opn = size := by simpa using hopn
                subst hopn'
                obtain ⟨cc, el, lo, hi, hh, hcsz, hc, hfr, hop⟩ := cells_of hr he hbk
                obtain ⟨hop0, hop1, hop2, _⟩ := hop hsz
                rw [hop2] at hq
                split at h
                · rename_i hfits
                  cases hw : wrCells A b (o + sLen * opn) new with
                  | none => rw [hw] at h; cases h
                  | some A2 =>
                    rw [hw] at h; cases h
                    have hroom : q + (sLen + n) ≤ en.room := by
                      have : (q + (sLen + n)) * opn ≤ en.room * opn := by rw [Nat.add_mul]; rw [hop2] at hop0; omega
                      exact Nat.le_of_mul_le_mul_right this (by omega)
                    obtain ⟨w', k1, k2⟩ := wrCells_sound (P := P) hr hw he hvn
                    refine ⟨ρ, _, w', inplace_run (size := opn) (n := n) (new' := new') hu hux hd hs rfl hlen (by omega) (hrn w rfl) ty (by simp only [add_plain]; rw [Nat.add_assoc]; exact k1), ?_, k2⟩
                    exact .sliceOpen _ _ _ q en he (by rw [hop2]; exact hq) hroom
                · split at h
                  · rename_i hend
                    simp only [Bool.and_eq_true, decide_eq_true_eq] at hend
                    obtain ⟨hend, hone⟩ := hend
                    have hA : A'.size = A.size + 1 := by
                      simp only [growA, Option.some.injEq, Prod.mk.injEq] at h
                      rw [← h.2]; rfl
                    have hf := fr hA
                    obtain ⟨old', hvo, hro⟩ := firstA_any (P := P) (n := sLen) (size := opn) hr (vs := cs.drop o) (by
                      simp only [firstA]
                      split
                      · rename_i h00
                        have : cs.drop o = [] := List.drop_eq_nil_of_le (by omega)
                        rw [this]
                      · rw [if_neg (by decide)]
                        simp only [rdCells, hbk]
                        rw [if_pos (by omega), List.take_of_length_le (by simp; omega)]) (VR.sliceOpen b o sLen q en he (by rw [hop2]; exact hq) hrm)
                    obtain ⟨ρ', vc, w', k1, k2, k3⟩ := append_end hr hu hux hd hs hb hz hzl hf1 hf2 hsz hlen he hbk hq hrm hend hone hvn hrn hlnew hvo hro hf ty
                    simp only [Option.some.injEq] at h
                    rw [h] at k2 k3
                    exact ⟨ρ', vc, w', k1, k2, k3⟩
                  · cases h
              · cases h
          · rename_i hcap'
            split at h
            · rename_i hcapE
              cases hvs with
              | slice _ _ _ _ en he hc hle => exact absurd hc hcap
              | sliceOpen => exact absurd rfl hcap'
              | sliceEnd _ _ x c q en he hq hrm hx =>
                split at h
                · rename_i cs opn hbk
                  split at h
                  · cases h
                  rename_i hopn
                  have hopn' : opn = size := by simpa using hopn
                  subst hopn'
                  obtain ⟨cc, el, lo, hi, hh, hcsz, hc, hfr, hop⟩ := cells_of hr he hbk
                  obtain ⟨hop0, hop1, hop2, _⟩ := hop hsz
                  rw [hop2] at hq
                  split at h
                  · rename_i hend
                    simp only [Bool.and_eq_true, decide_eq_true_eq] at hend
                    obtain ⟨⟨_, hend⟩, hone⟩ := hend
                    have hA : A'.size = A.size + 1 := by
                      simp only [growA, Option.some.injEq, Prod.mk.injEq] at h
                      rw [← h.2]; rfl
                    have hf := fr hA
                    have hnil : cs.drop o = [] := List.drop_eq_nil_of_le (by omega)
                    simp only [Option.some.injEq] at h
                    rcases hx with hx | ⟨hx, hx2⟩
                    · subst hx
                      have T1 : Tr C ρ A w ρ (A.set b .dead) w := Tr.upd hr he hbk (fun hp => hp) (.inl rfl) rfl (fun _ _ => rfl) trivial rfl rfl rfl
                      obtain ⟨w', room, k1, k2, k3⟩ := grow_run (A := A.set b .dead) (old := []) (old' := []) (base' := some ⟨en.cb, x, none⟩) (sLen := 0) (sCap := 0) T1.rel hu hux hd hs hb hz hzl hf1 hf2 hsz rfl hlen (by omega) (fun w2 _ => by simp only [Builtin.firstCells, Nat.zero_mul]; rfl) hrn .nil hvn (by simp) hlnew hf ty
                      rw [hnil] at h
                      simp only [growA, Prod.mk.injEq] at h
                      obtain ⟨h1, h2⟩ := h
                      subst h1; subst h2
                      refine ⟨_, _, w', k1, ?_, T1.trans k3⟩
                      have := VR.sliceOpen (ρ := Ren.upd ρ A.size ⟨w.heap.size, 0, room, opn⟩) A.size 0 (0 + n) 0 ⟨w.heap.size, 0, room, opn⟩ Ren.upd_same (by simp) (by simp only; omega)
                      simpa using this
                    · subst hx; subst hx2
                      obtain ⟨ρ', vc, w', k1, k2, k3⟩ := append_end (old' := []) hr hu hux hd hs hb hz hzl hf1 hf2 hsz hlen he hbk hq (by omega) (by omega) hone hvn hrn hlnew (by rw [hnil]; exact .nil) (fun w2 _ => by simp only [Builtin.firstCells, Nat.zero_mul]; rfl) hf ty
                      rw [h] at k2 k3
                      exact ⟨ρ', vc, w', k1, k2, k3⟩
                  · cases h
                · cases h
            · cases h
    · cases h
  · cases h

end
end Go.AS
