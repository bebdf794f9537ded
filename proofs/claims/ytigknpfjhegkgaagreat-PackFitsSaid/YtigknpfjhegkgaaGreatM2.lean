/- Words for stating and walking programs: texts of this claim, one behind the other. -/
import Derived.Test.YtigknpfjhegkgaaGreatM1
import Derived.IntWalk
import Derived.Orders
section
namespace Go.AS
open Go
set_option linter.unusedSimpArgs false
set_option linter.unusedVariables false

section
variable {C : Comp} {ρ : Ren} {A : AHeap} {w : World} {P : Program} {e : Env} {cev : Operand → Value}

theorem run_newRow {el : TypeId} {cs : Array Value} : (newRow el cs).run P w = .ok ⟨w.heap.size, 0, none⟩ { w with heap := w.heap.push (.cells cs el) } := by
  simp only [newRow, newObj, run_bind, Sem.run, run_pure]

theorem heap_push_new {h : Array Obj} {o : Obj} : (h.push o)[h.size]? = some o := by simp

/-- A new block of plain cells. -/
theorem Tr.cells {w' : World} {vs : List Value} {cc : Array Value} {el : TypeId} (h : HRel C ρ A w.heap) (hfree : ρ A.size = none) (hv : VRs ρ vs cc.toList)
    (hh : w'.heap = w.heap.push (.cells cc el)) (ho : w'.os = w.os) (ht : w'.tape = w.tape) (hp : w'.output = w.output) :
    Tr C ρ A w (Ren.upd ρ A.size ⟨w.heap.size, 0, 0, 0⟩) (A.alloc (.cells vs false 0)) w' := by
  refine Tr.alloc (e := ⟨w.heap.size, 0, 0, 0⟩) h hfree rfl hh ?_ ho ht hp
  refine ⟨cc, el, 0, 0, by rw [hh]; exact heap_push_new, by have := hv.length; simp at this ⊢; omega, fun i v hi => ?_, fun _ i _ _ => by omega, fun h0 => absurd rfl h0⟩
  obtain ⟨v', h1, h2⟩ := hv.get hi
  exact ⟨v', by simpa using h1, h2.mono (Ren.le_upd hfree)⟩

/-- A new block with room behind. -/
theorem Tr.openCells {w' : World} {vs : List Value} {vs' : List Value} {cc : Array Value} {el : TypeId} {lo hi room size : Nat} (h : HRel C ρ A w.heap) (hfree : ρ A.size = none) (hv : VRs ρ vs vs')
    (hcc : cc.toList.take vs'.length = vs') (hsz : cc.size = room * size) (hsize : size ≠ 0) (hfr : ∀ i, i < cc.size → ¬ (lo ≤ i ∧ i < hi))
    (hh : w'.heap = w.heap.push (.cells cc el (lo, hi))) (ho : w'.os = w.os) (ht : w'.tape = w.tape) (hp : w'.output = w.output) :
    Tr C ρ A w (Ren.upd ρ A.size ⟨w.heap.size, 0, room, size⟩) (A.alloc (.cells vs false size)) w' := by
  refine Tr.alloc (e := ⟨w.heap.size, 0, room, size⟩) h hfree rfl hh ?_ ho ht hp
  have hle : vs'.length ≤ cc.toList.length := by
    have := congrArg List.length hcc
    simp at this; simp; omega
  refine ⟨cc, el, lo, hi, by rw [hh]; exact heap_push_new, by have := hv.length; simp at hle ⊢; omega, fun i v hi => ?_, fun _ i _ hi => hfr i hi, fun _ => ⟨by have := hv.length; simp at hle ⊢; omega, by simp; omega, rfl, rfl⟩⟩
  obtain ⟨v', h1, h2⟩ := hv.get hi
  refine ⟨v', ?_, h2.mono (Ren.le_upd hfree)⟩
  have hlt : i < vs'.length := by
    rcases Nat.lt_or_ge i vs'.length with q | q
    · exact q
    · rw [List.getElem?_eq_none q] at h1; cases h1
  rw [← hcc, List.getElem?_take_of_lt hlt] at h1
  simpa using h1

theorem VR.oneCell {v v' : Value} (h : VR ρ v v') (h1 : AS.oneCell v = true) : AS.oneCell v' = true := by
  cases h <;> first | rfl | exact h1

/-- Cells of a block written. -/
theorem wrCells_sound (h : HRel C ρ A w.heap) {A' : AHeap} {b o : Nat} {en : REnt} {vs vs' : List Value} (hw : wrCells A b o vs = some A') (he : ρ b = some en) (hv : VRs ρ vs vs') :
    ∃ w', (storeCells ⟨en.cb, en.base + o, none⟩ vs' 0).run P w = .ok () w' ∧ Tr C ρ A w ρ A' w' := by
  unfold wrCells at hw
  split at hw
  · rename_i cs opn hb
    split at hw
    · rename_i hk
      simp only [Bool.and_eq_true, decide_eq_true_eq] at hk
      obtain ⟨hle, hone⟩ := hk
      cases hw
      obtain ⟨cc, el, lo, hi, hh, hsz, hc, hfr, hop⟩ := cells_of h he hb
      have hlen := hv.length
      have hone' : ∀ v ∈ vs', oneCell v = true := by
        intro v hvm
        obtain ⟨i, hi⟩ := List.getElem?_of_mem hvm
        have hlt : i < vs.length := by
          rcases Nat.lt_or_ge i vs.length with q | q
          · exact q
          · rw [List.getElem?_eq_none (by omega)] at hi; cases hi
        obtain ⟨v2, h1, h2⟩ := hv.get (List.getElem?_eq_getElem hlt)
        rw [hi] at h1; cases h1
        have := List.all_eq_true.1 hone _ (List.getElem_mem hlt)
        exact h2.oneCell this
      obtain ⟨w', hr, hw'⟩ := run_storeCells (P := P) en.cb el lo hi vs' w cc (en.base + o) 0 hh hone' (by omega) (fun j h1 h2 => hfr rfl j (by omega) (by omega))
      refine ⟨w', hr, ?_⟩
      have hlt : en.cb < w.heap.size := by
        rcases Nat.lt_or_ge en.cb w.heap.size with q | q
        · exact q
        · rw [Array.getElem?_eq_none q] at hh; cases hh
      refine Tr.upd h he hb (fun hp => hp) (.inr (fun hp => hp)) (by rw [hw']; simp) (fun cb hcb => by rw [hw']; simp [Array.getElem?_setIfInBounds, Ne.symm hcb]) ?_ (by rw [hw']) (by rw [hw']) (by rw [hw'])
      refine ⟨⟨lay cc.toList (en.base + o + 0) vs'⟩, el, lo, hi, ?_, ?_, ?_, ?_, ?_⟩
      · rw [hw']; simp [Array.getElem?_setIfInBounds, hlt]
      · simp [lay_length]; exact hsz
      · intro i v hi2
        rw [lay_get _ _ _ _ hle] at hi2
        have e1 : (⟨lay cc.toList (en.base + o + 0) vs'⟩ : Array Value)[en.base + i]? = (lay cc.toList (en.base + o) vs')[en.base + i]? := by simp
        rw [e1, lay_get _ _ _ _ (by simp; omega)]
        by_cases hio : o ≤ i ∧ i < o + vs.length
        · rw [if_pos hio] at hi2
          rw [if_pos (by omega)]
          rw [show en.base + i - (en.base + o) = i - o by omega]
          exact hv.get hi2
        · rw [if_neg hio] at hi2
          rw [if_neg (by omega)]
          obtain ⟨v', h1, h2⟩ := hc i v hi2
          exact ⟨v', by simpa using h1, h2⟩
      · intro hro i h1 h2
        simp [lay_length] at h2
        exact hfr hro i h1 h2
      · intro h0
        obtain ⟨h0', h1, h2, h3⟩ := hop h0
        exact ⟨by rw [lay_length]; exact h0', by simp only [List.size_toArray, lay_length, Array.length_toList]; exact h1, h2, h3⟩
    · cases hw
  · cases hw

theorem rep_length (n : Nat) (z : List Value) : (rep n z).length = n * z.length := by
  induction n with
  | zero => simp [rep]
  | succ n ih => simp [rep, ih, Nat.succ_mul]; omega

theorem rep_get (n : Nat) (z : List Value) : ∀ i, i < n * z.length → (rep n z)[i]? = z[i % z.length]? := by
  induction n with
  | zero => intro i h; simp at h
  | succ n ih =>
    intro i h
    have hz : 0 < z.length := by
      rcases Nat.eq_zero_or_pos z.length with q | q
      · rw [q] at h; simp at h
      · exact q
    simp only [rep]
    by_cases hi : i < z.length
    · rw [List.getElem?_append_left hi, Nat.mod_eq_of_lt hi]
    · rw [List.getElem?_append_right (by omega), ih _ (by rw [Nat.succ_mul] at h; omega)]
      congr 1
      exact (Nat.mod_eq_sub_mod (by omega)).symm

theorem rep_range (n : Nat) (z : Array Value) : ((Array.range (n * z.size)).map (z[· % z.size]!)).toList = rep n z.toList := by
  apply List.ext_getElem?
  intro i
  by_cases hi : i < n * z.size
  · rw [rep_get _ _ _ (by simpa using hi)]
    have hz : 0 < z.size := by
      rcases Nat.eq_zero_or_pos z.size with q | q
      · rw [q] at hi; simp at hi
      · exact q
    have hm : i % z.size < z.size := Nat.mod_lt _ hz
    simp [hi, hm]
  · rw [List.getElem?_eq_none (by simp; omega), List.getElem?_eq_none (by rw [rep_length]; simp; omega)]

theorem VRs.rep {z z' : List Value} (h : VRs ρ z z') (n : Nat) : VRs ρ (rep n z) (rep n z') := by
  induction n with
  | zero => exact .nil
  | succ n ih => exact h.append ih

end
end Go.AS
end

section
namespace Go.AS
open Go
set_option linter.unusedSimpArgs false
set_option linter.unusedVariables false

section
variable {C : Comp} {ρ : Ren} {A : AHeap} {w : World} {P : Program} {e : Env} {cev : Operand → Value}

theorem nextcap_le (need old : Nat) (h : old < need) : Builtin.nextslicecap need old ≤ 2 * need + 192 := by
  unfold Builtin.nextslicecap
  split
  · omega
  · split
    · omega
    · have key : ∀ r c, c ≤ 2 * need + 192 → Builtin.growBy need r c ≤ 2 * need + 192 := by
        intro r
        induction r with
        | zero => intro c hc; exact hc
        | succ r ih =>
          intro c hc
          simp only [Builtin.growBy]
          split
          · exact hc
          · apply ih; omega
      exact key 4 old (by omega)

theorem run_askRoom {n : Nat} : (askRoom n).run P w = .ok () w := by
  unfold askRoom
  split
  · simp [mark, Sem.run]
  · rfl

/-- An append that found no room. -/
theorem grow_run (hr : HRel C ρ A w.heap) {size bytes n : Nat} {s' x' : Value} {sType xType elem : TypeId} {d : TypeDesc} {base' : Option Addr} {sLen sCap : Nat} {old new old' new' : List Value} {z : List Value}
    (hu : P.underlying sType = some (.slice elem)) (hux : P.underlying xType = some d) (hd : ∀ k, d ≠ .int k) (hs : szOf P elem = some size) (hb : bytesOf P elem = some bytes) (hz : zeroOf P elem = some z) (hzl : z.length = size)
    (hfit : sLen + n ≤ 4294967296) (hbb : bytes ≤ 8192) (hsz : size ≠ 0) (hs' : s' = .slice base' sLen sCap) (hlen : (Builtin.lenOf x').run P w = .ok n w) (hneed : ¬ sLen + n ≤ sCap)
    (ho : ∀ w2 : World, w2.heap = w.heap → (Builtin.firstCells size sLen s').run P w2 = .ok ⟨old'⟩ w2) (hn : ∀ w2 : World, w2.heap = w.heap → (Builtin.firstCells size n x').run P w2 = .ok ⟨new'⟩ w2)
    (hvo : VRs ρ old old') (hvn : VRs ρ new new') (hlo : old.length = sLen * size) (hln : new.length = n * size) (hfree : ρ A.size = none) (ty : TypeId) :
    ∃ w' room, (Builtin.append_ #[sType, xType] ty #[s', x']).run P w = .ok (.slice (some ⟨w.heap.size, 0, none⟩) (sLen + n) room) w' ∧ sLen + n ≤ room ∧
      Tr C ρ A w (Ren.upd ρ A.size ⟨w.heap.size, 0, room, size⟩) (A.alloc (.cells (old ++ new) false size)) w' := by
  unfold bytesOf at hb
  cases hi : P.info? elem with
  | none => rw [hi] at hb; cases hb
  | some inf =>
    rw [hi] at hb
    simp only [Option.map_some, Option.some.injEq] at hb
    obtain ⟨t, ht⟩ : ∃ t, t = w.tape w.drawn (.appendCap (sLen + n) sCap elem) := ⟨_, rfl⟩
    let room := sLen + n + t % (2 ^ 63 - (sLen + n))
    let w1 : World := { w with drawn := w.drawn + 1 }
    have hch : (choose (.appendCap (sLen + n) sCap elem)).run P w = .ok room w1 := by
      simp only [choose, Sem.run, Question.forced, Bool.false_eq_true, if_false, Question.cut, room, w1, ht]
    obtain ⟨v0, hz1, hz2, hz3⟩ := zeroOf_spec (w := w1) (ρ := ρ) hz
    let rest : Array Value := Builtin.zeroCells v0.cells (room - (sLen + n))
    have hzs : v0.cells.size = size := by rw [cells_cl, hz2]; simpa using hzl
    have hrest : rest.size = (room - (sLen + n)) * size := by simp [rest, Builtin.zeroCells, hzs]
    have hcap := nextcap_le (sLen + n) sCap (by omega)
    have hcap2 : ¬ (Builtin.nextslicecap (sLen + n) sCap * inf.bytes > 2 ^ 48) := by
      rw [hb]
      have : Builtin.nextslicecap (sLen + n) sCap * bytes ≤ (2 * 4294967296 + 192) * 8192 := Nat.mul_le_mul (by omega) hbb
      omega
    have hroom : sLen + n ≤ room := by simp only [room]; omega
    refine ⟨{ w1 with heap := w1.heap.push (.cells (⟨old'⟩ ++ ⟨new'⟩ ++ rest) elem) }, room, ?_, hroom, ?_⟩
    · subst hs'
      have hz4 : ¬ ((((sLen + n : Nat) : Int) > IntKind.i64.max ∧ (false = true ∨ inf.bytes = 0))) := by
        intro h
        have : (IntKind.i64.max) = 9223372036854775807 := by rfl
        omega
      simp only [Builtin.append_, List.getElem?_toArray, List.getElem?_cons_zero, List.getElem?_cons_succ, run_bind, run_underlying hu, run_sizeOf hs, run_underlying hux]
      cases d with
      | int k => exact absurd rfl (hd k)
      | _ =>
        simp only [run_pure, Bool.false_eq_true, if_false, hlen, if_neg hneed, run_bind, run_typeInfo hi, false_or]
        rw [if_neg (by intro h; exact hz4 ⟨h.1, .inr h.2⟩)]
        simp only [run_bind, run_typeInfo hi, if_neg hcap2, run_pure, hch, run_askRoom, ho w1 rfl, hn w1 rfl, Bool.not_false, if_true, hz1, run_newRow]
        rfl
    · refine Tr.openCells (w := w) (lo := 0) (hi := 0) (el := elem) (cc := ⟨old'⟩ ++ ⟨new'⟩ ++ rest) (vs' := old' ++ new') hr hfree (hvo.append hvn) ?_ ?_ hsz (fun i _ => by omega) rfl rfl rfl rfl
      · show ((⟨old'⟩ ++ ⟨new'⟩ ++ rest : Array Value).toList).take (old' ++ new').length = old' ++ new'
        rw [Array.toList_append, Array.toList_append]
        exact List.take_left' rfl
      · have h1 := hvo.length
        have h2 := hvn.length
        simp only [Array.size_append, hrest, List.size_toArray, h1, h2, hlo, hln]
        rw [← Nat.add_mul, ← Nat.add_mul]
        congr 1
        omega

/-- An append that finds room. -/
theorem inplace_run {size n : Nat} {s' x' : Value} {sType xType elem : TypeId} {d : TypeDesc} {base' : Option Addr} {sLen sCap : Nat} {new' : List Value}
    (hu : P.underlying sType = some (.slice elem)) (hux : P.underlying xType = some d) (hd : ∀ k, d ≠ .int k) (hs : szOf P elem = some size)
    (hs' : s' = .slice base' sLen sCap) (hlen : (Builtin.lenOf x').run P w = .ok n w) (hneed : sLen + n ≤ sCap)
    (hn : (Builtin.firstCells size n x').run P w = .ok ⟨new'⟩ w) (ty : TypeId) {w' : World}
    (hst : match base' with | some a => (storeCells (a.add (sLen * size)) new').run P w = .ok () w' | none => w' = w) :
    (Builtin.append_ #[sType, xType] ty #[s', x']).run P w = .ok (.slice base' (sLen + n) sCap) w' := by
  subst hs'
  simp only [Builtin.append_, List.getElem?_toArray, List.getElem?_cons_zero, List.getElem?_cons_succ, run_bind, run_underlying hu, run_sizeOf hs, run_underlying hux]
  cases d with
  | int k => exact absurd rfl (hd k)
  | _ =>
    simp only [run_pure, Bool.false_eq_true, if_false, hlen, if_pos hneed, run_bind, Bool.not_false, if_true, hn]
    cases base' with
    | none => simp only at hst; subst hst; rfl
    | some a => simp only [run_bind]; rw [hst]; rfl

theorem firstA_length {size n : Nat} {x : Value} {vs : List Value} (h : firstA A size n x = some vs) (hl : ∀ s : ByteArray, x = .string s → size = 1 ∧ n ≤ s.data.toList.length) (hn : ∀ l c, x = .slice none l c → n = 0) : vs.length = n * size := by
  unfold firstA at h
  split at h
  · cases h; rw [hn _ _ rfl]; simp
  · split at h
    · rename_i h0; cases h; simp [h0]
    · split at h
      · cases h
      · unfold rdCells at h
        split at h
        · split at h
          · cases h; simp only [List.length_take, List.length_drop]; omega
          · cases h
        · cases h
  · rename_i s
    obtain ⟨h1, h2⟩ := hl s rfl
    cases h; subst h1; simp only [List.length_map, List.length_take]; omega
  · cases h

/-- What is read does not hang on how much was drawn. -/
theorem firstA_any (hr : HRel C ρ A w.heap) {size n : Nat} {x x' : Value} {vs : List Value} (h : firstA A size n x = some vs) (hx : VR ρ x x') :
    ∃ vs' : List Value, VRs ρ vs vs' ∧ ∀ w2 : World, w2.heap = w.heap → (Builtin.firstCells size n x').run P w2 = .ok ⟨vs'⟩ w2 := by
  unfold firstA at h
  split at h
  · cases h; cases hx; exact ⟨[], .nil, fun _ _ => rfl⟩
  · rename_i b o l c
    split at h
    · rename_i h0; cases h
      have zero : ∀ (ad : Addr) (c' : Nat), ∃ vs' : List Value, VRs ρ [] vs' ∧ ∀ w2 : World, w2.heap = w.heap → (Builtin.firstCells size n (.slice (some ad) l c')).run P w2 = .ok ⟨vs'⟩ w2 := fun ad c' =>
        ⟨[], .nil, fun _ _ => by simp only [Builtin.firstCells, h0]; rfl⟩
      cases hx <;> exact zero _ _
    · split at h
      · cases h
      · rename_i hce
        have key : ∀ (en : REnt) (c' : Nat), ρ b = some en → ∃ vs' : List Value, VRs ρ vs vs' ∧ ∀ w2 : World, w2.heap = w.heap → (Builtin.firstCells size n (.slice (some ⟨en.cb, en.base + o, none⟩) l c')).run P w2 = .ok ⟨vs'⟩ w2 := by
          intro en c' he
          obtain ⟨vs', h1, h2, h3⟩ := rd_cells hr he h
          refine ⟨vs', h1, fun w2 hw2 => ?_⟩
          simp only [Builtin.firstCells]
          exact run_loadCells h2 (fun j v hj => by have := h3 j v hj; unfold World.cell? at this ⊢; rw [hw2]; exact this)
        cases hx with
        | slice _ _ _ _ en he hc hl => exact key en _ he
        | sliceOpen _ _ _ q en he hq hrm => exact key en _ he
        | sliceEnd => exact absurd rfl hce
  · rename_i s
    cases h
    rw [hx.string_inv]
    refine ⟨(s.data.toList.take n).map fun b => .int .u8 b.toNat, ?_, fun w2 _ => ?_⟩
    · generalize s.data.toList.take n = l
      induction l with
      | nil => exact .nil
      | cons a l ih => exact .cons _ _ _ _ (.int _ _) ih
    · simp only [Builtin.firstCells, run_pure]
      congr 1
      apply Array.ext'
      simp
  · cases h

/-- An append at the end of what is known of a block: with room behind, or without. -/
theorem append_end (hr : HRel C ρ A w.heap) {opn bytes n : Nat} {x' : Value} {sType xType elem : TypeId} {d : TypeDesc} {z : List Value} {b o sLen q : Nat} {en : REnt} {cs new new' old' : List Value}
    (hu : P.underlying sType = some (.slice elem)) (hux : P.underlying xType = some d) (hd : ∀ k, d ≠ .int k) (hs : szOf P elem = some opn) (hb : bytesOf P elem = some bytes) (hz : zeroOf P elem = some z) (hzl : z.length = opn)
    (hf1 : sLen + n ≤ 4294967296) (hf2 : bytes ≤ 8192) (hsz : ¬ opn = 0) (hlen : (Builtin.lenOf x').run P w = .ok n w) (he : ρ b = some en) (hbk : A.get b = some (.cells cs false opn)) (hq : o = q * opn) (hrm : q + sLen ≤ en.room)
    (hend : o + sLen * opn = cs.length) (hone : new.all oneCell = true) (hvn : VRs ρ new new') (hrn : ∀ w2 : World, w2.heap = w.heap → (Builtin.firstCells opn n x').run P w2 = .ok ⟨new'⟩ w2) (hlnew : new.length = n * opn)
    (hvo : VRs ρ (cs.drop o) old') (hro : ∀ w2 : World, w2.heap = w.heap → (Builtin.firstCells opn sLen (.slice (some ⟨en.cb, en.base + o, none⟩) sLen (en.room - q))).run P w2 = .ok ⟨old'⟩ w2) (hf : ρ A.size = none) (ty : TypeId) :
    ∃ ρ' vc w', (Builtin.append_ #[sType, xType] ty #[.slice (some ⟨en.cb, en.base + o, none⟩) sLen (en.room - q), x']).run P w = .ok vc w' ∧
      VR ρ' (growA (A.set b .dead) opn (cs.drop o) new (sLen + n)).1 vc ∧ Tr C ρ A w ρ' (growA (A.set b .dead) opn (cs.drop o) new (sLen + n)).2 w' := by
  obtain ⟨cc, el, lo, hi, hh, hcsz, hc, hfr, hop⟩ := cells_of hr he hbk
  obtain ⟨hop0, hop1, hop2, _⟩ := hop hsz
  simp only [growA]
  by_cases hfits2 : sLen + n ≤ en.room - q
  · have hin : en.base + o + sLen * opn + new'.length ≤ cc.size := by
      have h1 := hvn.length
      have h2 : (q + (sLen + n)) * opn ≤ en.room * opn := Nat.mul_le_mul_right _ (by omega)
      rw [Nat.add_mul, Nat.add_mul] at h2
      rw [hop2] at hop1
      omega
    have hone' : ∀ v ∈ new', oneCell v = true := by
      intro v hvm
      obtain ⟨i, hi⟩ := List.getElem?_of_mem hvm
      have h1 := hvn.length
      have hlt : i < new.length := by
        rcases Nat.lt_or_ge i new.length with q | q
        · exact q
        · rw [List.getElem?_eq_none (by omega)] at hi; cases hi
      obtain ⟨v2, h1, h2⟩ := hvn.get (List.getElem?_eq_getElem hlt)
      rw [hi] at h1; cases h1
      exact h2.oneCell (List.all_eq_true.1 hone _ (List.getElem_mem hlt))
    obtain ⟨w', k1, k2⟩ := run_storeCells (P := P) en.cb el lo hi new' w cc (en.base + o + sLen * opn) 0 hh hone' (by omega) (fun j h1 h2 => hfr rfl j (by omega) (by omega))
    have hlt : en.cb < w.heap.size := by
      rcases Nat.lt_or_ge en.cb w.heap.size with q | q
      · exact q
      · rw [Array.getElem?_eq_none q] at hh; cases hh
    refine ⟨Ren.upd ρ A.size ⟨en.cb, en.base + o, en.room - q, opn⟩, _, w', inplace_run (size := opn) (n := n) (new' := new') hu hux hd hs rfl hlen hfits2 (hrn w rfl) ty (by simp only [add_plain]; exact k1), ?_, ?_⟩
    · have := VR.sliceOpen (ρ := Ren.upd ρ A.size ⟨en.cb, en.base + o, en.room - q, opn⟩) A.size 0 (sLen + n) 0 ⟨en.cb, en.base + o, en.room - q, opn⟩ Ren.upd_same (by simp) (by simp only; omega)
      simpa using this
    · refine Tr.move (e' := ⟨en.cb, en.base + o, en.room - q, opn⟩) hr hf he hbk (fun hp => hp) rfl (by rw [k2]; simp) (fun cb hcb => by rw [k2]; simp [Array.getElem?_setIfInBounds, Ne.symm hcb]) ?_ (by rw [k2]) (by rw [k2]) (by rw [k2])
      refine ⟨⟨lay cc.toList (en.base + o + sLen * opn + 0) new'⟩, el, lo, hi, ?_, ?_, ?_, ?_, ?_⟩
      · rw [k2]; simp [Array.getElem?_setIfInBounds, hlt]
      · have h1 := hvn.length
        simp [lay_length]; omega
      · intro i v hi2
        have h1 := hvn.length
        have e1 : (⟨lay cc.toList (en.base + o + sLen * opn + 0) new'⟩ : Array Value)[en.base + o + i]? = (lay cc.toList (en.base + o + sLen * opn) new')[en.base + o + i]? := by simp
        simp only
        rw [e1, lay_get _ _ _ _ (by simp; omega)]
        by_cases hio : i < (cs.drop o).length
        · rw [List.getElem?_append_left hio, List.getElem?_drop] at hi2
          simp only [List.length_drop] at hio
          rw [if_neg (by omega)]
          obtain ⟨v', h3, h4⟩ := hc (o + i) v hi2
          exact ⟨v', by rw [show en.base + o + i = en.base + (o + i) by omega]; simpa using h3, h4.mono (Ren.le_upd hf)⟩
        · rw [List.getElem?_append_right (by omega)] at hi2
          simp only [List.length_drop] at hio hi2
          have hlt2 : i - (cs.length - o) < new.length := by
            rcases Nat.lt_or_ge (i - (cs.length - o)) new.length with q | q
            · exact q
            · rw [List.getElem?_eq_none q] at hi2; cases hi2
          rw [if_pos (by omega)]
          obtain ⟨v', h3, h4⟩ := hvn.get hi2
          exact ⟨v', by rw [← h3]; congr 1; omega, h4.mono (Ren.le_upd hf)⟩
      · intro hro2 i h1 h2
        simp [lay_length] at h2
        simp only at h1
        exact hfr rfl i (by omega) h2
      · intro _
        have h2 : (q + (sLen + n)) * opn ≤ en.room * opn := Nat.mul_le_mul_right _ (by omega)
        rw [Nat.add_mul, Nat.add_mul] at h2
        rw [hop2] at hop1
        refine ⟨?_, ?_, rfl, rfl⟩
        · simp only [List.length_append, List.length_drop]
          rw [Nat.sub_mul]; omega
        · simp only [lay_length, List.size_toArray, Array.length_toList]
          rw [Nat.sub_mul]; omega
  · have T1 : Tr C ρ A w ρ (A.set b .dead) w := Tr.upd hr he hbk (fun hp => hp) (.inl rfl) rfl (fun _ _ => rfl) trivial rfl rfl rfl
    obtain ⟨w', room, k1, k2, k3⟩ := grow_run (A := A.set b .dead) (old := cs.drop o) T1.rel hu hux hd hs hb hz hzl hf1 hf2 hsz rfl hlen hfits2 hro hrn hvo hvn (by simp; omega) hlnew hf ty
    refine ⟨_, _, w', k1, ?_, T1.trans k3⟩
    have := VR.sliceOpen (ρ := Ren.upd ρ A.size ⟨w.heap.size, 0, room, opn⟩) A.size 0 (sLen + n) 0 ⟨w.heap.size, 0, room, opn⟩ Ren.upd_same (by simp) (by simp only; omega)
    simpa using this

/-- Nothing read. -/
theorem firstA_zero {A : AHeap} {z : Nat} {x : Value} {cs : List Value} (h : firstA A z 0 x = some cs) : cs = [] := by
  unfold firstA at h
  split at h
  all_goals first | (cases h; done) | skip
  all_goals first
    | (split at h <;> first | (cases h; rfl) | (rename_i h0; simp at h0))
    | (cases h; simp)

/-- append -/
theorem appA_sound (hr : HRel C ρ A w.heap) {size bytes : Nat} {s x s' x' v : Value} {A' : AHeap} {sType xType elem : TypeId} {d : TypeDesc} {z : List Value}
    (hu : P.underlying sType = some (.slice elem)) (hux : P.underlying xType = some d) (hd : ∀ k, d ≠ .int k) (hs : szOf P elem = some size) (hb : bytesOf P elem = some bytes) (hz : zeroOf P elem = some z) (hzl : z.length = size)
    (h : appA A size bytes s x = some (v, A')) (hvs : VR ρ s s') (hvx : VR ρ x x') (hfree : ∀ b, A.size ≤ b → b < A'.size → ρ b = none) (ty : TypeId) :
    ∃ ρ' vc w', (Builtin.append_ #[sType, xType] ty #[s', x']).run P w = .ok vc w' ∧ VR ρ' v vc ∧ Tr C ρ A w ρ' A' w' := by
  unfold appA at h
  split at h
  · rename_i base sLen sCap n hln
    have hlen := lenA_sound (P := P) (w := w) hln hvx
    split at h
    · cases h
    rename_i hfit
    simp only [Bool.or_eq_true, Bool.not_eq_true', decide_eq_true_eq, not_or, Bool.not_eq_false, fitsA, Bool.and_eq_true, bne_iff_ne, ne_eq, not_and, Decidable.not_not] at hfit
    obtain ⟨⟨⟨hf1, hf2⟩, hsz⟩, hstr⟩ := hfit
    have hxs : ∀ b, x = .string b → size = 1 := fun b hb => hstr (by rw [hb]; rfl)
    split at h
    · cases h
    rename_i new hnew
    obtain ⟨new', hvn, hrn⟩ := firstA_any (P := P) hr hnew hvx
    have hlnew : new.length = n * size := firstA_length hnew (fun b hb => by subst hb; cases hln; exact ⟨hxs _ rfl, Nat.le_refl _⟩) (fun l c hx => by subst hx; cases hln; cases hvx; rfl)
    have fr : A'.size = A.size + 1 → ρ A.size = none := fun h2 => hfree A.size (Nat.le_refl _) (by omega)
    split at h
    · -- a nil slice
      cases hvs
      split at h
      · rename_i h0
        cases h; subst h0
        refine ⟨ρ, _, w, inplace_run (size := size) (n := 0) (new' := new') hu hux hd hs rfl hlen (by omega) (hrn w rfl) ty rfl, .nils, Tr.refl hr⟩
      · rename_i h0
        split at h
        · rename_i hone
          simp only [growA, Option.some.injEq, Prod.mk.injEq] at h
          obtain ⟨h1, h2⟩ := h
          subst h1; subst h2
          have hf := fr rfl
          obtain ⟨w', room, k1, k2, k3⟩ := grow_run (base' := none) (old := []) (old' := []) (sLen := 0) (sCap := 0) hr hu hux hd hs hb hz hzl hf1 hf2 hsz rfl hlen (by omega) (fun w2 _ => rfl) hrn .nil hvn (by simp) hlnew hf ty
          refine ⟨_, _, w', k1, ?_, k3⟩
          have := VR.sliceOpen (ρ := Ren.upd ρ A.size ⟨w.heap.size, 0, room, size⟩) A.size 0 n 0 ⟨w.heap.size, 0, room, size⟩ Ren.upd_same (by simp) (by simp only; omega)
          simpa using this
        · cases h
    · rename_i b o
      split at h
      · rename_i h0
        cases h; subst h0
        have : ∃ b' c', s' = .slice (some b') sLen c' ∧ sLen ≤ c' := by
          cases hvs with
          | slice _ _ _ _ en he hc hl => exact ⟨_, _, rfl, hl⟩
          | sliceOpen _ _ _ q en he hq hrm => exact ⟨_, _, rfl, by omega⟩
          | sliceEnd => exact ⟨_, _, rfl, by omega⟩
        obtain ⟨b', c', hs', hle⟩ := this
        have hn0 : new' = [] := by
          have := hvn.length
          rw [hlnew, Nat.zero_mul] at this
          exact List.length_eq_zero_iff.1 this
        subst hn0
        exact ⟨ρ, _, w, inplace_run (size := size) (n := 0) (new' := []) hu hux hd hs hs' hlen (by omega) (hrn w rfl) ty rfl, by rw [hs'] at hvs; exact hvs, Tr.refl hr⟩
      · rename_i h0
        split at h
        · rename_i hcap
          cases hvs with
          | sliceOpen => exact absurd hcap (by decide)
          | sliceEnd => exact absurd hcap (by decide)
          | slice _ _ _ _ en he hc hle =>
            split at h
            · rename_i hfits
              cases hw : wrCells A b (o + sLen * size) new with
              | none => rw [hw] at h; cases h
              | some A2 =>
                rw [hw] at h; cases h
                obtain ⟨w', k1, k2⟩ := wrCells_sound (P := P) hr hw he hvn
                refine ⟨ρ, _, w', inplace_run (size := size) (n := n) (new' := new') hu hux hd hs rfl hlen hfits (hrn w rfl) ty (by simp only [add_plain]; rw [Nat.add_assoc]; exact k1), ?_, k2⟩
                exact .slice _ _ _ _ en he hc hfits
            · rename_i hfits
              split at h
              · rename_i old hold
                simp only [growA, Option.some.injEq, Prod.mk.injEq] at h
                obtain ⟨h1, h2⟩ := h
                subst h1; subst h2
                have hf := fr rfl
                obtain ⟨old', hvo, hro⟩ := firstA_any (P := P) hr hold (VR.slice b o sLen sCap en he hc hle)
                obtain ⟨w', room, k1, k2, k3⟩ := grow_run hr hu hux hd hs hb hz hzl hf1 hf2 hsz rfl hlen hfits hro hrn hvo hvn (firstA_length hold (fun s hs => by cases hs) (fun l c hs => by cases hs)) hlnew hf ty
                refine ⟨_, _, w', k1, ?_, k3⟩
                have := VR.sliceOpen (ρ := Ren.upd ρ A.size ⟨w.heap.size, 0, room, size⟩) A.size 0 (sLen + n) 0 ⟨w.heap.size, 0, room, size⟩ Ren.upd_same (by simp) (by simp only; omega)
                simpa using this
              · cases h
        · rename_i hcap
          split at h
          · rename_i hcap'
            cases hvs with
            | slice _ _ _ _ en he hc hle => exact absurd hc hcap
            | sliceEnd => exact absurd hcap' (by decide)
            | sliceOpen _ _ _ q en he hq hrm =>
              split at h
              · rename_i cs opn hbk
                split at h
                · cases h
                rename_i hopn
                have hopn' : opn = size := by simpa using hopn
                subst hopn'
                obtain ⟨cc, el, lo, hi, hh, hcsz, hc, hfr, hop⟩ := cells_of hr he hbk
                obtain ⟨hop0, hop1, hop2, _⟩ := hop hsz
                rw [hop2] at hq
                split at h
                · rename_i hfits
                  cases hw : wrCells A b (o + sLen * opn) new with
                  | none => rw [hw] at h; cases h
                  | some A2 =>
                    rw [hw] at h; cases h
                    have hroom : q + (sLen + n) ≤ en.room := by
                      have : (q + (sLen + n)) * opn ≤ en.room * opn := by rw [Nat.add_mul]; rw [hop2] at hop0; omega
                      exact Nat.le_of_mul_le_mul_right this (by omega)
                    obtain ⟨w', k1, k2⟩ := wrCells_sound (P := P) hr hw he hvn
                    refine ⟨ρ, _, w', inplace_run (size := opn) (n := n) (new' := new') hu hux hd hs rfl hlen (by omega) (hrn w rfl) ty (by simp only [add_plain]; rw [Nat.add_assoc]; exact k1), ?_, k2⟩
                    exact .sliceOpen _ _ _ q en he (by rw [hop2]; exact hq) hroom
                · split at h
                  · rename_i hend
                    simp only [Bool.and_eq_true, decide_eq_true_eq] at hend
                    obtain ⟨hend, hone⟩ := hend
                    have hA : A'.size = A.size + 1 := by
                      simp only [growA, Option.some.injEq, Prod.mk.injEq] at h
                      rw [← h.2]; rfl
                    have hf := fr hA
                    obtain ⟨old', hvo, hro⟩ := firstA_any (P := P) (n := sLen) (size := opn) hr (vs := cs.drop o) (by
                      simp only [firstA]
                      split
                      · rename_i h00
                        have : cs.drop o = [] := List.drop_eq_nil_of_le (by omega)
                        rw [this]
                      · rw [if_neg (by decide)]
                        simp only [rdCells, hbk]
                        rw [if_pos (by omega), List.take_of_length_le (by simp; omega)]) (VR.sliceOpen b o sLen q en he (by rw [hop2]; exact hq) hrm)
                    obtain ⟨ρ', vc, w', k1, k2, k3⟩ := append_end hr hu hux hd hs hb hz hzl hf1 hf2 hsz hlen he hbk hq hrm hend hone hvn hrn hlnew hvo hro hf ty
                    simp only [Option.some.injEq] at h
                    rw [h] at k2 k3
                    exact ⟨ρ', vc, w', k1, k2, k3⟩
                  · cases h
              · cases h
          · rename_i hcap'
            split at h
            · rename_i hcapE
              cases hvs with
              | slice _ _ _ _ en he hc hle => exact absurd hc hcap
              | sliceOpen => exact absurd rfl hcap'
              | sliceEnd _ _ x c q en he hq hrm hx =>
                split at h
                · rename_i cs opn hbk
                  split at h
                  · cases h
                  rename_i hopn
                  have hopn' : opn = size := by simpa using hopn
                  subst hopn'
                  obtain ⟨cc, el, lo, hi, hh, hcsz, hc, hfr, hop⟩ := cells_of hr he hbk
                  obtain ⟨hop0, hop1, hop2, _⟩ := hop hsz
                  rw [hop2] at hq
                  split at h
                  · rename_i hend
                    simp only [Bool.and_eq_true, decide_eq_true_eq] at hend
                    obtain ⟨⟨_, hend⟩, hone⟩ := hend
                    have hA : A'.size = A.size + 1 := by
                      simp only [growA, Option.some.injEq, Prod.mk.injEq] at h
                      rw [← h.2]; rfl
                    have hf := fr hA
                    have hnil : cs.drop o = [] := List.drop_eq_nil_of_le (by omega)
                    simp only [Option.some.injEq] at h
                    rcases hx with hx | ⟨hx, hx2⟩
                    · subst hx
                      have T1 : Tr C ρ A w ρ (A.set b .dead) w := Tr.upd hr he hbk (fun hp => hp) (.inl rfl) rfl (fun _ _ => rfl) trivial rfl rfl rfl
                      obtain ⟨w', room, k1, k2, k3⟩ := grow_run (A := A.set b .dead) (old := []) (old' := []) (base' := some ⟨en.cb, x, none⟩) (sLen := 0) (sCap := 0) T1.rel hu hux hd hs hb hz hzl hf1 hf2 hsz rfl hlen (by omega) (fun w2 _ => by simp only [Builtin.firstCells, Nat.zero_mul]; rfl) hrn .nil hvn (by simp) hlnew hf ty
                      rw [hnil] at h
                      simp only [growA, Prod.mk.injEq] at h
                      obtain ⟨h1, h2⟩ := h
                      subst h1; subst h2
                      refine ⟨_, _, w', k1, ?_, T1.trans k3⟩
                      have := VR.sliceOpen (ρ := Ren.upd ρ A.size ⟨w.heap.size, 0, room, opn⟩) A.size 0 (0 + n) 0 ⟨w.heap.size, 0, room, opn⟩ Ren.upd_same (by simp) (by simp only; omega)
                      simpa using this
                    · subst hx; subst hx2
                      obtain ⟨ρ', vc, w', k1, k2, k3⟩ := append_end (old' := []) hr hu hux hd hs hb hz hzl hf1 hf2 hsz hlen he hbk hq (by omega) (by omega) hone hvn hrn hlnew (by rw [hnil]; exact .nil) (fun w2 _ => by simp only [Builtin.firstCells, Nat.zero_mul]; rfl) hf ty
                      rw [h] at k2 k3
                      exact ⟨ρ', vc, w', k1, k2, k3⟩
                  · cases h
                · cases h
            · cases h
    · cases h
  · cases h

end
end Go.AS
end

section
namespace Go.AS
open Go
set_option linter.unusedSimpArgs false
set_option linter.unusedVariables false

theorem undef_VR0 {ρ : Ren} : VR ρ undef (.tuple #[]) := .tuple _ _ .nil

section
variable {C : Comp} {ρ : Ren} {A : AHeap} {w : World} {P : Program} {e : Env} {cev : Operand → Value}

/-- What an operation of ours says of the machine's. -/
def OpSound (C : Comp) (P : Program) (o : Oper) (cev : Operand → Value) (ρ : Ren) (A : AHeap) (w : World) (v : Value) (A' : AHeap) : Prop :=
  ∃ ρ' nx vc w', (execOp cev o).run P w = .ok nx w' ∧ (nx = .value vc ∨ (nx = .skip ∧ vc = undef)) ∧ VR ρ' v vc ∧ Tr C ρ A w ρ' A' w'

theorem range0 {f : Nat → Value} : (Array.range 0).map f = #[] := by apply Array.ext'; simp

theorem bytes_cells (l : List UInt8) : VRs ρ (l.map fun b => Value.int .u8 b.toNat) (l.map fun b => Value.int .u8 b.toNat) := by
  induction l with
  | nil => exact .nil
  | cons a l ih => exact .cons _ _ _ _ (.int _ _) ih

/-- A map's block, written. -/
theorem Tr.mapUpd (hr : HRel C ρ A w.heap) {b : Nat} {en : REnt} {kk : IntKind} {es es2 : List (Int × Value × Nat)} {c c2 : Nat} {es' es2' : Array MapEntry} (he : ρ b = some en) (hb : A.get b = some (.map kk es c)) (hh : w.heap[en.cb]? = some (.map es' c)) (hm : MR ρ kk es2 es2'.toList) :
    Tr C ρ A w ρ (A.set b (.map kk es2 c2)) { w with heap := w.heap.setIfInBounds en.cb (.map es2' c2) } := by
  have hlt : en.cb < w.heap.size := by
    rcases Nat.lt_or_ge en.cb w.heap.size with q | q
    · exact q
    · rw [Array.getElem?_eq_none q] at hh; cases hh
  refine Tr.upd hr he hb (fun hp => hp) (.inr (fun hp => hp)) (by simp) (fun cb hcb => by simp [Array.getElem?_setIfInBounds, Ne.symm hcb]) ?_ rfl rfl rfl
  exact ⟨es2', by simp [Array.getElem?_setIfInBounds, hlt], hm⟩

theorem mapPut_sound (hr : HRel C ρ A w.heap) {kk : IntKind} {m k x : Operand} {t kt et : TypeId} {v : Value} {A' : AHeap} (hu : P.underlying t = some (.map kt et)) (huk : P.underlying kt = some (.int kk))
    (hm : VR ρ (ev e m) (cev m)) (hk : VR ρ (ev e k) (cev k)) (hx : VR ρ (ev e x) (cev x)) (hq : lop e A (.mapPut kk m k x) = some (v, A')) :
    ∃ w', (Instr.mapUpdate t (cev m) (cev k) (cev x)).run P w = .ok () w' ∧ v = undef ∧ Tr C ρ A w ρ A' w' := by
  simp only [lop] at hq
  split at hq
  · rename_i b kj n hem hek
    split at hq
    · rename_i hkk
      subst hkk
      rw [hem] at hm; rw [hek] at hk
      obtain ⟨en, he, hm'⟩ : ∃ en, ρ b = some en ∧ cev m = .map (some en.cb) := by
        generalize cev m = X at hm; cases hm with
        | map _ en he => exact ⟨en, he, rfl⟩
      have hk' := hk.int_inv
      split at hq
      · rename_i k2 es clock hb
        split at hq
        · rename_i hk2
          subst hk2
          obtain ⟨es', hh, hmr⟩ := hr.blk _ _ _ he hb
          obtain ⟨f1, f2⟩ := findNow_sound (n := n) hmr 0
          split at hq
          · rename_i j u hf
            cases hq
            obtain ⟨v', g1, g2, _, g3⟩ := f2 _ _ hf
            refine ⟨_, ?_, rfl, Tr.mapUpd hr he hb hh (es2' := es'.modify j fun e => { e with key := .int k2 n, val := cev x }) (c2 := clock) (by rw [Array.toList_modify]; exact hmr.modify hx j)⟩
            simp only [Instr.mapUpdate, run_bind, run_underlying hu, run_pure, hm', hk', run_getObjMap hh, run_checkKey huk]
            rw [run_findKey huk g1]
            have hkey : ((es'[j]?).map (·.key)).getD (.int k2 n) = .int k2 n := by
              have : (es'[j]?).map (·.key) = some (.int k2 n) := by rw [← g3]; simp
              rw [this]; rfl
            have hks : (Instr.keyThatStays (.int k2 n) (.int k2 n)).run P w = .ok (.int k2 n) w := by
              have : ∀ m, Instr.sameBits m (.int k2 n) (.int k2 n) = true := fun m => by cases m <;> simp [Instr.sameBits]
              simp only [Instr.keyThatStays, this, if_true, run_pure]
            simp only [run_bind, hkey, hks, run_setObjMap hh]
          · rename_i hf
            cases hq
            have g1 := f1 hf
            refine ⟨_, ?_, rfl, Tr.mapUpd hr he hb hh (es2' := es'.push { key := .int k2 n, val := cev x, born := clock }) (c2 := clock + 1) (by rw [Array.toList_push]; exact hmr.push hx)⟩
            simp only [Instr.mapUpdate, run_bind, run_underlying hu, run_pure, hm', hk', run_getObjMap hh, run_checkKey huk]
            rw [run_findKey huk g1]
            simp only [run_bind, run_setObjMap hh]
        · cases hq
      · cases hq
    · cases hq
  · cases hq

set_option maxHeartbeats 2000000 in
theorem lop_sound {o : Oper} {ao : AOp} {v : Value} {A' : AHeap} (hc : compileOp P o = some ao) (hq : lop e A ao = some (v, A')) (hev : ∀ x ∈ o.op.operands.toList, VR ρ (ev e x) (cev x)) (hr : HRel C ρ A w.heap)
    (hfree : ∀ b, A.size ≤ b → b < A'.size → ρ b = none) : OpSound C P o cev ρ A w v A' := by
  have quiet : ∀ (hl : lop e A ao = (qop e A ao).map fun v => (v, A)), OpSound C P o cev ρ A w v A' := by
    intro hl
    rw [hl] at hq
    cases h : qop e A ao with
    | none => rw [h] at hq; cases hq
    | some u =>
      rw [h] at hq; cases hq
      obtain ⟨vc, h1, h2⟩ := qop_sound hc h hev hr
      exact ⟨ρ, _, vc, w, h1, .inl rfl, h2, Tr.refl hr⟩
  have hc0 := hc
  obtain ⟨dst, op, ty, pos, after, guard⟩ := o
  unfold compileOp at hc
  split at hc
  · cases hc
  rename_i hops0
  have hops : ∀ x ∈ op.operands.toList, x ∈ op.operands.toList := fun _ h => h
  clear hops0
  have fr : A'.size = A.size + 1 → ρ A.size = none := fun h2 => hfree A.size (Nat.le_refl _) (by omega)
  cases op with
  | alloc elem =>
    simp only at hc
    cases h1 : zeroOf P elem with
    | none => rw [h1] at hc; cases hc
    | some z =>
      rw [h1] at hc; cases hc
      cases hq
      obtain ⟨v0, k1, k2, k3⟩ := zeroOf_spec (w := w) (ρ := ρ) h1
      have hf := fr rfl
      refine ⟨_, _, .pointer (some ⟨w.heap.size, 0, none⟩), { w with heap := w.heap.push (.cells v0.cells elem) }, ?_, .inl rfl, ?_, Tr.cells (cc := v0.cells) (el := elem) hr hf (by rw [cells_cl, k2]; exact k3) rfl rfl rfl rfl⟩
      · refine run_v ?_
        simp only [Instr.alloc, run_bind, k1, newVar, run_newRow, run_pure]
      · have := VR.ptr (ρ := Ren.upd ρ A.size ⟨w.heap.size, 0, 0, 0⟩) A.size 0 _ Ren.upd_same
        simpa using this
  | box elem x =>
    simp only at hc
    cases h1 : szOf P elem with
    | none => rw [h1] at hc; cases hc
    | some n =>
      rw [h1] at hc; cases hc
      simp only [lop] at hq
      split at hq
      · cases hq
        have hvx := hev x (hops x (by simp [Op.operands]))
        have hf := fr rfl
        refine ⟨_, _, .pointer (some ⟨w.heap.size, 0, none⟩), { w with heap := w.heap.push (.cells (cev x).cells elem) }, ?_, .inl rfl, ?_, Tr.cells (cc := (cev x).cells) (el := elem) hr hf (by rw [cells_cl]; exact hvx.cl) rfl rfl rfl rfl⟩
        · refine run_v ?_
          simp only [Instr.box, run_bind, newVar, run_newRow, run_pure]
        · have := VR.ptr (ρ := Ren.upd ρ A.size ⟨w.heap.size, 0, 0, 0⟩) A.size 0 _ Ren.upd_same
          simpa using this
      · cases hq
  | buildSlice t len parts =>
    simp only at hc
    split at hc
    · rename_i elem hu
      simp only [Option.bind_eq_bind] at hc
      cases h1 : szOf P elem with
      | none => rw [h1] at hc; cases hc
      | some s =>
        rw [h1] at hc; simp only [Option.bind_some] at hc
        have fin : ∀ (z z' : List Value), VRs ρ z z' → len * s ≤ 16777216 → len ≤ 16777216 → (len * s = 0 ∨ z.length = s) →
            (¬ len * s = 0 → ∃ v0, (zeroValue elem).run P w = .ok v0 w ∧ v0.cells = ⟨z'⟩) → (len * s = 0 → z = []) →
            ao = .bslice elem len z (parts.toList.map fun p => (p.1 * s, s, p.2)) → OpSound C P { dst, op := .buildSlice t len parts, type := ty, pos, after, guard } cev ρ A w v A' := by
          intro z z' hz hle hle2 hzl hzrun hz0 hao
          subst hao
          simp only [lop] at hq
          cases hf : fillP (rep len z) ((parts.toList.map fun p => (p.1 * s, s, p.2)).map fun p => (p.1, p.2.1, ev e p.2.2)) with
          | none => rw [hf] at hq; cases hq
          | some out =>
            rw [hf] at hq; cases hq
            obtain ⟨out', k1, k2⟩ := fill_sound (ρ := ρ) (e := e) (cev := cev) (fun i => some (i * s, s)) parts.toList (parts.toList.map fun p => (p.1 * s, s, p.2)) (by simp)
              (fun i p q hp hq => by rw [List.getElem?_map, hp] at hq; cases hq; exact ⟨rfl, rfl⟩) (fun p hpm => hev p.2 (hops p.2 (List.mem_map.2 ⟨p, hpm, rfl⟩))) (rep len z) (rep len z') out (hz.rep len) hf
            have hfr := fr rfl
            refine ⟨_, _, .slice (some ⟨w.heap.size, 0, none⟩) len len, { w with heap := w.heap.push (.cells out' elem) }, ?_, .inl rfl, ?_, Tr.cells (cc := out') (el := elem) hr hfr k2 rfl rfl rfl rfl⟩
            · refine run_v ?_
              have hnle : ¬ (len * s > 2 ^ 24) := by omega
              have hzl' : z'.length = z.length := hz.length
              have hparts : (parts.map fun x => (x.1, cev x.2)).toList = parts.toList.map fun p => (p.1, cev p.2) := by simp
              by_cases h0 : len * s = 0
              · have hzn := hz0 h0
                subst hzn
                cases hz
                have hrep : rep len [] = [] := by
                  have := rep_length len []
                  simp at this; exact this
                rw [hrep] at k1
                simp only [Instr.buildSlice, run_bind, run_underlying hu, run_sizeOf h1, if_neg hnle, if_pos h0, run_pure]
                rw [h0, hparts]
                rw [range0]
                rw [k1]
                simp only [run_bind, run_newRow, run_pure]
              · obtain ⟨v0, z1, z2⟩ := hzrun h0
                have hzs : z.length = s := hzl.resolve_left h0
                have harr : ((Array.range (len * s)).map ((⟨z'⟩ : Array Value)[· % (⟨z'⟩ : Array Value).size]!)) = ⟨rep len z'⟩ := by
                  apply Array.ext'
                  have := rep_range len ⟨z'⟩
                  simp only [List.size_toArray, hzl', hzs] at this ⊢
                  exact this
                simp only [Instr.buildSlice, run_bind, run_underlying hu, run_sizeOf h1, if_neg hnle, if_neg h0, run_pure, z1, z2]
                rw [harr, hparts, k1]
                simp only [run_bind, run_newRow, run_pure]
            · have hne : len < OPEN := by
                unfold OPEN; omega
              have := VR.slice (ρ := Ren.upd ρ A.size ⟨w.heap.size, 0, 0, 0⟩) A.size 0 len len _ Ren.upd_same hne (Nat.le_refl _)
              simpa using this
        by_cases h0 : len * s = 0
        · rw [if_pos h0] at hc
          by_cases hk : len * s ≤ 16777216 ∧ len ≤ 16777216 ∧ (len * s = 0 ∨ ([] : List Value).length = s)
          · rw [if_pos hk] at hc; cases hc
            exact fin [] [] .nil hk.1 hk.2.1 hk.2.2 (fun h => absurd h0 h) (fun _ => rfl) rfl
          · rw [if_neg hk] at hc; cases hc
        · rw [if_neg h0] at hc
          cases h2 : zeroOf P elem with
          | none => rw [h2] at hc; cases hc
          | some zz =>
            rw [h2] at hc; simp only [Option.bind_some] at hc
            by_cases hk : len * s ≤ 16777216 ∧ len ≤ 16777216 ∧ (len * s = 0 ∨ zz.length = s)
            · rw [if_pos hk] at hc; cases hc
              obtain ⟨v0, k1, k2, k3⟩ := zeroOf_spec (w := w) (ρ := ρ) h2
              exact fin zz zz k3 hk.1 hk.2.1 hk.2.2 (fun _ => ⟨v0, k1, by rw [cells_cl, k2]⟩) (fun h => absurd h h0) rfl
            · rw [if_neg hk] at hc; cases hc
    · cases hc
  | store t a x =>
    simp only at hc
    cases h1 : szOf P t with
    | none => rw [h1] at hc; cases hc
    | some n =>
      rw [h1] at hc; cases hc
      have hva := hev a (hops a (by simp [Op.operands]))
      have hvx := hev x (hops x (by simp [Op.operands]))
      simp only [lop] at hq
      split at hq
      · rename_i b o ha
        rw [ha] at hva
        obtain ⟨en, he, hX⟩ := hva.ptr_inv
        split at hq
        · rename_i hn
          have hlen := hvx.cl.length
          have hcs : ¬ ((cev x).cells.size ≠ n) := by rw [cells_cl]; simp; omega
          have hcl : (cev x).cells.toList = cl (cev x) := cl_cells _
          split at hq
          · rename_i h0
            cases hq
            have hnil : cl (cev x) = [] := List.length_eq_zero_iff.1 (by omega)
            refine ⟨ρ, _, undef, w, ?_, .inr ⟨rfl, rfl⟩, .tuple _ _ .nil, Tr.refl hr⟩
            refine run_u ?_
            simp only [Instr.storeAt, hX, Instr.sureAddr, run_bind, run_pure, storeVar, run_sizeOf h1, if_neg hcs, hcl, hnil]
            rfl
          · cases hw : wrCells A b o (cl (ev e x)) with
            | none => rw [hw] at hq; cases hq
            | some A2 =>
              rw [hw] at hq; cases hq
              obtain ⟨w', k1, k2⟩ := wrCells_sound (P := P) hr hw he hvx.cl
              refine ⟨ρ, _, undef, w', ?_, .inr ⟨rfl, rfl⟩, .tuple _ _ .nil, k2⟩
              refine run_u ?_
              simp only [Instr.storeAt, hX, Instr.sureAddr, run_bind, run_pure, storeVar, run_sizeOf h1, if_neg hcs, hcl]
              exact k1
        · cases hq
      · cases hq
  | makeSlice t l c =>
    simp only at hc
    split at hc
    · rename_i elem hu
      simp only [Option.bind_eq_bind] at hc
      cases h1 : szOf P elem with
      | none => rw [h1] at hc; cases hc
      | some s =>
        rw [h1] at hc; simp only [Option.bind_some] at hc
        cases h2 : bytesOf P elem with
        | none => rw [h2] at hc; cases hc
        | some bb =>
          rw [h2] at hc; simp only [Option.bind_some] at hc
          cases h3 : zeroOf P elem with
          | none => rw [h3] at hc; cases hc
          | some zz =>
            rw [h3] at hc; cases hc
            have hvl := hev l (hops l (by simp [Op.operands]))
            have hvc := hev c (hops c (by simp [Op.operands]))
            simp only [lop] at hq
            split at hq
            · rename_i k1 ln k2 cn hl hcn
              rw [hl] at hvl; rw [hcn] at hvc
              split at hq
              · rename_i hk
                obtain ⟨hk1, hk2, hk3, hk4, hk5⟩ := hk
                cases hq
                have hfr := fr rfl
                obtain ⟨v0, z1, z2, z3⟩ := zeroOf_spec (w := w) (ρ := ρ) h3
                unfold bytesOf at h2
                cases hi : P.info? elem with
                | none => rw [hi] at h2; cases h2
                | some inf =>
                  rw [hi] at h2
                  simp only [Option.map_some, Option.some.injEq] at h2
                  have wl : IntKind.i64.wrap ln = ln := IntWalk.i64_in _ (by omega)
                  have wc : IntKind.i64.wrap cn = cn := IntWalk.i64_in _ (by omega)
                  refine ⟨_, _, .slice (some ⟨w.heap.size, 0, none⟩) ln.toNat cn.toNat, { w with heap := w.heap.push (.cells ⟨rep cn.toNat zz⟩ elem) }, ?_, .inl rfl, ?_, Tr.cells (cc := ⟨rep cn.toNat zz⟩) (el := elem) hr hfr (z3.rep _) rfl rfl rfl rfl⟩
                  · refine run_v ?_
                    have hbig : ((inf.bytes : Int) * cn > 2 ^ 48) = False := by
                      rw [h2]
                      have h5 : cn.toNat ≤ 4294967296 := by omega
                      have h6 : bb * cn.toNat ≤ 8192 * 4294967296 := Nat.mul_le_mul hk4 h5
                      have h7 : ((bb * cn.toNat : Nat) : Int) = (bb : Int) * cn := by
                        rw [Int.natCast_mul]; congr 1; omega
                      simp only [gt_iff_lt, eq_iff_iff, iff_false, Int.not_lt]
                      rw [← h7]; omega
                    have c1 : (decide (cn < 0) || decide ((inf.bytes : Int) * cn > 2 ^ 48) || decide (ln < 0) || decide (ln > cn)) = false := by
                      simp only [hbig, decide_false, Bool.or_false, Bool.or_eq_false_iff, decide_eq_false_iff_not]
                      omega
                    simp only [Instr.makeSlice, run_bind, run_underlying hu, hvl.int_inv, hvc.int_inv, asInt, asIntOf, run_pure, run_typeInfo hi, wl, wc, c1, Bool.false_eq_true, if_false, run_askRoom, run_sizeOf h1]
                    by_cases hn0 : cn.toNat * s = 0
                    · rw [if_pos hn0]
                      simp only [run_pure, run_newRow, run_bind]
                      have hrep : rep cn.toNat zz = [] := by
                        have := rep_length cn.toNat zz
                        rw [hk5, hn0] at this
                        exact List.length_eq_zero_iff.1 this
                      rw [hrep, hn0]
                      rw [range0]
                    · rw [if_neg hn0]
                      simp only [run_bind, z1, run_pure, run_newRow]
                      have := rep_range cn.toNat v0.cells
                      rw [cells_cl, z2] at this ⊢
                      simp only [List.size_toArray, hk5] at this ⊢
                      have e1 : ((Array.range (cn.toNat * s)).map fun x => (⟨zz⟩ : Array Value)[x % s]!) = ⟨rep cn.toNat zz⟩ := by
                        apply Array.ext'
                        exact this
                      rw [e1]
                  · have hne : cn.toNat < OPEN := by unfold OPEN; omega
                    have := VR.slice (ρ := Ren.upd ρ A.size ⟨w.heap.size, 0, 0, 0⟩) A.size 0 ln.toNat cn.toNat _ Ren.upd_same hne (by omega)
                    simpa using this
              · cases hq
            · cases hq
    · cases hc
  | convert src dst' x =>
    simp only at hc
    split at hc
    · cases hc; exact quiet rfl
    · cases hc; exact quiet rfl
    · rename_i el' hs hd
      split at hc
      · rename_i he8
        split at hc
        · rename_i hsz
          cases hc
          have hvx := hev x (hops x (by simp [Op.operands]))
          simp only [lop] at hq
          split at hq
          · rename_i s hx
            rw [hx] at hvx
            cases hq
            have hfr := fr rfl
            obtain ⟨t, ht⟩ : ∃ t, t = w.tape w.drawn (.appendCap s.size 0 el') := ⟨_, rfl⟩
            let room := s.size + t % (2 ^ 63 - s.size)
            let w1 : World := { w with drawn := w.drawn + 1 }
            have hch : (choose (.appendCap s.size 0 el')).run P w = .ok room w1 := by
              simp only [choose, Sem.run, Question.forced, Bool.false_eq_true, if_false, Question.cut, room, w1, ht]
            let cc : Array Value := (s.data.map fun b => .int .u8 b.toNat) ++ Array.replicate (room - s.size) (.int .u8 0)
            have hccs : cc.size = room := by
              have : s.size ≤ room := by simp only [room]; omega
              have h2 : s.data.size = s.size := rfl
              simp only [cc, Array.size_append, Array.size_map, Array.size_replicate, h2]; omega
            have hle : s.data.toList.length ≤ room := by
              have h2 : s.data.toList.length = s.size := rfl
              rw [h2]; simp only [room]; omega
            refine ⟨Ren.upd ρ A.size ⟨w.heap.size, 0, room, 1⟩, _, .slice (some ⟨w.heap.size, 0, none⟩) s.size room, { w1 with heap := w.heap.push (.cells cc el' (cc.size, cc.size + 1)) }, ?_, .inl rfl, ?_, ?_⟩
            · refine run_v ?_
              simp only [convert, run_bind, run_underlying hs, run_underlying hd, run_underlying he8, hvx.string_inv, Conv.stringToBytes, hch, run_newRow]
              have hmk : (markStringish ⟨w1.heap.size, 0, none⟩).run P { w1 with heap := w1.heap.push (.cells cc el') } = .ok () { w1 with heap := w.heap.push (.cells cc el' (cc.size, cc.size + 1)) } := by
                have hget : (w.heap.push (.cells cc el'))[w.heap.size]? = some (.cells cc el') := heap_push_new
                simp only [markStringish, run_bind, shape, Sem.run, World.shape?, w1, hget]
                simp only [freeze, Sem.run, World.freeze, if_neg (show ¬ (1 = 0) by omega)]
                congr 2
                apply Array.ext_getElem?
                intro i
                rw [Array.getElem?_modify, Array.getElem?_push, Array.getElem?_push]
                by_cases hi : i = w.heap.size
                · subst hi; simp
                · rw [if_neg (fun h => hi h.symm), if_neg hi, if_neg hi]
              rw [show ((s.data.map fun b => Value.int .u8 b.toNat) ++ Array.replicate (room - s.size) (.int .u8 0)) = cc from rfl, hmk]
              rfl
            · have := VR.sliceOpen (ρ := Ren.upd ρ A.size ⟨w.heap.size, 0, room, 1⟩) A.size 0 s.data.toList.length 0 _ Ren.upd_same (by simp) (by simp only; omega)
              simpa using this
            · refine Tr.openCells (w := w) (vs' := s.data.toList.map fun b => .int .u8 b.toNat) (cc := cc) (lo := cc.size) (hi := cc.size + 1) (el := el') hr hfr (bytes_cells _) ?_ ?_ (by omega) (fun i hi => by omega) rfl rfl rfl rfl
              · simp only [cc, Array.toList_append, Array.toList_map]
                exact List.take_left' rfl
              · omega
          · cases hq
        · cases hc
      · cases hc
    · split at hc
      · cases hc; exact quiet rfl
      · cases hc
    · cases hc
  | call c =>
    obtain ⟨callee, args, argTypes⟩ := c
    cases callee with
    | value f =>
      cases f with
      | func f =>
        simp only at hc
        split at hc
        · split at hc
          · cases hc
          · cases hc; exact quiet rfl
        · cases hc
      | _ => cases hc; exact quiet rfl
    | invoke r n => cases hc
    | builtin b =>
      cases b with
      | append =>
        simp only at hc
        split at hc
        · rename_i t u s x ht hx
          have hargs : args = #[s, x] := by apply Array.ext'; simpa using hx
          have htys : argTypes = #[t, u] := by apply Array.ext'; simpa using ht
          subst hargs; subst htys
          split at hc
          · rename_i elem d hu hux
            split at hc
            · cases hc
            · rename_i hnd
              simp only [Option.bind_eq_bind] at hc
              cases h1 : szOf P elem with
              | none => rw [h1] at hc; cases hc
              | some z =>
                rw [h1] at hc; simp only [Option.bind_some] at hc
                cases h2 : bytesOf P elem with
                | none => rw [h2] at hc; cases hc
                | some bb =>
                  rw [h2] at hc; simp only [Option.bind_some] at hc
                  cases h3 : zeroOf P elem with
                  | none => rw [h3] at hc; cases hc
                  | some zz =>
                    rw [h3] at hc; simp only [Option.bind_some] at hc
                    by_cases hzz : zz.length = z
                    · rw [if_pos hzz] at hc; cases hc
                      have hvs := hev s (hops s (by simp [Op.operands, Call.operands]))
                      have hvx := hev x (hops x (by simp [Op.operands, Call.operands]))
                      obtain ⟨ρ', vc, w', k1, k2, k3⟩ := appA_sound hr hu hux (fun k hk => by subst hk; exact hnd rfl) h1 h2 h3 hzz hq hvs hvx hfree ty
                      refine ⟨ρ', _, vc, w', ?_, .inl rfl, k2, k3⟩
                      simp only [execOp, resolve, run_bind, run_pure, invoke, builtin]
                      have : (#[s, x].map cev) = #[cev s, cev x] := by simp
                      rw [this, k1]
                    · rw [if_neg hzz] at hc; cases hc
          · cases hc
        · cases hc
      | delete =>
        simp only at hc
        split at hc
        · rename_i t m k ht hmm hkk
          split at hc
          · rename_i kt et hu
            split at hc
            · rename_i kk huk
              cases hc
              have hm := hev m (hops m (by
                simp only [Op.operands, Call.operands]
                have := Array.mem_of_getElem? hmm
                simp [this]))
              have hk := hev k (hops k (by
                simp only [Op.operands, Call.operands]
                have := Array.mem_of_getElem? hkk
                simp [this]))
              have ha0 : (args.map cev)[0]? = some (cev m) := by simp [hmm]
              have ha1 : (args.map cev)[1]? = some (cev k) := by simp [hkk]
              have done : ∀ w', (Builtin.delete_ argTypes ty (args.map cev)).run P w = .ok (.tuple #[]) w' → (execOp cev { dst, op := .call { callee := .builtin .delete, args, argTypes }, type := ty, pos, after, guard }).run P w = .ok (.value (.tuple #[])) w' := by
                intro w' h
                simp only [execOp, resolve, run_bind, run_pure, invoke, builtin, h]
              simp only [lop] at hq
              split at hq
              · rename_i kj n hem hek
                rw [hem] at hm; rw [hek] at hk
                cases hq
                have hm' : cev m = .map none := by generalize cev m = X at hm; cases hm; rfl
                have hk' := hk.int_inv
                refine ⟨ρ, _, .tuple #[], w, done w ?_, .inl rfl, undef_VR0, Tr.refl hr⟩
                have hck : (Instr.checkKey true 10000 kt (.int kj n)).run P w = .ok () w := by
                  show (Instr.checkKey true (9999 + 1) kt (.int kj n)).run P w = .ok () w
                  generalize 9999 = q
                  simp only [Instr.checkKey, run_bind, run_underlying huk, run_pure]
                simp only [Builtin.delete_, ht, ha0, ha1, run_bind, run_underlying hu, run_pure, hm', hk', hck]
              · rename_i b kj n hem hek
                split at hq
                · rename_i hkk
                  subst hkk
                  rw [hem] at hm; rw [hek] at hk
                  obtain ⟨en, he, hm'⟩ : ∃ en, ρ b = some en ∧ cev m = .map (some en.cb) := by
                    generalize cev m = X at hm; cases hm with
                    | map _ en he => exact ⟨en, he, rfl⟩
                  have hk' := hk.int_inv
                  split at hq
                  · rename_i k2 es clock hb
                    split at hq
                    · rename_i hk2
                      subst hk2
                      obtain ⟨es', hh, hmr⟩ := hr.blk _ _ _ he hb
                      obtain ⟨f1, f2⟩ := findNow_sound (n := n) hmr 0
                      split at hq
                      · rename_i j u hf
                        cases hq
                        obtain ⟨v', g1, g2, _, g3⟩ := f2 _ _ hf
                        refine ⟨ρ, _, .tuple #[], _, done _ ?_, .inl rfl, undef_VR0, Tr.mapUpd hr he hb hh (es2' := es'.eraseIdxIfInBounds j) (c2 := clock) (by rw [Array.toList_eraseIdxIfInBounds]; exact hmr.erase j)⟩
                        simp only [Builtin.delete_, ht, ha0, ha1, run_bind, run_underlying hu, run_pure, hm', hk', run_getObjMap hh, run_checkKey huk]
                        rw [run_findKey huk g1]
                        simp only [run_bind, run_setObjMap hh, run_pure]
                      · rename_i hf
                        cases hq
                        have g1 := f1 hf
                        refine ⟨ρ, _, .tuple #[], _, done _ ?_, .inl rfl, undef_VR0, Tr.mapUpd hr he hb hh (es2' := es') (c2 := clock) hmr⟩
                        simp only [Builtin.delete_, ht, ha0, ha1, run_bind, run_underlying hu, run_pure, hm', hk', run_getObjMap hh, run_checkKey huk]
                        rw [run_findKey huk g1]
                        simp only [run_bind, run_setObjMap hh, run_pure]
                    · cases hq
                  · cases hq
                · cases hq
              · cases hq
            · cases hc
          · cases hc
        · cases hc
      | clear =>
        simp only at hc
        split at hc
        · rename_i t s ht hs
          split at hc
          · rename_i elem hu
            cases h1 : zeroOf P elem with
            | none => rw [h1] at hc; cases hc
            | some z =>
              rw [h1] at hc; cases hc
              have hvs := hev s (hops s (by
                simp only [Op.operands, Call.operands]
                have := Array.mem_of_getElem? hs
                simp [this]))
              have ha0 : (args.map cev)[0]? = some (cev s) := by simp [hs]
              obtain ⟨v0, z1, z2, z3⟩ := zeroOf_spec (P := P) (w := w) (ρ := ρ) h1
              simp only [lop] at hq
              generalize hX : ev e s = X at hvs hq
              generalize hY : cev s = Y at hvs ha0
              have done : ∀ w', (Builtin.clear_ argTypes ty (args.map cev)).run P w = .ok (.tuple #[]) w' → (execOp cev { dst, op := .call { callee := .builtin .clear, args, argTypes }, type := ty, pos, after, guard }).run P w = .ok (.value (.tuple #[])) w' := by
                intro w' h
                simp only [execOp, resolve, run_bind, run_pure, invoke, builtin, h]
              split at hq
              · cases hq
                cases hvs
                refine ⟨ρ, _, .tuple #[], w, done w ?_, .inl rfl, undef_VR0, Tr.refl hr⟩
                simp only [Builtin.clear_, ht, ha0, run_bind, run_underlying hu, run_pure]
              · rename_i b o n c
                split at hq
                · rename_i h0
                  cases hq
                  subst h0
                  refine ⟨ρ, _, .tuple #[], w, done w ?_, .inl rfl, undef_VR0, Tr.refl hr⟩
                  cases hvs <;> simp only [Builtin.clear_, ht, ha0, run_bind, run_underlying hu, run_pure]
                · rename_i h0
                  cases hw : wrCells A b o (rep n z) with
                  | none => rw [hw] at hq; cases hq
                  | some A2 =>
                    rw [hw] at hq; cases hq
                    have hD : ∃ en c', ρ b = some en ∧ Y = .slice (some ⟨en.cb, en.base + o, none⟩) n c' := by
                      cases hvs with
                      | slice _ _ _ _ en he hc hl => exact ⟨en, _, he, rfl⟩
                      | sliceOpen _ _ _ q en he hq hrm => exact ⟨en, _, he, rfl⟩
                      | sliceEnd => exact absurd rfl h0
                    obtain ⟨en, c', he, hD⟩ := hD
                    subst hD
                    obtain ⟨w', k1, k2⟩ := wrCells_sound (P := P) hr hw he (z3.rep n)
                    refine ⟨ρ, _, .tuple #[], w', done w' ?_, .inl rfl, undef_VR0, k2⟩
                    have hz : (Builtin.zeroCells v0.cells n).toList = rep n z := by
                      have := rep_range n v0.cells
                      rw [cells_cl, z2] at this
                      unfold Builtin.zeroCells
                      rw [cells_cl, z2]
                      exact this
                    cases n with
                    | zero => exact absurd rfl h0
                    | succ n => 
                      simp only [Builtin.clear_, ht, ha0, run_bind, run_underlying hu, run_pure, z1, hz, k1]
              · cases hq
          · cases hc
        · cases hc
      | copy =>
        simp only at hc
        split at hc
        · rename_i t d s ht hd hs
          split at hc
          · rename_i elem hu
            cases h1 : szOf P elem with
            | none => rw [h1] at hc; cases hc
            | some z =>
              rw [h1] at hc; cases hc
              have hvd := hev d (hops d (by
                simp only [Op.operands, Call.operands]
                have := Array.mem_of_getElem? hd
                simp [this]))
              have hvs := hev s (hops s (by
                simp only [Op.operands, Call.operands]
                have := Array.mem_of_getElem? hs
                simp [this]))
              have ha0 : (args.map cev)[0]? = some (cev d) := by simp [hd]
              have ha1 : (args.map cev)[1]? = some (cev s) := by simp [hs]
              simp only [lop] at hq
              split at hq
              · rename_i base dLen dCap m hdv hm
                have hlen := lenA_sound (P := P) (w := w) hm hvs
                have run : ∀ (base' : Option Addr) (c' : Nat) (cs' : Array Value) (w' : World), cev d = .slice base' dLen c' → (Builtin.firstCells z (min m dLen) (cev s)).run P w = .ok cs' w →
                    (match base' with | some a => (storeCells a cs'.toList).run P w = .ok () w' | none => w' = w) →
                    (execOp cev { dst, op := .call { callee := .builtin .copy, args, argTypes }, type := ty, pos, after, guard }).run P w = .ok (.value (.int .i64 (min m dLen : Nat))) w' := by
                  intro base' c' cs' w' h1' h2' h3'
                  simp only [execOp, resolve, run_bind, run_pure, invoke, builtin, Builtin.copy_, ht, ha0, ha1, run_underlying hu, h1', hlen, run_sizeOf h1]
                  rw [show Nat.min m dLen = min m dLen from rfl, h2']
                  simp only
                  cases base' with
                  | none => simp only at h3' ⊢; subst h3'; rfl
                  | some a => simp only [run_bind] at h3' ⊢; rw [h3']; rfl
                rw [hdv] at hvd
                cases hf : firstA A z (min m dLen) (ev e s) with
                | none => rw [hf] at hq; cases hq
                | some cs =>
                  rw [hf] at hq
                  obtain ⟨cs', k1, k2⟩ := firstA_sound (P := P) hr hf hvs
                  simp only at hq
                  split at hq
                  · rename_i hemp
                    cases hq
                    have hnil : cs'.toList = [] := by
                      have h0 : cs = [] := by simpa using hemp
                      subst h0
                      have := k2.length
                      exact List.length_eq_zero_iff.1 this
                    have hnil2 : ∃ base' c', cev d = .slice base' dLen c' := by
                      generalize cev d = D at hvd
                      cases hvd
                      · exact ⟨_, _, rfl⟩
                      · exact ⟨_, _, rfl⟩
                      · exact ⟨_, _, rfl⟩
                      · exact ⟨_, _, rfl⟩
                    obtain ⟨base', c', hD⟩ := hnil2
                    refine ⟨ρ, _, .int .i64 (min m dLen : Nat), w, run base' c' cs' w hD k1 ?_, .inl rfl, .int _ _, Tr.refl hr⟩
                    cases base' with
                    | none => rfl
                    | some a => simp only [hnil]; rfl
                  · split at hq
                    · rename_i _ b o
                      cases hw : wrCells A b o cs with
                      | none => rw [hw] at hq; cases hq
                      | some A2 =>
                        rw [hw] at hq; cases hq
                        have hD : ∃ en c', ρ b = some en ∧ cev d = .slice (some ⟨en.cb, en.base + o, none⟩) dLen c' := by
                          generalize cev d = D at hvd
                          cases hvd with
                          | slice _ _ _ _ en he hc hl => exact ⟨en, _, he, rfl⟩
                          | sliceOpen _ _ _ q en he hq hrm => exact ⟨en, _, he, rfl⟩
                          | sliceEnd =>
                            rw [Nat.min_zero] at hf
                            have hcs := firstA_zero hf
                            subst hcs
                            exact absurd List.isEmpty_nil (by assumption)
                        obtain ⟨en, c', he, hD⟩ := hD
                        obtain ⟨w', k3, k4⟩ := wrCells_sound (P := P) hr hw he k2
                        exact ⟨ρ, _, .int .i64 (min m dLen : Nat), w', run _ c' cs' w' hD k1 k3, .inl rfl, .int _ _, k4⟩
                    · cases hq
              · cases hq
          · cases hc
        · cases hc
      | len =>
        simp only at hc
        split at hc
        · split at hc
          · cases hc; exact quiet rfl
          · cases hc; exact quiet rfl
          · cases hc; exact quiet rfl
          · split at hc
            · cases hc; exact quiet rfl
            · cases hc
          · cases hc
        · cases hc
      | min => cases hc; exact quiet rfl
      | max => cases hc; exact quiet rfl
      | _ => cases hc
  | load t a =>
    simp only [Option.bind_eq_bind] at hc
    cases hg : aggOf P t with
    | none => rw [hg] at hc; cases hc
    | some g =>
      rw [hg] at hc; simp only [Option.bind_some] at hc
      cases hs : szOf P t with
      | none => rw [hs] at hc; cases hc
      | some s => rw [hs] at hc; cases hc; cases g <;> exact quiet rfl
  | binOp op t x y yt =>
    simp only at hc
    split at hc
    · cases hc; exact quiet rfl
    · cases hc; exact quiet rfl
    · split at hc
      · cases hc
      · cases hl : flat P 20 t with
        | none => rw [hl] at hc; cases hc
        | some l => rw [hl] at hc; cases hc; exact quiet rfl
    · split at hc
      · cases hc
      · cases hl : flat P 20 t with
        | none => rw [hl] at hc; cases hc
        | some l => rw [hl] at hc; cases hc; exact quiet rfl
    · split at hc
      · cases hc
      · cases hl : flat P 20 t with
        | none => rw [hl] at hc; cases hc
        | some l => rw [hl] at hc; cases hc; exact quiet rfl
    · split at hc
      · cases hc
      · cases hl : flat P 20 t with
        | none => rw [hl] at hc; cases hc
        | some l => rw [hl] at hc; cases hc; exact quiet rfl
    · rename_i d _ _ _ _ hd
      cases hk : eqKind d with
      | none => rw [hk] at hc; cases hc
      | some k => rw [hk] at hc; cases hc; exact quiet rfl
    · rename_i d _ _ _ _ hd
      cases hk : eqKind d with
      | none => rw [hk] at hc; cases hc
      | some k => rw [hk] at hc; cases hc; exact quiet rfl
    · cases hc
  | build t parts =>
    simp only [Option.bind_eq_bind] at hc
    cases hp : partsOf P t parts.toList with
    | none => rw [hp] at hc; cases hc
    | some qs =>
      rw [hp] at hc; simp only [Option.bind_some] at hc
      cases hz : zeroOf P t with
      | none => rw [hz] at hc; cases hc
      | some z => rw [hz] at hc; cases hc; exact quiet rfl
  | typeAssert x xt t ok =>
    cases ok with
    | true => cases hc
    | false =>
      simp only at hc
      split at hc
      · cases hc
      · cases hc; exact quiet rfl
      · cases hc
  | makeInterface t x =>
    simp only at hc
    split at hc
    · cases hc
    · cases hc; exact quiet rfl
    · cases hc
  | makeFunc fn first captured =>
    cases fn <;> first | (cases hc; exact quiet rfl) | cases hc
  | slice t x lo hi mx =>
    simp only at hc
    split at hc
    · rename_i n elem hu
      cases hs : szOf P elem with
      | none => rw [hs] at hc; cases hc
      | some s => rw [hs] at hc; cases hc; exact quiet rfl
    · split at hc
      · cases hc
      · cases hc; exact quiet rfl
    · rename_i elem hu
      cases hs : szOf P elem with
      | none => rw [hs] at hc; cases hc
      | some s => rw [hs] at hc; cases hc; exact quiet rfl
    · cases hc
  | fieldAddr t x f =>
    simp only at hc
    split at hc
    · rename_i fields hu
      simp only [Option.bind_eq_bind] at hc
      cases hf : fields[f]? with
      | none => rw [hf] at hc; cases hc
      | some g =>
        rw [hf] at hc; simp only [Option.bind_some] at hc
        cases hs : szOf P g.type with
        | none => rw [hs] at hc; cases hc
        | some s =>
          rw [hs] at hc; simp only [Option.bind_some] at hc
          split at hc
          · cases hc
          · cases hc; exact quiet rfl
    · cases hc
  | field t x f =>
    simp only at hc
    split at hc
    · rename_i fields hu
      simp only [Option.bind_eq_bind] at hc
      cases hf : fields[f]? with
      | none => rw [hf] at hc; cases hc
      | some g =>
        rw [hf] at hc; simp only [Option.bind_some] at hc
        cases hs : szOf P g.type with
        | none => rw [hs] at hc; cases hc
        | some s =>
          rw [hs] at hc; simp only [Option.bind_some] at hc
          cases ha : aggOf P g.type with
          | none => rw [ha] at hc; cases hc
          | some a => rw [ha] at hc; cases hc; cases a <;> exact quiet rfl
    · cases hc
  | indexAddr t x i =>
    simp only at hc
    split at hc
    · rename_i n elem hu
      cases hs : szOf P elem with
      | none => rw [hs] at hc; cases hc
      | some s => rw [hs] at hc; cases hc; exact quiet rfl
    · rename_i elem hu
      cases hs : szOf P elem with
      | none => rw [hs] at hc; cases hc
      | some s => rw [hs] at hc; cases hc; exact quiet rfl
    · cases hc
  | index t x i =>
    simp only at hc
    split at hc
    · rename_i n elem hu
      simp only [Option.bind_eq_bind] at hc
      cases hs : szOf P elem with
      | none => rw [hs] at hc; cases hc
      | some s =>
        rw [hs] at hc; simp only [Option.bind_some] at hc
        cases ha : aggOf P elem with
        | none => rw [ha] at hc; cases hc
        | some a => rw [ha] at hc; cases hc; cases a <;> exact quiet rfl
    · cases hc; exact quiet rfl
    · cases hc
  | move x => cases hc; exact quiet rfl
  | assign x => cases hc; exact quiet rfl
  | pick c a b => cases hc; exact quiet rfl
  | nilCheck x => cases hc; exact quiet rfl
  | unOp op t x => cases hc; exact quiet rfl
  | extract x i => cases hc; exact quiet rfl
  | makeMap t r =>
    simp only at hc
    split at hc
    · rename_i kt et hu
      split at hc
      · rename_i huk
        cases hc
        simp only [lop] at hq
        split at hq
        · rename_i hres
          cases hq
          have hf := fr rfl
          have hle : Ren.le ρ (Ren.upd ρ A.size ⟨w.heap.size, 0, 0, 0⟩) := Ren.le_upd hf
          have T : Tr C ρ A w (Ren.upd ρ A.size ⟨w.heap.size, 0, 0, 0⟩) (A.alloc (.map .i64 [] 0)) { w with heap := w.heap.push (.map #[] 0) } :=
            Tr.alloc (e := ⟨w.heap.size, 0, 0, 0⟩) hr hf rfl rfl ⟨#[], heap_push_new, .nil⟩ rfl rfl rfl
          refine ⟨_, _, .map (some w.heap.size), _, run_v ?_, .inl rfl, .map A.size _ Ren.upd_same, T⟩
          cases r with
          | none => simp only [Instr.makeMap, Option.map_none, run_bind, run_newObj0, run_pure]
          | some r =>
            have hv := hev r (hops r (by simp [Op.operands]))
            simp only [Option.all_some] at hres
            split at hres
            · rename_i kj n hr2
              rw [hr2] at hv
              simp only [Instr.makeMap, Option.map_some, run_bind, run_underlying hu, run_newObj0, run_pure, hv.int_inv, asInt, asIntOf]
            · cases hres
        · cases hq
      · cases hc
    · cases hc
  | mapUpdate t m k x =>
    simp only at hc
    split at hc
    · rename_i kt et hu
      split at hc
      · rename_i kk huk
        cases hc
        obtain ⟨w', h1, h2, h3⟩ := mapPut_sound (P := P) hr hu huk (hev m (hops m (by simp [Op.operands]))) (hev k (hops k (by simp [Op.operands]))) (hev x (hops x (by simp [Op.operands]))) hq
        subst h2
        exact ⟨ρ, _, .tuple #[], w', run_u h1, .inr ⟨rfl, rfl⟩, undef_VR0, h3⟩
      · cases hc
    · cases hc
  | insert t m k x =>
    simp only at hc
    split at hc
    · rename_i kt et hu
      split at hc
      · rename_i kk huk
        cases hc
        obtain ⟨w', h1, h2, h3⟩ := mapPut_sound (P := P) hr hu huk (hev m (hops m (by simp [Op.operands]))) (hev k (hops k (by simp [Op.operands]))) (hev x (hops x (by simp [Op.operands]))) hq
        subst h2
        exact ⟨ρ, _, .tuple #[], w', run_u h1, .inr ⟨rfl, rfl⟩, undef_VR0, h3⟩
      · cases hc
    · cases hc
  | lookup t m k ok =>
    simp only at hc
    split at hc
    · split at hc
      · split at hc
        · split at hc
          · cases hc; exact quiet rfl
          · cases hc
        · cases hc
      · cases hc
    · cases hc
  | _ => cases hc

end
end Go.AS
end

section
namespace Go.AS
open Go
set_option linter.unusedSimpArgs false
set_option linter.unusedVariables false

/-! ## The evaluator -/

inductive AExit where
  | normal
  | exit (id : Nat)
  | ret
  deriving DecidableEq

structure St where
  env : Env
  n : Nat
  dfs : List Nat
  A : AHeap

/-- How a call goes: the function's value (or a yield's), its arguments, the memory. -/
abbrev CallT := Value → List Value → AHeap → Option (Value × AHeap)

def putE (st : St) (dst : Option Nat) (v : Value) (A : AHeap) : Option St :=
  match dst with
  | none => some { st with A := A }
  | some d => if d < st.n then some { st with env := st.env.set d v, A := A } else none

def opVal (call : CallT) (e : Env) (A : AHeap) : AOp → Option (Value × AHeap)
  | .call f args => call (.func (.func f) #[] #[]) (args.map (ev e)) A
  | .callv f args => call (ev e f) (args.map (ev e)) A
  | op => lop e A op

def wantedA (e : Env) : Option (Nat × Bool) → Bool
  | none => true
  | some (t, want) => match e.rd t with | .bool b => b == want | _ => false

def runOp (call : CallT) (o : AOper) (st : St) : Option St :=
  if wantedA st.env o.guard then
    match opVal call st.env st.A o.op with
    | some (v, A) => putE st o.dst v A
    | none => none
  else putE st o.dst undef st.A

def runOps (call : CallT) : List AOper → St → Option St
  | [], st => some st
  | o :: r, st => match runOp call o st with | some st' => runOps call r st' | none => none

/-- The states before each operation, and the last one. -/
def runTrace (call : CallT) : List AOper → St → Option (List St)
  | [], st => some [st]
  | o :: r, st => match runOp call o st with
    | some st' => match runTrace call r st' with | some l => some (st :: l) | none => none
    | none => none

/-- Are two values the same, as far as can be told? -/
def vbeq : Nat → Value → Value → Bool
  | 0, _, _ => false
  | _ + 1, .bool a, .bool b => a == b
  | _ + 1, .int k a, .int j b => decide (k = j) && a == b
  | _ + 1, .string a, .string b => a.data.toList == b.data.toList
  | _ + 1, .pointer none, .pointer none => true
  | _ + 1, .pointer (some a), .pointer (some b) => decide (a = b)
  | _ + 1, .slice a n c, .slice b m d => decide (a = b) && n == m && c == d
  | _ + 1, .map a, .map b => decide (a = b)
  | _ + 1, .nilFunc, .nilFunc => true
  | _ + 1, .nilIface, .nilIface => true
  | n + 1, .iface t a, .iface u b => t == u && vbeq n a b
  | n + 1, .func f ⟨a⟩ ⟨b⟩, .func g ⟨c⟩ ⟨d⟩ => decide (f = g) && vbeqs n a c && vbeqs n b d
  | n + 1, .agg ⟨a⟩, .agg ⟨b⟩ => vbeqs n a b
  | n + 1, .tuple ⟨a⟩, .tuple ⟨b⟩ => vbeqs n a b
  | _, _, _ => false
where
  vbeqs (n : Nat) : List Value → List Value → Bool
    | [], [] => true
    | x :: a, y :: b => vbeq n x y && vbeqs n a b
    | _, _ => false

/-- An operation that only reads gives the same at another state's memory. -/
def chkOk (l : List AOper) (tr : List St) (c : Nat × Nat) : Bool :=
  match l[c.1]?, tr[c.1]?, tr[c.1 + 1]?, tr[c.2]? with
  | some o, some st, some st1, some sts =>
    if wantedA st.env o.guard then
      match o.dst, qop st.env sts.A o.op with
      | some d, some v => vbeq 4 v (st1.env.rd d)
      | _, _ => false
    else true
  | _, _, _, _ => false

def iter (f : St → Option (AExit × St)) : Nat → St → Option (AExit × St)
  | 0, _ => none
  | n + 1, st => match f st with
    | some (.normal, st') => iter f n st'
    | some r => some r
    | none => none

/-- The code that a jump stands for. -/
def jumpOf : AExit → Option (Option Code)
  | .normal => some none
  | .ret => some (some .ret)
  | .exit id => some (some (.exit id))

def exitOf : Option Code → Option AExit
  | none => some .normal
  | some .ret => some .ret
  | some (.exit id) => some (.exit id)
  | _ => none

def envOf (i : Nat) (e : Env) : List Value → Env
  | [] => e
  | v :: r => envOf (i + 1) (e.set i v) r

/-- The end of code that is guarded: what its deferred closure leaves. -/
def finG (st : St) : Option (AExit × St) → Option (AExit × St)
  | some (.exit _, _) => none
  | some (_, sc) => if sc.dfs.isEmpty && st.dfs.isEmpty then some (.ret, { st with A := sc.A }) else none
  | none => none
/-- Where a deferred closure begins: what it has captured, and what it recovers. -/
def envG (cap : List Value) (r y : Nat) (v : Value) : Env := ((envOf 0 .leaf cap).set r v).set y v
/-- What is recovered, behind code that was guarded (an exit of a great number: a panic with the value of a slot). -/
def valG : AExit → St → Option Value
  | .exit id, st => if 1000000 ≤ id then (match st.env.rd (id - 1000000) with | .iface t v => some (.iface t v) | _ => none) else none
  | _, _ => some .nilIface
def capsG (fc : FuncId) : Value → Option (List Value)
  | .func (.func g) ⟨[]⟩ ⟨cap⟩ => if g = fc then some cap else none
  | _ => none

def execC (call : CallT) (fn : FuncId) (ctx : Option Nat) (n : Nat) : ACode → St → Option (AExit × St)
  | .skip, st => some (.normal, st)
  | .ops l, st => (runOps call l st).map fun st => (.normal, st)
  | .opsD l chk, st => match runTrace call l st with
    | some tr => if chk.all (chkOk l tr) then (tr.getLast?).map fun st => (.normal, st) else none
    | none => none
  | .seq a b, st => match execC call fn ctx n a st with
    | some (.normal, st') => execC call fn ctx n b st'
    | r => r
  | .cond c a b, st => match ev st.env c with
    | .bool true => execC call fn ctx n a st
    | .bool false => execC call fn ctx n b st
    | _ => none
  | .block id a, st => match execC call fn ctx n a st with
    | some (.exit id', st') => if id' = id then some (.normal, st') else some (.exit id', st')
    | r => r
  | .loop a, st => iter (execC call fn ctx n a) n st
  | .exit id, st => some (.exit id, st)
  | .ret, st => some (.ret, st)
  | .rangeFunc f params assign body, st =>
    let go (st : St) (d : Nat) : Option (AExit × St) :=
      let l := st.A.size
      let A1 := st.A.alloc (.loop .ready none fn st.n st.env params assign body d)
      match call (ev st.env f) [.func (.yield l) #[] #[]] A1 with
      | some (_, A2) => match A2.get l with
        | some (.loop s p f' n' e' ps a' b' d') => if s = .busy then none else
          match exitOf p with
          | some x => some (x, { st with A := A2.set l (.loop .exhausted p f' n' e' ps a' b' d') })
          | none => none
        | _ => none
      | none => none
    match ctx with
    | none => go { st with A := st.A.alloc (.dfr false), dfs := st.A.size :: st.dfs } st.A.size
    | some l0 => match st.A.get l0 with
      | some (.loop _ _ _ _ _ _ _ _ d) => go st d
      | _ => none
  | .guarded fc d nc r y clos inner, st => match capsG fc (st.env.rd d) with
    | some cap => match execC call fn ctx n inner st with
      | some (x, st1) => match valG x st1 with
        | some v => if cap.length ≤ nc ∧ r < nc ∧ y < nc then finG st1 (execC call fc none n clos { env := envG cap r y v, n := nc, dfs := [], A := st1.A }) else none
        | none => none
      | none => none
    | none => none

structure AFunc where
  n : Nat
  nargs : Nat
  results : List (Nat ⊕ (Nat × Nat × Bool))     -- a slot; or an address's slot, how many cells, whether an aggregate
  body : ACode
  deriving Inhabited

def resA (e : Env) (A : AHeap) : Nat ⊕ (Nat × Nat × Bool) → Option Value
  | .inl t => some (e.rd t)
  | .inr (t, n, agg) => match e.rd t with
    | .pointer (some ⟨b, o, none⟩) => if agg then (if n = 0 then some (.agg #[]) else (rdCells A b o n).map fun cs => .agg ⟨cs⟩) else rdCell A b o
    | _ => none

def resultsA (e : Env) (A : AHeap) : List (Nat ⊕ (Nat × Nat × Bool)) → Option (List Value)
  | [] => some []
  | r :: rs => match resA e A r, resultsA e A rs with
    | some v, some vs => some (v :: vs)
    | _, _ => none

def tupleA : List Value → Value
  | [v] => v
  | vs => .tuple ⟨vs⟩

/-- The deferred marks taken, one behind the other. -/
def unwindA : List Nat → AHeap → Option AHeap
  | [], A => some A
  | d :: r, A => match A.get d with
    | some (.dfr false) => unwindA r (A.set d (.dfr true))
    | _ => none

abbrev FTab := Nat → Option AFunc

def callN (T : FTab) : Nat → CallT
  | 0 => fun _ _ _ => none
  | n + 1 => fun v args A =>
    match v with
    | .func (.func f) ⟨first⟩ ⟨captured⟩ =>
      match T f with
      | some fn =>
        let as := first ++ args ++ captured
        if as.length = fn.nargs ∧ fn.nargs ≤ fn.n then
          match execC (callN T n) f none n fn.body { env := envOf 0 .leaf as, n := fn.n, dfs := [], A := A } with
          | some (x, st) => match x with
            | .exit _ => none
            | _ => match unwindA st.dfs st.A with
              | some A2 => match resultsA st.env A2 fn.results with
                | some vs => some (tupleA vs, A2)
                | none => none
              | none => none
          | none => none
        else none
      | none => none
    | .func (.yield l) _ _ =>
      match A.get l with
      | some (.loop .ready p f k e params assign body d) =>
        if args.length = params.length ∧ params.all (fun t => decide (t < k)) = true then
          let e' := (params.zip args).foldl (fun e ta => e.set ta.1 ta.2) e
          match execC (callN T n) f (some l) n assign { env := e', n := k, dfs := [], A := A } with
          | some (.normal, st) =>
            match st.A.get l with
            | some (.loop .ready p' f' k' e' params' assign' body' d') =>
              match execC (callN T n) f (some l) n body { st with A := st.A.set l (.loop .busy p' f' k' e' params' assign' body' d') } with
              | some (x, st2) => match st2.A.get l with
                | some (.loop _ _ f k e params assign body d) =>
                  match jumpOf x with
                  | some j => some (.bool j.isNone, st2.A.set l (.loop (if j.isNone then .ready else .done) j f k e params assign body d))
                  | none => none
                | _ => none
              | none => none
            | _ => none
          | _ => none
        else none
      | _ => none
    | _ => none

/-! ## Code of ours out of the machine's -/
def compileOper (P : Program) (ops : Array Oper) (o : Oper) : Option AOper :=
  match compileOp P o with
  | none => none
  | some a =>
    match o.guard with
    | none => some { dst := o.dst, guard := none, op := a }
    | some (j, want) => match (ops[j]?).bind (·.dst) with
      | some d => some { dst := o.dst, guard := some (d, want), op := a }
      | none => none

def compileOps (P : Program) (ops : Array Oper) : Option (List AOper) := ops.toList.mapM (compileOper P ops)

/-! ### Regions that draw their order -/
def kindA : AOp → Nat
  | .load1 _ | .loadN _ _ | .cvB2S _ | .sliceV _ _ _ _ _ | .mapGet _ _ _ _ _ => 1
  | .alloc _ _ | .box _ _ _ | .bslice _ _ _ _ | .mkS _ _ _ _ _ _ | .cvS2B _ _ | .mkMap _ => 2
  | .spec2 _ _ _ _ | .store _ _ _ | .append _ _ _ _ _ | .copy _ _ _ | .clear _ _ | .mapPut _ _ _ _ | .mapDel _ _ _ | .call _ _ | .callv _ _ => 3
  | _ => 0

def maskD (acc : List Nat) (o : Oper) : Nat :=
  o.after.toList.foldl (fun s e => if Region.binds .any e then s ||| 2 ^ e.on ||| acc.getD e.on 0 else s) 0

def masksD : List Oper → List Nat → List Nat
  | [], acc => acc
  | o :: r, acc => masksD r (acc ++ [maskD acc o])

def tmpsOf (l : List Operand) : List Nat := l.filterMap fun x => match x with | .tmp t => some t | _ => none

def namesD (o : Oper) (a : AOper) : List Nat := o.dst.toList ++ tmpsOf o.op.operands.toList ++ (a.guard.map (·.1)).toList

def ordD (m : List Nat) (i j : Nat) : Bool := (m.getD j 0).testBit i

def backD (os : List Oper) : Bool := os.zipIdx.all fun p => p.1.after.toList.all fun e => !Region.binds .any e || decide (e.on < p.2)

def pairD (m : List Nat) (os : List Oper) (as : List AOper) (i j : Nat) : Bool :=
  match os[i]?, as[i]?, os[j]?, as[j]? with
  | some oi, some ai, some oj, some aj =>
    let clash := oi.dst.toList.any (fun d => (namesD oj aj).contains d) || oj.dst.toList.any (fun d => (namesD oi ai).contains d) || (kindA ai.op == 3 && kindA aj.op == 3)
    !clash || ordD m i j
  | _, _, _, _ => false

def chksD (m : List Nat) (as : List AOper) : List (Nat × Nat) :=
  (List.range as.length).flatMap fun j => match as[j]? with
    | some aj => if kindA aj.op == 1 then
        (List.range as.length).flatMap fun l => match as[l]? with
          | some al => if kindA al.op == 3 && !(if l < j then ordD m l j else ordD m j l) then [(j, l), (j, l + 1)] else []
          | none => []
      else []
    | none => []

def certD (os : List Oper) (as : List AOper) : Option (List (Nat × Nat)) :=
  let m := masksD os []
  if backD os && (List.range os.length).all (fun j => (List.range j).all fun i => pairD m os as i j) then some (chksD m as) else none

/-- Code that we do not follow: whoever comes to it has no answer. -/
def stuckC : ACode := .ops [{ dst := none, guard := none, op := .min [] }]

def compileC (P : Program) : Code → Option ACode
  | .skip => some .skip
  | .label _ => some .skip
  | .region _ ops false => match compileOps P ops with
    | some as => some (.ops as)
    | none => some stuckC
  | .region _ ops true => match compileOps P ops with
    | some as => match certD ops.toList as with
      | some chk => some (.opsD as chk)
      | none => some stuckC
    | none => some stuckC
  | .seq a b => do let x ← compileC P a; let y ← compileC P b; some (.seq x y)
  | .cond c a b => if okOp c then do let x ← compileC P a; let y ← compileC P b; some (.cond c x y) else none
  | .block id a => do let x ← compileC P a; some (.block id x)
  | .scope a => compileC P a
  | .loop a => do let x ← compileC P a; some (.loop x)
  | .exit id => some (.exit id)
  | .ret => some .ret
  | .rangeFunc f params assign body => if okOp f then do let x ← compileC P assign; let y ← compileC P body; some (.rangeFunc f params.toList x y) else none
  | _ => some stuckC

def compileF (P : Program) (f : Func) : Option AFunc := do
  let b ← f.body
  let c ← compileC P b
  let rs ← f.results.toList.mapM fun r => match r with
    | .tmp t => some (.inl t)
    | .cell a t => do let g ← aggOf P t; let s ← szOf P t; some (.inr (a, s, g))
  some { n := f.ntmps, nargs := f.params.size + f.nfree, results := rs, body := c }

end Go.AS
end

section
namespace Go.AS
open Go
set_option linter.unusedSimpArgs false
set_option linter.unusedVariables false

/-! ## Frames -/

def fat (b : Frame) (a : Act) (todo : List Item) : Frame := { b with tmps := a.tmps, todo := todo, defers := a.defers ++ b.defers, mode := .run }

theorem fat_eval (b : Frame) (a : Act) (todo : List Item) : (fat b a todo).eval = a.eval := by
  funext x; cases x <;> rfl

section
variable {P : Program} {b : Frame} {a : Act} {k : List Item} {cs : List Frame} {w : World} {ops : Array Oper}

theorem st_skip : step P (lone (fat b a (.code .skip :: k)) cs w) = .next (lone (fat b a k) cs w) := step_lone_go (by simp [stepG, stepG.exec, fat])
theorem st_label {l : Nat} : step P (lone (fat b a (.code (.label l) :: k)) cs w) = .next (lone (fat b a k) cs w) := step_lone_go (by simp [stepG, stepG.exec, fat])
theorem st_inBlock {id : Nat} : step P (lone (fat b a (.inBlock id :: k)) cs w) = .next (lone (fat b a k) cs w) := step_lone_go (by simp [stepG, stepG.exec, fat])
theorem st_inScope {c : Code} : step P (lone (fat b a (.inScope c :: k)) cs w) = .next (lone (fat b a k) cs w) := step_lone_go (by simp [stepG, stepG.exec, fat])
theorem st_seq {x y : Code} : step P (lone (fat b a (.code (.seq x y) :: k)) cs w) = .next (lone (fat b a (.code x :: .code y :: k)) cs w) := step_lone_go (by simp [stepG, stepG.exec, fat])
theorem st_block {id : Nat} {c : Code} : step P (lone (fat b a (.code (.block id c) :: k)) cs w) = .next (lone (fat b a (.code c :: .inBlock id :: k)) cs w) := step_lone_go (by simp [stepG, stepG.exec, fat])
theorem st_scope {c : Code} : step P (lone (fat b a (.code (.scope c) :: k)) cs w) = .next (lone (fat b a (.code c :: .inScope c :: k)) cs w) := step_lone_go (by simp [stepG, stepG.exec, fat])
theorem st_loop {c : Code} : step P (lone (fat b a (.code (.loop c) :: k)) cs w) = .next (lone (fat b a (.code c :: .inLoop c :: k)) cs w) := step_lone_go (by simp [stepG, stepG.exec, fat])
theorem st_inLoop {c : Code} : step P (lone (fat b a (.inLoop c :: k)) cs w) = .next (lone (fat b a (.code c :: .inLoop c :: k)) cs w) := step_lone_go (by simp [stepG, stepG.exec, fat])
theorem st_cond {c : Operand} {x y : Code} {t : Bool} (h : a.eval c = .bool t) : step P (lone (fat b a (.code (.cond c x y) :: k)) cs w) = .next (lone (fat b a (.code (if t then x else y) :: k)) cs w) :=
  step_lone_go (by
    have := congrFun (fat_eval b a (.code (.cond c x y) :: k)) c
    simp only [fat] at this
    simp [stepG, stepG.exec, fat, this, h])
theorem st_exit {id : Nat} {k' : List Item} (h : exitTo id k = some k') : step P (lone (fat b a (.code (.exit id) :: k)) cs w) = .next (lone (fat b a k') cs w) :=
  step_lone_go (by simp [stepG, stepG.exec, fat, h])
theorem st_region {id : Nat} : step P (lone (fat b a (.code (.region id ops false) :: k)) cs w) = .next (lone (fat b a (.inRegion ops (List.range ops.size) :: k)) cs w) :=
  step_lone_go (by simp [stepG, stepG.exec, fat])
theorem st_regionDraw {id : Nat} : step P (lone (fat b a (.code (.region id ops true) :: k)) cs w) =
    .next (lone (fat b a (.inRegion ops (Region.schedule (P.follows .mixedOrders) ops (w.tape w.drawn (.order b.fn id))) :: k)) cs { w with drawn := w.drawn + 1 }) :=
  step_lone_go (by simp [stepG, stepG.exec, fat, choose, Sem.run, Question.forced, Question.cut])
theorem st_regionEnd : step P (lone (fat b a (.inRegion ops [] :: k)) cs w) = .next (lone (fat b a k) cs w) := step_lone_go (by simp [stepG, stepG.exec, fat])

theorem finish_fat (o : Oper) (i : Nat) (rest : List Nat) (v : Value) (ho : ops[i]? = some o) : (fat b a (.inRegion ops (i :: rest) :: k)).finish v = fat b (a.put o.dst v) (.inRegion ops rest :: k) := by
  cases hd : o.dst <;> simp [Frame.finish, fat, Act.put, ho, hd]

theorem st_opSkip {i : Nat} {rest : List Nat} {o : Oper} (ho : ops[i]? = some o) (h : Region.wanted o (yielded ops a.tmps) = false) :
    step P (lone (fat b a (.inRegion ops (i :: rest) :: k)) cs w) = .next (lone (fat b (a.put o.dst undef) (.inRegion ops rest :: k)) cs w) := by
  rw [← finish_fat o i rest undef ho]
  exact step_lone_go (by simp [stepG, stepG.exec, fat, ho, h])

/-- An operation that runs by itself. -/
theorem st_op {i : Nat} {rest : List Nat} {o : Oper} {nx : Next} {v : Value} {w' : World} (ho : ops[i]? = some o) (hw : Region.wanted o (yielded ops a.tmps) = true) (hd : ∀ c, o.op ≠ .defer c)
    (hr : (execOp a.eval o).run P w = .ok nx w') (hn : nx = .value v ∨ (nx = .skip ∧ v = undef)) :
    step P (lone (fat b a (.inRegion ops (i :: rest) :: k)) cs w) = .next (lone (fat b (a.put o.dst v) (.inRegion ops rest :: k)) cs w') := by
  rw [← finish_fat o i rest v ho]
  have he := fat_eval b a (.inRegion ops (i :: rest) :: k)
  simp only [fat] at he
  apply step_lone_go
  obtain ⟨dst, op, ty, pos, after, guard⟩ := o
  have key : (stepG.apply P true (fat b a (.inRegion ops (i :: rest) :: k)) cs none (execOp a.eval ⟨dst, op, ty, pos, after, guard⟩) w).bare =
      .go { frame := (fat b a (.inRegion ops (i :: rest) :: k)).finish v, callers := cs, status := .running, dying := none } w' := by
    rcases hn with rfl | ⟨rfl, rfl⟩ <;> simp [stepG.apply, hr]
  rw [← key]
  cases op with
  | defer c => exact absurd rfl (hd c)
  | _ => simp [stepG, stepG.exec, stepG.oper, Frame.oper?, fat, ho, hw, he]

/-- An operation that enters a function. -/
theorem st_enter {i : Nat} {rest : List Nat} {o : Oper} {f : FuncId} {args : Array Value} {w' : World} (ho : ops[i]? = some o) (hw : Region.wanted o (yielded ops a.tmps) = true) (hd : ∀ c, o.op ≠ .defer c)
    (hr : (execOp a.eval o).run P w = .ok (.enter f args) w') :
    step P (lone (fat b a (.inRegion ops (i :: rest) :: k)) cs w) = .next (lone (Frame.enter P f args .normal) (fat b a (.inRegion ops (i :: rest) :: k) :: cs) w') := by
  have he := fat_eval b a (.inRegion ops (i :: rest) :: k)
  simp only [fat] at he
  apply step_lone_go
  obtain ⟨dst, op, ty, pos, after, guard⟩ := o
  have key : (stepG.apply P true (fat b a (.inRegion ops (i :: rest) :: k)) cs none (execOp a.eval ⟨dst, op, ty, pos, after, guard⟩) w).bare =
      .go { frame := Frame.enter P f args .normal, callers := fat b a (.inRegion ops (i :: rest) :: k) :: cs, status := .running, dying := none } w' := by
    simp [stepG.apply, hr, fat]
  rw [← key]
  cases op with
  | defer c => exact absurd rfl (hd c)
  | _ => simp [stepG, stepG.exec, stepG.oper, Frame.oper?, fat, ho, hw, he]

theorem st_round {i : Nat} {rest : List Nat} {o : Oper} {l : Nat} {f : FuncId} {tmps : Array Value} {assign body : Code} {w' : World} (ho : ops[i]? = some o) (hw : Region.wanted o (yielded ops a.tmps) = true) (hd : ∀ c, o.op ≠ .defer c)
    (hr : (execOp a.eval o).run P w = .ok (.round l f tmps assign body) w') :
    step P (lone (fat b a (.inRegion ops (i :: rest) :: k)) cs w) = .next (lone (Frame.round l f tmps assign body .normal) (fat b a (.inRegion ops (i :: rest) :: k) :: cs) w') := by
  have he := fat_eval b a (.inRegion ops (i :: rest) :: k)
  simp only [fat] at he
  apply step_lone_go
  obtain ⟨dst, op, ty, pos, after, guard⟩ := o
  have key : (stepG.apply P true (fat b a (.inRegion ops (i :: rest) :: k)) cs none (execOp a.eval ⟨dst, op, ty, pos, after, guard⟩) w).bare =
      .go { frame := Frame.round l f tmps assign body .normal, callers := fat b a (.inRegion ops (i :: rest) :: k) :: cs, status := .running, dying := none } w' := by
    simp [stepG.apply, hr]
  rw [← key]
  cases op with
  | defer c => exact absurd rfl (hd c)
  | _ => simp [stepG, stepG.exec, stepG.oper, Frame.oper?, fat, ho, hw, he]
end

/-! ## What a call does, said of the machine -/

/-- A call of a function's value, entered and left. -/
def CRuns (P : Program) (c : Frame) (cs : List Frame) (fv : Value) (args : List Value) (w : World) (v : Value) (w' : World) : Prop :=
  ∃ d, (Deferred.ofValue fv ⟨args⟩).run P w = .ok d w ∧
    ((∃ f as, (invoke d.target d.args).run P w = .ok (.enter f as) w ∧ Steps P (lone (Frame.enter P f as .normal) (c :: cs) w) (lone (c.finish v) cs w')) ∨
     (∃ l f tmps assign body, (invoke d.target d.args).run P w = .ok (.round l f tmps assign body) w ∧ Steps P (lone (Frame.round l f tmps assign body .normal) (c :: cs) w) (lone (c.finish v) cs w')))

/-- The first blocks stand for the program's own variables. -/
abbrev CompOf (P : Program) : Comp := ⟨fun c ac => compileC P c = some ac, 8⟩
def ren0 : Ren := fun b => if b < 8 then some ⟨b, 0, 0, 0⟩ else none
theorem ren0_glob : ∀ g, g < 8 → ren0 g = some ⟨g, 0, 0, 0⟩ := fun g hg => if_pos hg
theorem ren0_free : ∀ b, 8 ≤ b → ren0 b = none := fun b hb => if_neg (by omega)

/-- A call, said of both. -/
def CallSem (P : Program) (fv : Value) (args : List Value) (A : AHeap) (v : Value) (A' : AHeap) : Prop :=
  ∀ (ρ : Ren) (w : World) (cfv : Value) (cargs : List Value), VR ρ fv cfv → VRs ρ args cargs → HRel (CompOf P) ρ A w.heap → (∀ n, A.size ≤ n → n < A'.size → ρ n = none) →
    ∀ c cs, ∃ ρ' vc w', CRuns P c cs cfv cargs w vc w' ∧ VR ρ' v vc ∧ Tr (CompOf P) ρ A w ρ' A' w'

def CallSound (P : Program) (call : CallT) : Prop := ∀ fv args A v A', call fv args A = some (v, A') → A.size ≤ A'.size ∧ CallSem P fv args A v A'

end Go.AS
end

section
namespace Go.AS
open Go
set_option linter.unusedSimpArgs false
set_option linter.unusedVariables false

section
variable {P : Program} {ρ : Ren} {A : AHeap} {w : World} {e : Env} {a : Act} {ops : Array Oper} {call : CallT}

def EnvR (ρ : Ren) (e : Env) (a : Act) : Prop := ∀ t, VR ρ (e.rd t) (a.tmps.getD t undef)

theorem EnvR.mono {ρ' : Ren} (h : EnvR ρ e a) (hle : Ren.le ρ ρ') : EnvR ρ' e a := fun t => (h t).mono hle

theorem EnvR.ev (h : EnvR ρ e a) (hg : ∀ g, g < 8 → ρ g = some ⟨g, 0, 0, 0⟩) (x : Operand) (hx : okOp x = true) : VR ρ (ev e x) (a.eval x) := by
  cases x with
  | tmp t => exact h t
  | const v => exact plainV_VR hx
  | global g => exact .ptr g 0 _ (hg g (of_decide_eq_true hx))
  | func f => exact .func f _ _ _ _ .nil .nil

theorem EnvR.put (h : EnvR ρ e a) {d : Nat} {v vc : Value} (hd : d < a.tmps.size) (hv : VR ρ v vc) : EnvR ρ (e.set d v) (a.put (some d) vc) := by
  intro t
  have e1 : Env.rd (Trie.set e d v) t = if t = d then v else e.rd t := by
    unfold Env.rd; rw [Trie.get_set]; split <;> rfl
  rw [e1]
  simp only [Act.put, Array.getD_eq_getD_getElem?, Array.getElem?_setIfInBounds]
  by_cases ht : t = d
  · subst ht; rw [if_pos rfl, if_pos rfl, if_pos hd]; exact hv
  · rw [if_neg ht, if_neg (fun q => ht q.symm)]
    have := h t
    rwa [Array.getD_eq_getD_getElem?] at this

theorem EnvR.put_none (h : EnvR ρ e a) (v : Value) : EnvR ρ e (a.put none v) := h

theorem put_size (d : Option Nat) (v : Value) : (a.put d v).tmps.size = a.tmps.size := by cases d <;> simp [Act.put]
theorem put_defers (d : Option Nat) (v : Value) : (a.put d v).defers = a.defers := by cases d <;> rfl

theorem wanted_eq {o : Oper} {ao : AOper} (hc : compileOper P ops o = some ao) (h : EnvR ρ e a) : Region.wanted o (yielded ops a.tmps) = wantedA e ao.guard := by
  unfold compileOper at hc
  split at hc
  · cases hc
  · split at hc
    · rename_i hg
      cases hc
      simp [Region.wanted, hg, wantedA]
    · rename_i j want hg
      split at hc
      · rename_i d hd
        cases hc
        simp only [Region.wanted, hg, wantedA, yielded, hd, Option.bind_some]
        have hv := h d
        rw [Array.getD_eq_getD_getElem?] at hv
        cases ht : a.tmps[d]? with
        | none =>
          rw [ht] at hv
          simp only [Option.getD_none, undef] at hv
          generalize hX : e.rd d = X at hv
          cases hv
          rfl
        | some x =>
          rw [ht] at hv
          simp only [Option.getD_some] at hv
          generalize hX : e.rd d = X at hv
          cases hv <;> first | rfl | simp
      · cases hc

theorem compileOper_op {o : Oper} {ao : AOper} (hc : compileOper P ops o = some ao) : compileOp P o = some ao.op ∧ ao.dst = o.dst := by
  unfold compileOper at hc
  split at hc
  · cases hc
  · rename_i x hx
    split at hc
    · cases hc; exact ⟨hx, rfl⟩
    · split at hc
      · cases hc; exact ⟨hx, rfl⟩
      · cases hc

theorem compileOp_nodefer {o : Oper} {ao : AOp} (hc : compileOp P o = some ao) : ∀ c, o.op ≠ .defer c := by
  intro c h
  obtain ⟨dst, op, ty, pos, after, guard⟩ := o
  simp only at h
  subst h
  unfold compileOp at hc
  split at hc
  · cases hc
  · cases hc

theorem compileOp_ok {o : Oper} {ao : AOp} (hc : compileOp P o = some ao) : ∀ x ∈ o.op.operands.toList, okOp x = true := by
  unfold compileOp at hc
  split at hc
  · cases hc
  · rename_i hops
    intro x hx
    simp only [Bool.not_eq_true, Bool.not_eq_false', List.all_eq_true] at hops
    exact hops x hx

set_option maxHeartbeats 1000000 in
theorem compileOp_call {o : Oper} {f : FuncId} {args : List Operand} (hc : compileOp P o = some (.call f args)) : ∃ c, o.op = .call c ∧ c.callee = .value (.func f) ∧ args = c.args.toList := by
  obtain ⟨dst, op, ty, pos, after, guard⟩ := o
  unfold compileOp at hc
  split at hc
  · cases hc
  split at hc
  all_goals first
    | (simp [Option.bind_eq_some_iff] at hc; done)
    | skip
  all_goals (try ((repeat' split at hc) <;> first | (simp [Option.bind_eq_some_iff] at hc; done) | skip))
  all_goals first
    | (cases hc; exact ⟨_, by assumption, rfl, rfl⟩)
    | (exfalso
       simp only [Option.bind_eq_bind, Option.bind_eq_some_iff] at hc
       obtain ⟨s, _, h2⟩ := hc
       (repeat' split at h2) <;> simp [Option.bind_eq_some_iff] at h2)

set_option maxHeartbeats 1000000 in
theorem compileOp_callv {o : Oper} {f : Operand} {args : List Operand} (hc : compileOp P o = some (.callv f args)) : ∃ c, o.op = .call c ∧ c.callee = .value f ∧ args = c.args.toList := by
  obtain ⟨dst, op, ty, pos, after, guard⟩ := o
  unfold compileOp at hc
  split at hc
  · cases hc
  split at hc
  all_goals first
    | (simp [Option.bind_eq_some_iff] at hc; done)
    | skip
  all_goals (try ((repeat' split at hc) <;> first | (simp [Option.bind_eq_some_iff] at hc; done) | skip))
  all_goals first
    | (cases hc; exact ⟨_, by assumption, rfl, rfl⟩)
    | (exfalso
       simp only [Option.bind_eq_bind, Option.bind_eq_some_iff] at hc
       obtain ⟨s, _, h2⟩ := hc
       (repeat' split at h2) <;> simp [Option.bind_eq_some_iff] at h2)

/-- What one operation of a region does, wherever it stands. -/
def OpSteps (P : Program) (ops : Array Oper) (o : Oper) (a : Act) (w : World) (vc : Value) (w' : World) (b : Frame) (i : Nat) (rest : List Nat) (k : List Item) (cs : List Frame) : Prop :=
  ops[i]? = some o → Region.wanted o (yielded ops a.tmps) = true →
    Steps P (lone (fat b a (.inRegion ops (i :: rest) :: k)) cs w) (lone (fat b (a.put o.dst vc) (.inRegion ops rest :: k)) cs w')

theorem call_steps {o : Oper} {c : Call} {f : Operand} {v : Value} {w' : World} (ho : o.op = .call c) (hf : c.callee = .value f) {b : Frame} {i : Nat} {rest : List Nat} {k : List Item} {cs : List Frame} (h : CRuns P (fat b a (.inRegion ops (i :: rest) :: k)) cs (a.eval f) (c.args.toList.map a.eval) w v w') : OpSteps P ops o a w v w' b i rest k cs := by
  intro hi hw
  obtain ⟨d, h1, h2⟩ := h
  have hd : ∀ c, o.op ≠ .defer c := by rw [ho]; intro c h; cases h
  have hres : (resolve a.eval c o.type).run P w = .ok d w := by
    unfold resolve
    rw [hf]
    simp only
    rw [← map_arr] 
    exact h1
  have hex : ∀ nx w2, (invoke d.target d.args).run P w = .ok nx w2 → (execOp a.eval o).run P w = .ok nx w2 := by
    intro nx w2 h
    obtain ⟨dst, op, ty, pos, after, guard⟩ := o
    simp only at ho
    subst ho
    simp only [execOp, run_bind]
    rw [hres]
    exact h
  rw [← finish_fat o i rest v hi]
  rcases h2 with ⟨f', as, h3, h4⟩ | ⟨l, f', tmps, assign, body, h3, h4⟩
  · exact Steps.head (st_enter hi hw hd (hex _ _ h3)) h4
  · exact Steps.head (st_round hi hw hd (hex _ _ h3)) h4

theorem val_steps (hcs : CallSound P call) {o : Oper} {ao : AOp} {v : Value} {A' : AHeap} (hc : compileOp P o = some ao) (h : opVal call e A ao = some (v, A')) (hE : ∀ x ∈ o.op.operands.toList, VR ρ (ev e x) (a.eval x)) (hr : HRel (CompOf P) ρ A w.heap)
    (hfree : ∀ n, A.size ≤ n → n < A'.size → ρ n = none) (b : Frame) (i : Nat) (rest : List Nat) (k : List Item) (cs : List Frame) : ∃ ρ' vc w', OpSteps P ops o a w vc w' b i rest k cs ∧ VR ρ' v vc ∧ Tr (CompOf P) ρ A w ρ' A' w' := by
  have simple : lop e A ao = some (v, A') → ∃ ρ' vc w', OpSteps P ops o a w vc w' b i rest k cs ∧ VR ρ' v vc ∧ Tr (CompOf P) ρ A w ρ' A' w' := by
    intro h
    obtain ⟨ρ', nx, vc, w', h1, h2, h3, h4⟩ := lop_sound (C := CompOf P) (cev := a.eval) hc h hE hr hfree
    exact ⟨ρ', vc, w', fun hi hw => Steps.one (st_op hi hw (compileOp_nodefer hc) h1 h2), h3, h4⟩
  have calls : ∀ (c : Call) (f : Operand), o.op = .call c → c.callee = .value f → call (ev e f) (c.args.toList.map (ev e)) A = some (v, A') → ∃ ρ' vc w', OpSteps P ops o a w vc w' b i rest k cs ∧ VR ρ' v vc ∧ Tr (CompOf P) ρ A w ρ' A' w' := by
    intro c f ho hf hcall
    rw [ho] at hE
    have has : VRs ρ (c.args.toList.map (ev e)) (c.args.toList.map a.eval) := VRs.map fun x hx => hE x (by simp only [Op.operands, Call.operands, hf]; simp only [Array.toList_append, List.mem_append]; exact .inr hx)
    obtain ⟨ρ', vc, w', h1, h2, h3⟩ := (hcs _ _ _ _ _ hcall).2 ρ w (a.eval f) _ (hE f (by simp [Op.operands, Call.operands, hf])) has hr hfree (fat b a (.inRegion ops (i :: rest) :: k)) cs
    exact ⟨ρ', vc, w', call_steps ho hf h1, h2, h3⟩
  cases ao with
  | call f args =>
    obtain ⟨c, h1, h2, h3⟩ := compileOp_call hc
    subst h3
    exact calls c (.func f) h1 h2 h
  | callv f args =>
    obtain ⟨c, h1, h2, h3⟩ := compileOp_callv hc
    subst h3
    exact calls c f h1 h2 h
  | _ => exact simple h

theorem opVal_size (hcs : CallSound P call) {ao : AOp} {v : Value} {A' : AHeap} (h : opVal call e A ao = some (v, A')) : A.size ≤ A'.size := by
  cases ao with
  | call f args => exact (hcs _ _ _ _ _ h).1
  | callv f args => exact (hcs _ _ _ _ _ h).1
  | _ => simp only [opVal] at h; exact lop_size h

theorem putE_A {st st' : St} {d : Option Nat} {v : Value} {A' : AHeap} (h : putE st d v A' = some st') : st'.A = A' := by
  unfold putE at h
  split at h
  · cases h; rfl
  · split at h
    · cases h; rfl
    · cases h

theorem runOp_size (hcs : CallSound P call) {ao : AOper} {st st' : St} (h : runOp call ao st = some st') : st.A.size ≤ st'.A.size := by
  unfold runOp at h
  split at h
  · split at h
    · rename_i v A' hv
      rw [putE_A h]; exact opVal_size hcs hv
    · cases h
  · rw [putE_A h]; exact Nat.le_refl _

theorem runOps_size (hcs : CallSound P call) {aos : List AOper} : ∀ {st st' : St}, runOps call aos st = some st' → st.A.size ≤ st'.A.size := by
  induction aos with
  | nil => intro st st' h; cases h; exact Nat.le_refl _
  | cons ao aos ih =>
    intro st st' h
    simp only [runOps] at h
    split at h
    · rename_i st1 h1
      exact Nat.le_trans (runOp_size hcs h1) (ih h)
    · cases h

/-- One operation, its value put into its slot. -/
theorem runOp_steps (hcs : CallSound P call) {o : Oper} {ao : AOper} (hco : compileOper P ops o = some ao) {st st' : St} (h : runOp call ao st = some st') (hE : EnvR ρ st.env a) (hn : a.tmps.size = st.n) (hr : HRel (CompOf P) ρ st.A w.heap)
    (hfree : ∀ n, st.A.size ≤ n → n < st'.A.size → ρ n = none) :
    ∀ b i rest k cs, ops[i]? = some o → ∃ ρ' a' w', Steps P (lone (fat b a (.inRegion ops (i :: rest) :: k)) cs w) (lone (fat b a' (.inRegion ops rest :: k)) cs w') ∧
      EnvR ρ' st'.env a' ∧ a'.tmps.size = st'.n ∧ st'.n = st.n ∧ a'.defers = a.defers ∧ st'.dfs = st.dfs ∧ Tr (CompOf P) ρ st.A w ρ' st'.A w' := by
  intro b i rest k cs hi
  obtain ⟨hc, hdst⟩ := compileOper_op hco
  have hw := wanted_eq hco hE
  unfold runOp at h
  have put : ∀ {ρ' : Ren} {v vc : Value} {A' : AHeap}, putE st ao.dst v A' = some st' → EnvR ρ' st.env a → VR ρ' v vc → EnvR ρ' st'.env (a.put o.dst vc) ∧ (a.put o.dst vc).tmps.size = st'.n ∧ st'.n = st.n ∧ st'.dfs = st.dfs ∧ st'.A = A' := by
    intro ρ' v vc A' hp hE' hv
    rw [hdst] at hp
    unfold putE at hp
    cases ho : o.dst with
    | none => rw [ho] at hp; cases hp; exact ⟨hE', hn, rfl, rfl, rfl⟩
    | some d =>
      rw [ho] at hp
      simp only at hp
      split at hp
      · rename_i hd
        cases hp
        exact ⟨hE'.put (by rw [hn]; exact hd) hv, by rw [put_size]; exact hn, rfl, rfl, rfl⟩
      · cases hp
  split at h
  · rename_i hwt
    cases hv : opVal call st.env st.A ao.op with
    | none => rw [hv] at h; cases h
    | some r =>
      obtain ⟨v, A'⟩ := r
      rw [hv] at h
      simp only at h
      have hA : st'.A = A' := by
        unfold putE at h
        split at h
        · cases h; rfl
        · split at h
          · cases h; rfl
          · cases h
      obtain ⟨ρ', vc, w', h1, h2, h3⟩ := val_steps hcs hc hv (fun x hx => hE.ev hr.glob x (compileOp_ok hc x hx)) hr (by rw [← hA]; exact hfree) b i rest k cs
      obtain ⟨p1, p2, p3, p4, p5⟩ := put h (hE.mono h3.mono) h2
      exact ⟨ρ', a.put o.dst vc, w', h1 hi (by rw [hw]; exact hwt), p1, p2, p3, put_defers _ _, p4, by rw [hA]; exact h3⟩
  · rename_i hwt
    obtain ⟨p1, p2, p3, p4, p5⟩ := put h hE (.tuple _ _ .nil : VR ρ undef undef)
    exact ⟨ρ, a.put o.dst undef, w, Steps.one (st_opSkip hi (by rw [hw]; simpa using hwt)), p1, p2, p3, put_defers _ _, p4, by rw [p5]; exact Tr.refl hr⟩

/-- A row of operations, in the order of the text. -/
theorem runOps_steps (hcs : CallSound P call) (os : List Oper) : ∀ (aos : List AOper) (i : Nat) (st st' : St) (ρ : Ren) (a : Act) (w : World), os.mapM (compileOper P ops) = some aos → (∀ j o, os[j]? = some o → ops[i + j]? = some o) →
    runOps call aos st = some st' → EnvR ρ st.env a → a.tmps.size = st.n → HRel (CompOf P) ρ st.A w.heap → (∀ n, st.A.size ≤ n → n < st'.A.size → ρ n = none) →
    ∀ b rest k cs, ∃ ρ' a' w', Steps P (lone (fat b a (.inRegion ops (List.range' i os.length ++ rest) :: k)) cs w) (lone (fat b a' (.inRegion ops rest :: k)) cs w') ∧
      EnvR ρ' st'.env a' ∧ a'.tmps.size = st'.n ∧ st'.n = st.n ∧ a'.defers = a.defers ∧ st'.dfs = st.dfs ∧ Tr (CompOf P) ρ st.A w ρ' st'.A w' := by
  induction os with
  | nil =>
    intro aos i st st' ρ a w hm _ h hE hn hr _ b rest k cs
    cases hm; cases h
    exact ⟨ρ, a, w, Steps.refl _ _, hE, hn, rfl, rfl, rfl, Tr.refl hr⟩
  | cons o os ih =>
    intro aos i st st' ρ a w hm hget h hE hn hr hfree b rest k cs
    simp only [List.mapM_cons, Option.bind_eq_bind, Option.pure_def] at hm
    cases h1 : compileOper P ops o with
    | none => rw [h1] at hm; cases hm
    | some ao =>
      rw [h1] at hm; simp only [Option.bind_some] at hm
      cases h2 : os.mapM (compileOper P ops) with
      | none => rw [h2] at hm; cases hm
      | some aos2 =>
        rw [h2] at hm; cases hm
        simp only [runOps] at h
        cases h3 : runOp call ao st with
        | none => rw [h3] at h; cases h
        | some st1 =>
          rw [h3] at h; simp only at h
          have hs1 := runOp_size hcs h3
          have hs2 := runOps_size hcs h
          have hi : ops[i]? = some o := by simpa using hget 0 o rfl
          obtain ⟨ρ1, a1, w1, e1, e2, e3, e4, e5, e6, e7⟩ := runOp_steps hcs h1 h3 hE hn hr (fun n a b => hfree n a (by omega)) b i (List.range' (i + 1) os.length ++ rest) k cs hi
          obtain ⟨ρ2, a2, w2, f1, f2, f3, f4, f5, f6, f7⟩ := ih aos2 (i + 1) st1 st' ρ1 a1 w1 h2 (fun j o' hj => by have := hget (j + 1) o' (by simpa using hj); rw [← this]; congr 1; omega) h e2 e3 e7.rel
            (fun n a b => by
              cases hρ : ρ1 n with
              | none => rfl
              | some en =>
                have h0 := hfree n (by omega) b
                have := e7.fresh n h0 (by rw [hρ]; simp)
                omega) b rest k cs
          refine ⟨ρ2, a2, w2, ?_, f2, f3, f4.trans e4, f5.trans e5, f6.trans e6, e7.trans f7⟩
          rw [List.length_cons, List.range'_succ]
          exact e1.trans f1

end
end Go.AS
end

section
namespace Go.AS
open Go
set_option linter.unusedSimpArgs false
set_option linter.unusedVariables false

section
variable {P : Program} {ρ : Ren} {A : AHeap} {w : World} {e : Env} {a : Act} {ops : Array Oper} {call : CallT} {b : Frame} {k : List Item} {cs : List Frame}

def DfR (ρ : Ren) : List Nat → List Deferred → Prop
  | [], [] => True
  | id :: r, d :: s => (∃ e, ρ id = some e ∧ d = { target := .collected e.cb, args := #[] }) ∧ DfR ρ r s
  | _, _ => False

theorem DfR.mono {ρ' : Ren} (hle : Ren.le ρ ρ') : ∀ {l : List Nat} {ds : List Deferred}, DfR ρ l ds → DfR ρ' l ds
  | [], [], _ => trivial
  | _ :: _, _ :: _, ⟨⟨e, h1, h2⟩, h3⟩ => ⟨⟨e, hle _ _ h1, h2⟩, DfR.mono hle h3⟩
  | [], _ :: _, h => h.elim
  | _ :: _, [], h => h.elim

structure StR (ρ : Ren) (st : St) (a : Act) : Prop where
  env : EnvR ρ st.env a
  n : a.tmps.size = st.n
  dfs : DfR ρ st.dfs a.defers

def RoundR (ρ : Ren) (ctx : Option Nat) (b : Frame) : Prop :=
  match ctx with
  | none => b.roundOf = none
  | some l => ∃ e, ρ l = some e ∧ b.roundOf = some e.cb

theorem RoundR.mono {ρ' : Ren} (hle : Ren.le ρ ρ') {ctx : Option Nat} (h : RoundR ρ ctx b) : RoundR ρ' ctx b := by
  cases ctx with
  | none => exact h
  | some l => obtain ⟨e, h1, h2⟩ := h; exact ⟨e, hle _ _ h1, h2⟩

/-- Where code comes to. -/
def Lands (P : Program) (m : Machine) (b : Frame) (k : List Item) (cs : List Frame) (x : AExit) (a : Act) (w : World) : Prop :=
  match x with
  | .normal => Steps P m (lone (fat b a k) cs w)
  | .exit id => ∃ k1, (∀ k2, exitTo id (k1 ++ k2) = exitTo id k2) ∧ Steps P m (lone (fat b a (.code (.exit id) :: (k1 ++ k))) cs w)
  | .ret => ∃ todo, Steps P m (lone (fat b a (.code .ret :: todo)) cs w)

theorem Lands.of_steps {m m1 : Machine} {x : AExit} (h : Steps P m m1) (h' : Lands P m1 b k cs x a w) : Lands P m b k cs x a w := by
  cases x with
  | normal => exact h.trans h'
  | exit id => obtain ⟨k1, h1, h2⟩ := h'; exact ⟨k1, h1, h.trans h2⟩
  | ret => obtain ⟨t, h2⟩ := h'; exact ⟨t, h.trans h2⟩

/-- An item on top that lets jumps pass. -/
theorem Lands.pass {m : Machine} {x : AExit} {i : Item} (hx : x ≠ .normal) (hi : ∀ id k2, x = .exit id → exitTo id (i :: k2) = exitTo id k2) (h : Lands P m b (i :: k) cs x a w) : Lands P m b k cs x a w := by
  cases x with
  | normal => exact absurd rfl hx
  | exit id =>
    obtain ⟨k1, h1, h2⟩ := h
    refine ⟨k1 ++ [i], fun k2 => ?_, by simpa using h2⟩
    rw [List.append_assoc, h1]; exact hi id k2 rfl
  | ret => exact h

/-- What code does, said of both. -/
def SExec (P : Program) (fn : FuncId) (ctx : Option Nat) (c : Code) (st : St) (x : AExit) (st' : St) : Prop :=
  ∀ (ρ : Ren) (a : Act) (w : World) (b : Frame), b.fn = fn → StR ρ st a → HRel (CompOf P) ρ st.A w.heap → (∀ n, st.A.size ≤ n → n < st'.A.size → ρ n = none) → RoundR ρ ctx b →
    ∀ k cs, ∃ ρ' a' w', Lands P (lone (fat b a (.code c :: k)) cs w) b k cs x a' w' ∧ StR ρ' st' a' ∧ Tr (CompOf P) ρ st.A w ρ' st'.A w'

/-! ### Loops over a function: the machine's steps -/
theorem run_newObj {o : Obj} : (newObj o).run P w = .ok w.heap.size { w with heap := w.heap.push o } := by
  simp [newObj, Sem.run]

theorem run_getObj {r : Nat} {o : Obj} (h : w.heap[r]? = some o) (hn : ∀ c t f, o ≠ .cells c t f) : (getObj r).run P w = .ok o w := by
  cases o with
  | cells c t f => exact absurd rfl (hn c t f)
  | _ => simp only [getObj, Sem.run, h]

theorem run_setObj {r : Nat} {o o' : Obj} (h : w.heap[r]? = some o) (hn : ∀ c t f, o ≠ .cells c t f) : (setObj r o').run P w = .ok () { w with heap := w.heap.setIfInBounds r o' } := by
  cases o with
  | cells c t f => exact absurd rfl (hn c t f)
  | _ => simp only [setObj, Sem.run, h]

theorem run_getLoop {l : Nat} {r : Loop} (h : w.heap[l]? = some (.loop r)) : (Instr.getLoop l).run P w = .ok r w := by
  simp only [Instr.getLoop, run_bind, run_getObj h (fun _ _ _ => by simp), run_pure]

theorem st_range {f : Operand} {params : Array Tmp} {assign body : Code} {l : Nat} {mark : List Deferred} {w1 : World} {d : Deferred} {nx : Next} {m : Machine}
    (h1 : (Instr.enterLoop b.fn a.tmps params assign body b.roundOf).run P w = .ok (l, mark) w1)
    (h2 : (Deferred.ofValue (a.eval f) #[.func (.yield l) #[] #[]]).run P w1 = .ok d w1) (h3 : (invoke d.target d.args).run P w1 = .ok nx w1)
    (h4 : (∃ g as, nx = .enter g as ∧ m = lone (Frame.enter P g as .normal) (fat b { a with defers := mark ++ a.defers } (.inRangeFunc l :: k) :: cs) w1) ∨
      (∃ l' g tmps asg bd, nx = .round l' g tmps asg bd ∧ m = lone (Frame.round l' g tmps asg bd .normal) (fat b { a with defers := mark ++ a.defers } (.inRangeFunc l :: k) :: cs) w1)) :
    step P (lone (fat b a (.code (.rangeFunc f params assign body) :: k)) cs w) = .next m := by
  have he := fat_eval b { a with defers := mark ++ a.defers } (.inRangeFunc l :: k)
  have he2 : ∀ x, Frame.eval { (fat b a (.code (.rangeFunc f params assign body) :: k)) with todo := .inRangeFunc l :: k, defers := mark ++ (a.defers ++ b.defers) } x = a.eval x := by
    intro x; cases x <;> rfl
  have hres : (do let d ← resolve (Frame.eval { (fat b a (.code (.rangeFunc f params assign body) :: k)) with todo := .inRangeFunc l :: k, defers := mark ++ (a.defers ++ b.defers) }) { callee := .value f, args := #[.const (.func (.yield l) #[] #[])], argTypes := #[] } 0; invoke d.target d.args : Sem Next).run P w1 = .ok nx w1 := by
    simp only [run_bind, resolve, he2]
    have : (#[Operand.const (.func (.yield l) #[] #[])].map (Frame.eval { (fat b a (.code (.rangeFunc f params assign body) :: k)) with todo := .inRangeFunc l :: k, defers := mark ++ (a.defers ++ b.defers) })) = #[.func (.yield l) #[] #[]] := by
      simp [Frame.eval]
    rw [this, h2]
    exact h3
  rcases h4 with ⟨g, as, rfl, rfl⟩ | ⟨l', g, tmps, asg, bd, rfl, rfl⟩
  · apply step_lone_go
    simp only [fat] at hres h1 ⊢
    simp [stepG, stepG.exec, h1, stepG.apply, hres, List.append_assoc]
  · apply step_lone_go
    simp only [fat] at hres h1 ⊢
    simp [stepG, stepG.exec, h1, stepG.apply, hres, List.append_assoc]

theorem st_endRange {l : Nat} {jump : Option Code} {w1 : World} (h : (Instr.endLoop l).run P w = .ok jump w1) :
    step P (lone (fat b a (.endRangeFunc l :: k)) cs w) = .next (lone (fat b a ((jump.map Item.code).toList ++ k)) cs w1) := by
  apply step_lone_go
  simp [stepG, stepG.exec, fat, h]

theorem st_beginRound {l : Nat} {w1 : World} (hb : b.roundOf = some l) (h : (Instr.beginRound l).run P w = .ok () w1) :
    step P (lone (fat b a (.beginRound :: k)) cs w) = .next (lone (fat b a k) cs w1) := by
  apply step_lone_go
  have : (do Instr.beginRound l; pure Next.skip : Sem Next).run P w = .ok .skip w1 := by rw [run_bind, h]; rfl
  simp [stepG, stepG.exec, fat, hb, stepG.apply, h, Result.andThen, Frame.finish]

theorem st_leaveRound {l : Nat} {c : Frame} {v : Value} {w1 : World} {jump : Option Code} {todo : List Item} (hb : b.roundOf = some l) (hk : b.kind = .normal) (h : (Instr.endRound l jump).run P w = .ok v w1)
    (ht : (jump = none ∧ todo = []) ∨ (jump = some .ret ∧ ∃ r, todo = .code .ret :: r) ∨ (∃ id r, jump = some (.exit id) ∧ todo = .code (.exit id) :: r ∧ exitTo id r = none)) :
    step P (lone (fat b a todo) (c :: cs) w) = .next (lone (c.finish v) cs w1) := by
  apply step_lone_go
  rcases ht with ⟨rfl, rfl⟩ | ⟨rfl, r, rfl⟩ | ⟨id, r, rfl, rfl, hx⟩
  · simp [stepG, stepG.exec, fat, hb, h, doReturn, hk]
  · simp [stepG, stepG.exec, fat, hb, h, doReturn, hk]
  · simp [stepG, stepG.exec, fat, hb, h, doReturn, hk, hx]

theorem st_leaveFn {todo : List Item} (hb : b.roundOf = none) (ht : todo = [] ∨ ∃ r, todo = .code .ret :: r) :
    step P (lone (fat b a todo) cs w) = .next (lone { (fat b a todo) with mode := .returning } cs w) := by
  apply step_lone_go
  rcases ht with rfl | ⟨r, rfl⟩
  · simp [stepG, stepG.exec, fat, hb]
  · simp [stepG, stepG.exec, fat, hb]

theorem st_unwindOne {todo : List Item} {r : Nat} {ds : List Deferred} {w1 : World} (hd : a.defers = { target := .collected r, args := #[] } :: ds) (h : (Instr.takeDeferred r).run P w = .ok [] w1) :
    step P (lone { (fat b a todo) with mode := .returning } cs w) = .next (lone { (fat b { a with defers := ds } todo) with mode := .returning } cs w1) := by
  apply step_lone_go
  simp [stepG, unwind, fat, hd, h]

end
end Go.AS
end

section
namespace Go.AS
open Go
set_option linter.unusedSimpArgs false
set_option linter.unusedVariables false

/-! ## Regions that draw their order: the memory -/

/-- What has come to pass since a first state, the memory said by a function. -/
structure Cum (C : Comp) (N0 N : Nat) (g0 : Nat → Option ABlk) (ρ0 : Ren) (w0 : World) (ρ : Ren) (g : Nat → Option ABlk) (w : World) : Prop where
  blk : ∀ b e x, ρ b = some e → g b = some x → BRel C ρ e w.heap x
  inj : ∀ b b' e e' x x', b ≠ b' → ρ b = some e → ρ b' = some e' → g b = some x → g b' = some x' → ¬ passive (some x) → x' ≠ .dead → e.cb ≠ e'.cb
  glob : ∀ g, g < C.gs → ρ g = some ⟨g, 0, 0, 0⟩
  mono : Ren.le ρ0 ρ
  fresh : ∀ b, ρ0 b = none → ρ b ≠ none → N0 ≤ b ∧ b < N
  still : ∀ b, b < N0 → passive (g0 b) → g b = g0 b
  absent : ∀ b, b < N0 → ρ0 b = none → g b = g0 b
  newcb : ∀ b e, ρ0 b = none → ρ b = some e → w0.heap.size ≤ e.cb ∨ ∃ b0 e0, b0 < N0 ∧ ρ0 b0 = some e0 ∧ e0.cb = e.cb ∧ ¬ passive (g0 b0)
  frame : ∀ cb, cb < w0.heap.size → (∀ b e, b < N0 → ρ0 b = some e → e.cb = cb → passive (g0 b)) → w.heap[cb]? = w0.heap[cb]?
  hsize : w0.heap.size ≤ w.heap.size
  os : w.os = w0.os
  tape : w.tape = w0.tape
  output : w.output = w0.output

theorem not_passive_some {o : Option ABlk} (h : ¬ passive o) : ∃ x, o = some x ∧ x ≠ .dead := by
  cases o with
  | none => exact absurd trivial h
  | some x => exact ⟨x, rfl, fun hx => by subst hx; exact h trivial⟩

theorem Cum.step {C : Comp} {N0 N : Nat} {g0 g g' : Nat → Option ABlk} {ρ0 ρ ρ' : Ren} {w0 w w' : World} {A A' : AHeap} (H : Cum C N0 N g0 ρ0 w0 ρ g w) (hfree : ∀ b, N0 ≤ b → b < N → ρ0 b = none) (T : Tr C ρ A w ρ' A' w')
    (h0 : N0 ≤ A.size) (hN : A'.size ≤ N)
    (hk : ∀ b, (b < A.size ∧ g b = A.get b ∧ g' b = A'.get b) ∨ (A.size ≤ b ∧ b < A'.size ∧ ρ b = none ∧ g' b = A'.get b) ∨ ((b < A.size → A.get b = none) ∧ (b < A.size ∨ A'.size ≤ b) ∧ g' b = g b)) :
    Cum C N0 N g0 ρ0 w0 ρ' g' w' := by
  -- what is known of a block that A has and that is written through
  have act : ∀ b, b < A.size → ¬ passive (A.get b) → g b = A.get b := by
    intro b hb hp
    rcases hk b with h | h | h
    · exact h.2.1
    · omega
    · rw [h.1 hb] at hp; exact absurd trivial hp
  have hgetge : ∀ b, A.size ≤ b → A.get b = none := fun b hb => by
    cases hg : A.get b with
    | none => rfl
    | some x => have := AHeap.get_lt hg; omega
  -- an entry of the third kind is old
  have old : ∀ b e, ρ' b = some e → (b < A.size ∨ A'.size ≤ b) → ρ b = some e := by
    intro b e he hb
    cases h1 : ρ b with
    | none => have := T.fresh b h1 (by rw [he]; simp); omega
    | some e1 => have := T.mono _ _ h1; rw [he] at this; exact this.symm
  have cblt : ∀ b e x, ρ b = some e → g b = some x → x ≠ .dead → e.cb < w.heap.size := fun b e x h1 h2 h3 => brel_lt (H.blk b e x h1 h2) h3
  have injU : ∀ b e x b0 e0, (b < A.size → A.get b = none) → ρ b = some e → g b = some x → x ≠ .dead → b0 < A.size → ρ b0 = some e0 → ¬ passive (A.get b0) → e0.cb ≠ e.cb := by
    intro b e x b0 e0 hu he hx hd hb0 he0 hp
    have hg := act b0 hb0 hp
    obtain ⟨y, hy, _⟩ := not_passive_some hp
    refine H.inj b0 b e0 e y x (fun q => ?_) he0 he (by rw [hg, hy]) hx (by rw [← hy]; exact hp) hd
    subst q
    rw [hu hb0] at hp; exact hp trivial
  refine ⟨?_, ?_, T.rel.glob, Ren.le_trans H.mono T.mono, ?_, ?_, ?_, ?_, ?_, Nat.le_trans H.hsize T.hsize, T.os.trans H.os, T.tape.trans H.tape, T.output.trans H.output⟩
  · intro b e x he hx
    rcases hk b with h | h | h
    · exact T.rel.blk b e x he (by rw [← h.2.2]; exact hx)
    · exact T.rel.blk b e x he (by rw [← h.2.2.2]; exact hx)
    · have he1 := old b e he h.2.1
      rw [h.2.2] at hx
      refine BRel.keep T.mono ?_ (H.blk b e x he1 hx)
      by_cases hd : x = .dead
      · exact .inl hd
      · refine .inr (T.frame e.cb (cblt b e x he1 hx hd) fun b0 e0 hb0 he0 hce => ?_)
        by_cases hp : passive (A.get b0)
        · exact hp
        · exact absurd hce (injU b e x b0 e0 h.1 he1 hx hd hb0 he0 hp)
  · intro b b' e e' x x' hne he he' hx hx' hp hd
    have kf : ∀ b x, g' b = some x → ((b < A.size ∧ g b = A.get b ∧ A'.get b = some x) ∨ (A.size ≤ b ∧ b < A'.size ∧ ρ b = none ∧ A'.get b = some x)) ∨ ((b < A.size → A.get b = none) ∧ (b < A.size ∨ A'.size ≤ b) ∧ g b = some x) := by
      intro b x hx
      rcases hk b with h | h | h
      · exact .inl (.inl ⟨h.1, h.2.1, by rw [← h.2.2]; exact hx⟩)
      · exact .inl (.inr ⟨h.1, h.2.1, h.2.2.1, by rw [← h.2.2.2]; exact hx⟩)
      · exact .inr ⟨h.1, h.2.1, by rw [← h.2.2]; exact hx⟩
    -- one of the step's own blocks against one of the others
    have mixed : ∀ b e x, ((b < A.size ∧ g b = A.get b ∧ A'.get b = some x) ∨ (A.size ≤ b ∧ b < A'.size ∧ ρ b = none ∧ A'.get b = some x)) → ρ' b = some e → ∀ b' e' x', (b' < A.size → A.get b' = none) → (b' < A.size ∨ A'.size ≤ b') → g b' = some x' → ρ' b' = some e' → x' ≠ .dead → x ≠ .dead →
        (¬ passive (some x) ∨ ¬ passive (some x')) → e.cb ≠ e'.cb := by
      intro b e x hb he b' e' x' hu hu2 hx' he' hd' hd hpp
      have he1' := old b' e' he' hu2
      have hlt := cblt b' e' x' he1' hx' hd'
      cases h1 : ρ b with
      | some e1 =>
        have := T.mono _ _ h1; rw [he] at this; cases this
        rcases hb with ⟨hb, hg, hx⟩ | ⟨_, _, hn, _⟩
        · by_cases hpa : passive (A.get b)
          · have hst := T.still b hb hpa
            rw [hx] at hst
            have hgx : g b = some x := by rw [hg, ← hst]
            have hne : b ≠ b' := fun q => by subst q; rw [hu hb] at hst; cases hst
            rcases hpp with hpp | hpp
            · exact H.inj b b' e e' x x' hne h1 he1' hgx hx' hpp hd'
            · exact fun q => H.inj b' b e' e x' x (Ne.symm hne) he1' h1 hx' hgx hpp hd q.symm
          · exact injU b' e' x' b e hu he1' hx' hd' hb h1 hpa
        · rw [h1] at hn; cases hn
      | none =>
        rcases T.newcb b e h1 he with hge | ⟨b0, e0, hb0, he0, hcb, hnp⟩
        · omega
        · rw [← hcb]
          exact injU b' e' x' b0 e0 hu he1' hx' hd' hb0 he0 hnp
    have hxd : x ≠ .dead := fun q => by subst q; exact hp trivial
    rcases kf b x hx with hb | hb <;> rcases kf b' x' hx' with hb' | hb'
    · exact T.rel.inj b b' e e' x x' hne he he' (by rcases hb with h | h; exact h.2.2; exact h.2.2.2) (by rcases hb' with h | h; exact h.2.2; exact h.2.2.2) hp hd
    · exact mixed b e x hb he b' e' x' hb'.1 hb'.2.1 hb'.2.2 he' hd hxd (.inl hp)
    · exact fun q => mixed b' e' x' hb' he' b e x hb.1 hb.2.1 hb.2.2 he hxd hd (.inr hp) q.symm
    · exact H.inj b b' e e' x x' hne (old b e he hb.2.1) (old b' e' he' hb'.2.1) hb.2.2 hb'.2.2 hp hd
  · intro b h1 h2
    by_cases h3 : ρ b = none
    · have := T.fresh b h3 h2; omega
    · exact H.fresh b h1 h3
  · intro b hb hp
    have hs := H.still b hb hp
    rcases hk b with h | h | h
    · rw [h.2.2, T.still b h.1 (by rw [← h.2.1, hs]; exact hp), ← h.2.1, hs]
    · omega
    · rw [h.2.2, hs]
  · intro b hb hn
    have ha := H.absent b hb hn
    have hn1 : ρ b = none := by
      apply Classical.byContradiction; intro q
      have := H.fresh b hn q; omega
    rcases hk b with h | h | h
    · rw [h.2.2, T.absent b h.1 hn1, ← h.2.1, ha]
    · omega
    · rw [h.2.2, ha]
  · intro b e hn he
    cases h1 : ρ b with
    | some e1 =>
      have := T.mono _ _ h1; rw [he] at this; cases this
      exact H.newcb b e hn h1
    | none =>
      rcases T.newcb b e h1 he with hge | ⟨b0, e0, hb0, he0, hcb, hnp⟩
      · exact .inl (Nat.le_trans H.hsize hge)
      · have hg := act b0 hb0 hnp
        cases h2 : ρ0 b0 with
        | none =>
          rcases H.newcb b0 e0 h2 he0 with hge | ⟨b1, e1, hb1, he1, hcb1, hnp1⟩
          · exact .inl (hcb ▸ hge)
          · exact .inr ⟨b1, e1, hb1, he1, hcb1.trans hcb, hnp1⟩
        | some e1 =>
          have := H.mono _ _ h2; rw [he0] at this; cases this
          have hlt : b0 < N0 := by
            apply Classical.byContradiction; intro q
            have := hfree b0 (by omega) (by have := T.size; omega)
            rw [h2] at this; cases this
          exact .inr ⟨b0, e0, hlt, h2, hcb, fun hp => hnp (by rw [← hg, H.still b0 hlt hp]; exact hp)⟩
  · intro cb hcb hp
    rw [T.frame cb (Nat.lt_of_lt_of_le hcb H.hsize) ?_, H.frame cb hcb hp]
    intro b e hb he hce
    by_cases hpa : passive (A.get b)
    · exact hpa
    · exfalso
      have hg := act b hb hpa
      cases h2 : ρ0 b with
      | none =>
        rcases H.newcb b e h2 he with hge | ⟨b1, e1, hb1, he1, hcb1, hnp1⟩
        · omega
        · exact hnp1 (hp b1 e1 hb1 he1 (hcb1.trans hce))
      | some e1 =>
        have := H.mono _ _ h2; rw [he] at this; cases this
        have hlt : b < N0 := by
          apply Classical.byContradiction; intro q
          have := hfree b (by omega) (by have := T.size; omega)
          rw [h2] at this; cases this
        have := hp b e hlt h2 hce
        exact hpa (by rw [← hg, H.still b hlt this]; exact this)

end Go.AS
end

section
namespace Go.AS
open Go
set_option linter.unusedSimpArgs false
set_option linter.unusedVariables false

/-! ## Regions that draw their order: the orders -/

section
variable {call : CallT} {e : Env} {A A' : AHeap} {op : AOp} {v : Value}

theorem kind_quiet (hk : kindA op ≠ 2) (hk3 : kindA op ≠ 3) (h : opVal call e A op = some (v, A')) : A' = A ∧ qop e A op = some v ∧ ∀ B, qop e B op = some v → opVal call e B op = some (v, B) := by
  cases op
  all_goals first
    | (exact absurd rfl hk)
    | (exact absurd rfl hk3)
    | (simp only [opVal, lop, Option.map_eq_some_iff, Prod.mk.injEq] at h
       obtain ⟨u, h1, h2, h3⟩ := h
       subst h2; subst h3
       refine ⟨rfl, h1, fun B hB => ?_⟩
       simp only [opVal, lop, hB, Option.map_some])

theorem kind_zero (hk : kindA op = 0) (B : AHeap) : qop e B op = qop e A op := by
  cases op
  all_goals first
    | rfl
    | (cases hk; done)
    | (rename_i xs; cases xs <;> rfl)

theorem kind_two (hk : kindA op = 2) (h : opVal call e A op = some (v, A')) : ∃ x, A' = A.alloc x ∧ ∀ L : AHeap, L.size = A.size → opVal call e L op = some (v, L.alloc x) := by
  cases op
  all_goals first
    | (cases hk; done)
    | skip
  all_goals simp only [opVal, lop] at h ⊢
  all_goals first
    | (cases h
       exact ⟨_, rfl, fun L hL => by rw [hL]⟩)
    | (split at h
       · rename_i hc
         cases h
         exact ⟨_, rfl, fun L hL => by rw [if_pos hc, hL]⟩
       · cases h)
    | (simp only [Option.map_eq_some_iff, Prod.mk.injEq] at h ⊢
       obtain ⟨u, h1, h2, h3⟩ := h
       subst h2; subst h3
       exact ⟨_, rfl, fun L hL => ⟨u, h1, by rw [hL], rfl⟩⟩)
    | (split at h
       · split at h
         · rename_i hcond
           cases h
           exact ⟨_, rfl, fun L hL => by rw [if_pos hcond, hL]⟩
         · cases h
       · cases h)
    | (split at h
       · cases h
         exact ⟨_, rfl, fun L hL => by rw [hL]⟩
       · cases h)

end

mutual
theorem vbeq_eq : ∀ (n : Nat) (a b : Value), vbeq n a b = true → a = b := by
  intro n a b h
  unfold vbeq at h
  split at h
  all_goals first
    | (cases h; done)
    | skip
  all_goals (try simp only [Bool.and_eq_true, decide_eq_true_eq, beq_iff_eq] at h)
  · rw [h]
  · rw [h.1, h.2]
  · rename_i x y
    obtain ⟨⟨x⟩⟩ := x; obtain ⟨⟨y⟩⟩ := y
    simp only at h; rw [h]
  · rfl
  · rw [h]
  · rw [h.1.1, h.1.2, h.2]
  · rw [h]
  · rfl
  · rfl
  · rw [h.1, vbeq_eq _ _ _ h.2]
  · rw [h.1.1, vbeqs_eq _ _ _ h.1.2, vbeqs_eq _ _ _ h.2]
  · rw [vbeqs_eq _ _ _ h]
  · rw [vbeqs_eq _ _ _ h]
theorem vbeqs_eq : ∀ (n : Nat) (a b : List Value), vbeq.vbeqs n a b = true → a = b := by
  intro n a
  induction a with
  | nil => intro b h; cases b with
    | nil => rfl
    | cons y b => simp [vbeq.vbeqs] at h
  | cons x a ih => intro b h; cases b with
    | nil => simp [vbeq.vbeqs] at h
    | cons y b =>
      simp only [vbeq.vbeqs, Bool.and_eq_true] at h
      rw [vbeq_eq n _ _ h.1, ih b h.2]
end

theorem runOp_inv {call : CallT} {o : AOper} {s s' : St} (h : runOp call o s = some s') : ∃ v A', ((wantedA s.env o.guard = true ∧ opVal call s.env s.A o.op = some (v, A')) ∨ (wantedA s.env o.guard = false ∧ v = undef ∧ A' = s.A)) ∧
    s'.A = A' ∧ s'.n = s.n ∧ s'.dfs = s.dfs ∧ (∀ t, o.dst ≠ some t → s'.env.rd t = s.env.rd t) ∧ (∀ d, o.dst = some d → d < s.n ∧ s'.env.rd d = v) := by
  have put : ∀ {v : Value} {A' : AHeap}, putE s o.dst v A' = some s' → s'.A = A' ∧ s'.n = s.n ∧ s'.dfs = s.dfs ∧ (∀ t, o.dst ≠ some t → s'.env.rd t = s.env.rd t) ∧ (∀ d, o.dst = some d → d < s.n ∧ s'.env.rd d = v) := by
    intro v A' hp
    unfold putE at hp
    split at hp
    · rename_i hd
      cases hp
      exact ⟨rfl, rfl, rfl, fun t _ => rfl, fun d hd' => by rw [hd] at hd'; cases hd'⟩
    · rename_i d hd
      split at hp
      · rename_i hlt
        cases hp
        refine ⟨rfl, rfl, rfl, fun t ht => ?_, fun d' hd' => ?_⟩
        · show Env.rd (Trie.set s.env d v) t = _
          unfold Env.rd
          rw [Trie.get_set, if_neg (fun q => ht (by rw [hd, q]))]
        · rw [hd] at hd'; cases hd'
          refine ⟨hlt, ?_⟩
          show Env.rd (Trie.set s.env d v) d = _
          unfold Env.rd
          rw [Trie.get_set, if_pos rfl]; rfl
      · cases hp
  unfold runOp at h
  split at h
  · rename_i hw
    split at h
    · rename_i v A' hv
      exact ⟨v, A', .inl ⟨hw, hv⟩, put h⟩
    · cases h
  · rename_i hw
    exact ⟨undef, s.A, .inr ⟨by simpa using hw, rfl, rfl⟩, put h⟩

theorem runTrace_spec {call : CallT} : ∀ (as : List AOper) (st : St) (tr : List St), runTrace call as st = some tr →
    ∃ S : Nat → St, (∀ i, i ≤ as.length → tr[i]? = some (S i)) ∧ S 0 = st ∧ (∀ i o, as[i]? = some o → runOp call o (S i) = some (S (i + 1))) ∧ tr.getLast? = some (S as.length) := by
  intro as
  induction as with
  | nil =>
    intro st tr h
    cases h
    exact ⟨fun _ => st, fun i hi => by have : i = 0 := by simpa using hi
                                       subst this; rfl, rfl, fun i o h => by simp at h, rfl⟩
  | cons o as ih =>
    intro st tr h
    simp only [runTrace] at h
    split at h
    · rename_i st1 h1
      split at h
      · rename_i l h2
        cases h
        obtain ⟨S, k1, k2, k3, k4⟩ := ih st1 l h2
        refine ⟨fun i => match i with | 0 => st | i + 1 => S i, fun i hi => ?_, rfl, fun i o' ho => ?_, ?_⟩
        · cases i with
          | zero => rfl
          | succ i => simpa using k1 i (by simpa using hi)
        · cases i with
          | zero => simp at ho; subst ho; rw [← k2] at h1; simpa using h1
          | succ i => exact k3 i o' (by simpa using ho)
        · rw [List.getLast?_cons, k4]; rfl
      · cases h
    · cases h

/-! ### Which operation comes before which -/
theorem masksD_spec : ∀ (os : List Oper) (acc : List Nat), (masksD os acc).take acc.length = acc ∧ (masksD os acc).length = acc.length + os.length ∧
    ∀ j o, os[j]? = some o → (masksD os acc).getD (acc.length + j) 0 = maskD ((masksD os acc).take (acc.length + j)) o := by
  intro os
  induction os with
  | nil => intro acc; simp [masksD]
  | cons o os ih =>
    intro acc
    obtain ⟨h1, h2, h3⟩ := ih (acc ++ [maskD acc o])
    simp only [masksD]
    simp only [List.length_append, List.length_cons, List.length_nil] at h1 h2 h3
    have hpre : (masksD os (acc ++ [maskD acc o])).take acc.length = acc := by
      have := congrArg (List.take acc.length) h1
      rw [List.take_take] at this
      rw [show min acc.length (acc.length + (0 + 1)) = acc.length by omega] at this
      rw [this]; simp
    refine ⟨hpre, by rw [h2]; simp; omega, fun j o' ho => ?_⟩
    cases j with
    | zero =>
      simp at ho; subst ho
      rw [Nat.add_zero, hpre]
      have := congrArg (fun l => l[acc.length]?) h1
      simp only [List.getElem?_take_of_lt (show acc.length < acc.length + (0 + 1) by omega)] at this
      rw [List.getD_eq_getElem?_getD, this]; simp
    | succ j =>
      have := h3 j o' (by simpa using ho)
      rw [show acc.length + (0 + 1) + j = acc.length + (j + 1) by omega] at this
      exact this

theorem maskD_bit (acc : List Nat) (o : Oper) (i : Nat) (h : (maskD acc o).testBit i = true) : ∃ e ∈ o.after.toList, Region.binds .any e = true ∧ (e.on = i ∨ (acc.getD e.on 0).testBit i = true) := by
  unfold maskD at h
  have key : ∀ (l : List Edge) (s : Nat), (l.foldl (fun s e => if Region.binds .any e then s ||| 2 ^ e.on ||| acc.getD e.on 0 else s) s).testBit i = true →
      s.testBit i = true ∨ ∃ e ∈ l, Region.binds .any e = true ∧ (e.on = i ∨ (acc.getD e.on 0).testBit i = true) := by
    intro l
    induction l with
    | nil => intro s h; exact .inl h
    | cons e l ih =>
      intro s h
      rw [List.foldl_cons] at h
      rcases ih _ h with h1 | ⟨e', h1, h2⟩
      · split at h1
        · rename_i hb
          rw [Nat.testBit_or, Nat.testBit_or, Bool.or_eq_true, Bool.or_eq_true, Nat.testBit_two_pow] at h1
          rcases h1 with (h1 | h1) | h1
          · exact .inl h1
          · exact .inr ⟨e, List.mem_cons_self, hb, .inl (by simpa using h1)⟩
          · exact .inr ⟨e, List.mem_cons_self, hb, .inr h1⟩
        · exact .inl h1
      · exact .inr ⟨e', List.mem_cons_of_mem _ h1, h2⟩
  rcases key _ 0 h with h | h
  · simp at h
  · exact h

theorem ordD_sound {os : List Oper} (D : Nat → Prop) (hcl : ∀ j o, os[j]? = some o → D j → ∀ e ∈ o.after.toList, Region.binds .any e = true → D e.on) :
    ∀ (j : Nat) (o : Oper), os[j]? = some o → (∀ e ∈ o.after.toList, Region.binds .any e = true → D e.on) → ∀ i, ordD (masksD os []) i j = true → D i := by
  obtain ⟨_, hlen, hm⟩ := masksD_spec os []
  simp only [List.length_nil, Nat.zero_add] at hlen hm
  intro j
  induction j using Nat.strongRecOn with
  | _ j ih =>
    intro o ho hr i hi
    unfold ordD at hi
    rw [hm j o ho] at hi
    obtain ⟨e, he, hb, h1⟩ := maskD_bit _ _ _ hi
    rcases h1 with h1 | h1
    · rw [← h1]; exact hr e he hb
    · have hjl : j < os.length := by
        rcases Nat.lt_or_ge j os.length with q | q
        · exact q
        · rw [List.getElem?_eq_none q] at ho; cases ho
      by_cases hlt : e.on < j
      · have h2 : ordD (masksD os []) i e.on = true := by
          unfold ordD
          rw [List.getD_eq_getElem?_getD, List.getElem?_take_of_lt hlt, ← List.getD_eq_getElem?_getD] at h1
          exact h1
        have ho2 : os[e.on]? = some os[e.on] := List.getElem?_eq_getElem (by omega)
        exact ih e.on hlt _ ho2 (hcl _ _ ho2 (hr e he hb)) i h2
      · rw [List.getD_eq_getElem?_getD, List.getElem?_eq_none (by simp; omega)] at h1
        simp at h1

end Go.AS
end

section
namespace Go.AS
open Go
set_option linter.unusedSimpArgs false
set_option linter.unusedVariables false

section
variable {P : Program} {call : CallT} {ops : Array Oper} {aos : List AOper} {S : Nat → St}

/-- The memory when the operations ahead of the m-th have come to pass, with what later ones will lay. -/
def hd (S : Nat → St) (n m b : Nat) : Option ABlk :=
  ((List.range' m (n + 1 - m)).find? fun i => decide (b < (S i).A.size)).bind fun i => (S i).A.get b

theorem hd_step {n m b : Nat} (hm : m ≤ n) : hd S n m b = if b < (S m).A.size then (S m).A.get b else hd S n (m + 1) b := by
  unfold hd
  rw [show n + 1 - m = (n - m) + 1 by omega, List.range'_succ, List.find?_cons]
  by_cases h : b < (S m).A.size
  · simp [h]
  · simp [h, show n + 1 - (m + 1) = n - m by omega]

theorem get_ge {A : AHeap} {b : Nat} (h : A.size ≤ b) : A.get b = none := by
  unfold AHeap.get; rw [if_neg (by omega)]

theorem hd_last {n b : Nat} : hd S n n b = (S n).A.get b := by
  rw [hd_step (Nat.le_refl _)]
  split
  · rfl
  · unfold hd; rw [show n + 1 - (n + 1) = 0 by omega]; simp
    exact (get_ge (by omega)).symm

theorem hd_some_lt {n m b : Nat} {x : ABlk} (hmono : ∀ i, i ≤ n → (S i).A.size ≤ (S n).A.size) (h : hd S n m b = some x) : b < (S n).A.size := by
  unfold hd at h
  rw [Option.bind_eq_some_iff] at h
  obtain ⟨i, h1, h2⟩ := h
  have h3 := List.mem_of_find?_eq_some h1
  have h4 := hmono i (by rw [List.mem_range'_1] at h3; omega)
  have := AHeap.get_lt h2
  omega

/-- What is known of the region. -/
structure DCtx (P : Program) (call : CallT) (ops : Array Oper) (aos : List AOper) (S : Nat → St) (Bf : Nat → Nat → Prop) : Prop where
  hcs : CallSound P call
  len : aos.length = ops.size
  comp : ∀ (j : Nat) o, ops[j]? = some o → ∃ ao, aos[j]? = some ao ∧ compileOper P ops o = some ao
  run : ∀ (j : Nat) ao, aos[j]? = some ao → runOp call ao (S j) = some (S (j + 1))
  clash : ∀ (i j : Nat) oi oj ai aj, i < j → ops[i]? = some oi → ops[j]? = some oj → aos[i]? = some ai → aos[j]? = some aj →
    ((∃ d, oi.dst = some d ∧ d ∈ namesD oj aj) ∨ (∃ d, oj.dst = some d ∧ d ∈ namesD oi ai) ∨ (kindA ai.op = 3 ∧ kindA aj.op = 3)) → Bf i j
  back : ∀ (j : Nat) o e, ops[j]? = some o → e ∈ o.after.toList → Region.binds .any e = true → e.on < j
  ord : ∀ (D : Nat → Prop), (∀ (j : Nat) o, ops[j]? = some o → D j → ∀ e ∈ o.after.toList, Region.binds .any e = true → D e.on) →
    ∀ (j : Nat) o, ops[j]? = some o → (∀ e ∈ o.after.toList, Region.binds .any e = true → D e.on) → ∀ i, Bf i j → D i
  chk : ∀ (j l : Nat) aj al, aos[j]? = some aj → aos[l]? = some al → kindA aj.op = 1 → kindA al.op = 3 → ¬ (if l < j then Bf l j else Bf j l) → ∀ m, m = l ∨ m = l + 1 → wantedA (S j).env aj.guard = true →
    ∃ d, aj.dst = some d ∧ qop (S j).env (S m).A aj.op = some ((S (j + 1)).env.rd d)

variable {Bf : Nat → Nat → Prop}

theorem DCtx.oper (X : DCtx P call ops aos S Bf) {j : Nat} {ao : AOper} (h : aos[j]? = some ao) : ∃ o, ops[j]? = some o ∧ compileOper P ops o = some ao := by
  have hlt : j < aos.length := by
    rcases Nat.lt_or_ge j aos.length with q | q
    · exact q
    · rw [List.getElem?_eq_none q] at h; cases h
  have hlt2 : j < ops.size := by rw [← X.len]; exact hlt
  have ho : ops[j]? = some ops[j] := Array.getElem?_eq_getElem hlt2
  obtain ⟨ao', h1, h2⟩ := X.comp j _ ho
  rw [h] at h1; cases h1
  exact ⟨_, ho, h2⟩

theorem DCtx.at (X : DCtx P call ops aos S Bf) {j : Nat} (h : j < ops.size) : ∃ ao, aos[j]? = some ao := ⟨_, List.getElem?_eq_getElem (by rw [X.len]; exact h)⟩

theorem DCtx.lt (X : DCtx P call ops aos S Bf) {j : Nat} {ao : AOper} (h : aos[j]? = some ao) : j < ops.size := by
  rw [← X.len]
  rcases Nat.lt_or_ge j aos.length with q | q
  · exact q
  · rw [List.getElem?_eq_none q] at h; cases h

theorem DCtx.size (X : DCtx P call ops aos S Bf) : ∀ {i j : Nat}, i ≤ j → j ≤ ops.size → (S i).A.size ≤ (S j).A.size := by
  intro i j hij hj
  induction j with
  | zero => have : i = 0 := by omega
            subst this; exact Nat.le_refl _
  | succ j ih =>
    rcases Nat.lt_or_ge i (j + 1) with q | q
    · obtain ⟨ao, hao⟩ := X.at (j := j) (by omega)
      exact Nat.le_trans (ih (by omega) (by omega)) (runOp_size X.hcs (X.run j ao hao))
    · have : i = j + 1 := by omega
      subst this; exact Nat.le_refl _

/-- What does not call nor write lets the memory stand. -/
theorem quiet_still {ao : AOper} {s s' : St} (h : runOp call ao s = some s') (hk : kindA ao.op ≠ 3) : ∀ b, b < s.A.size → s'.A.get b = s.A.get b := by
  intro b hb
  obtain ⟨v, A', hv, hA, _⟩ := runOp_inv h
  rw [hA]
  rcases hv with ⟨_, hv⟩ | ⟨_, _, hA'⟩
  · by_cases h2 : kindA ao.op = 2
    · obtain ⟨x, hx, _⟩ := kind_two h2 hv
      rw [hx, AHeap.get_alloc, if_neg (by omega)]
    · obtain ⟨hx, _⟩ := kind_quiet h2 hk hv
      rw [hx]
  · rw [hA']

theorem DCtx.shift (X : DCtx P call ops aos S Bf) {m : Nat} (hm : m < ops.size) (hs : ∀ b, b < (S m).A.size → (S (m + 1)).A.get b = (S m).A.get b) (b : Nat) : hd S ops.size m b = hd S ops.size (m + 1) b := by
  rw [hd_step (by omega)]
  split
  · rename_i hb
    have := X.size (i := m) (j := m + 1) (by omega) (by omega)
    rw [hd_step (by omega), if_pos (by omega), hs b hb]
  · rfl

theorem DCtx.compat (X : DCtx P call ops aos S Bf) {m : Nat} (b : Nat) : ∀ m', m ≤ m' → m' ≤ ops.size → (∀ (i : Nat) ai, m ≤ i → i < m' → aos[i]? = some ai → kindA ai.op ≠ 3) → hd S ops.size m b = hd S ops.size m' b := by
  intro m' h1
  induction h1 with
  | refl => intro _ _; rfl
  | @step k hk ih =>
    have hk : m ≤ k := hk
    intro h2 h3
    rw [ih (by omega) (fun i ai p q => h3 i ai p (by omega))]
    obtain ⟨ao, hao⟩ := X.at (j := k) (by omega)
    exact X.shift (by omega) (quiet_still (X.run k ao hao) (h3 k ao hk (by omega) hao)) b

theorem DCtx.later (X : DCtx P call ops aos S Bf) {m : Nat} {b : Nat} : ∀ i, m ≤ i → i ≤ ops.size → (S i).A.size ≤ b → hd S ops.size m b = hd S ops.size i b := by
  intro i h1
  induction h1 with
  | refl => intro _ _; rfl
  | @step k hk ih =>
    have hk : m ≤ k := hk
    intro h2 (h3 : (S (k + 1)).A.size ≤ b)
    have := X.size (i := k) (j := k + 1) (by omega) h2
    rw [ih (by omega) (by omega), hd_step (by omega), if_neg (by omega)]

/-- What an operation laid, before it is written to. -/
theorem DCtx.laid (X : DCtx P call ops aos S Bf) {m i b : Nat} (hm : m ≤ i) (hi : i < ops.size) (h1 : (S i).A.size ≤ b) (h2 : b < (S (i + 1)).A.size) : hd S ops.size m b = (S (i + 1)).A.get b := by
  rw [X.later i hm (by omega) h1, hd_step (by omega), if_neg (by omega), hd_step (by omega), if_pos h2]

def Lm (aos : List AOper) (n : Nat) (L : Array Bool) (m : Nat) : Prop := m ≤ n ∧ ∀ (i : Nat) ai, aos[i]? = some ai → kindA ai.op = 3 → (L.getD i false = true ↔ i < m)

theorem DCtx.same (X : DCtx P call ops aos S Bf) {L : Array Bool} {m m' : Nat} (h : Lm aos ops.size L m) (h' : Lm aos ops.size L m') : hd S ops.size m = hd S ops.size m' := by
  funext b
  rcases Nat.le_total m m' with q | q
  · refine X.compat b m' q h'.1 fun i ai p r ha hk => ?_
    have h1 := h.2 i ai ha hk; have h2 := h'.2 i ai ha hk
    rw [h1] at h2; omega
  · refine (X.compat b m q h.1 fun i ai p r ha hk => ?_).symm
    have h1 := h.2 i ai ha hk; have h2 := h'.2 i ai ha hk
    rw [h1] at h2; omega

structure DInv (P : Program) (ops : Array Oper) (aos : List AOper) (S : Nat → St) (ρ0 : Ren) (w0 : World) (df : List Deferred) (L : Array Bool) (ρ : Ren) (a : Act) (w : World) : Prop where
  lsz : L.size = ops.size
  closed : ∀ (j : Nat) o, ops[j]? = some o → L.getD j false = true → ∀ e ∈ o.after.toList, Region.binds .any e = true → L.getD e.on false = true
  cum : ∃ m, Lm aos ops.size L m ∧ Cum (CompOf P) (S 0).A.size (S ops.size).A.size (S 0).A.get ρ0 w0 ρ (hd S ops.size m) w ∧
    ∀ i, i < ops.size → L.getD i false = false → ∀ b, (S i).A.size ≤ b → b < (S (i + 1)).A.size → ρ b = none ∧ hd S ops.size m b = (S (i + 1)).A.get b
  env : ∀ t, ∃ k, k ≤ ops.size ∧ (∀ (i : Nat) ai, i < k → aos[i]? = some ai → ai.dst = some t → L.getD i false = true) ∧ (∀ (i : Nat) ai, k ≤ i → aos[i]? = some ai → ai.dst = some t → L.getD i false = false) ∧ VR ρ ((S k).env.rd t) (a.tmps.getD t undef)
  asz : a.tmps.size = (S 0).n
  dfr : a.defers = df

theorem DCtx.rd (X : DCtx P call ops aos S Bf) (t : Nat) : ∀ {k j : Nat}, k ≤ j → j ≤ ops.size → (∀ (i : Nat) ai, k ≤ i → i < j → aos[i]? = some ai → ai.dst ≠ some t) → (S j).env.rd t = (S k).env.rd t := by
  intro k j h1
  induction h1 with
  | refl => intro _ _; rfl
  | @step j hk ih =>
    have hk : k ≤ j := hk
    intro h2 h3
    obtain ⟨ao, hao⟩ := X.at (j := j) (by omega)
    obtain ⟨v, A', _, _, _, _, h4, _⟩ := runOp_inv (X.run j ao hao)
    rw [h4 t (h3 j ao hk (by omega) hao), ih (by omega) (fun i ai p q => h3 i ai p (by omega))]

theorem DCtx.nn (X : DCtx P call ops aos S Bf) : ∀ {j : Nat}, j ≤ ops.size → (S j).n = (S 0).n ∧ (S j).dfs = (S 0).dfs := by
  intro j
  induction j with
  | zero => intro _; exact ⟨rfl, rfl⟩
  | succ j ih =>
    intro h
    obtain ⟨ao, hao⟩ := X.at (j := j) (by omega)
    obtain ⟨v, A', _, _, h1, h2, _⟩ := runOp_inv (X.run j ao hao)
    rw [h1, h2]; exact ih (by omega)

theorem getD_set {L : Array Bool} {j i : Nat} (hj : j < L.size) : (L.setIfInBounds j true).getD i false = if i = j then true else L.getD i false := by
  simp only [Array.getD_eq_getD_getElem?, Array.getElem?_setIfInBounds]
  by_cases h : i = j
  · subst h; simp [hj]
  · rw [if_neg h, if_neg (fun q => h q.symm)]

theorem wanted_eq' {ρ : Ren} {e : Env} {a : Act} {o : Oper} {ao : AOper} (hc : compileOper P ops o = some ao) (h : ∀ t want, ao.guard = some (t, want) → VR ρ (e.rd t) (a.tmps.getD t undef)) : Region.wanted o (yielded ops a.tmps) = wantedA e ao.guard := by
  unfold compileOper at hc
  split at hc
  · cases hc
  · split at hc
    · rename_i hg
      cases hc
      simp [Region.wanted, hg, wantedA]
    · rename_i j want hg
      split at hc
      · rename_i d hd
        cases hc
        simp only [Region.wanted, hg, wantedA, yielded, hd, Option.bind_some]
        have hv := h d want rfl
        rw [Array.getD_eq_getD_getElem?] at hv
        cases ht : a.tmps[d]? with
        | none =>
          rw [ht] at hv
          simp only [Option.getD_none, undef] at hv
          generalize hX : e.rd d = X at hv
          cases hv
          rfl
        | some x =>
          rw [ht] at hv
          simp only [Option.getD_some] at hv
          generalize hX : e.rd d = X at hv
          cases hv <;> first | rfl | simp
      · cases hc

end
end Go.AS
end

section
namespace Go.AS
open Go
set_option linter.unusedSimpArgs false
set_option linter.unusedVariables false

theorem least_loud (Q : Nat → Prop) (m : Nat) : ∀ i, m ≤ i → Q i → ∃ l, m ≤ l ∧ l ≤ i ∧ Q l ∧ ∀ j, m ≤ j → j < l → ¬ Q j := by
  intro i
  induction i using Nat.strongRecOn with
  | _ i ih =>
    intro h1 h2
    by_cases h : ∃ j, m ≤ j ∧ j < i ∧ Q j
    · obtain ⟨j, a, b, c⟩ := h
      obtain ⟨l, p, q, r, s⟩ := ih j b a c
      exact ⟨l, p, by omega, r, s⟩
    · exact ⟨i, h1, Nat.le_refl _, h2, fun j a b c => h ⟨j, a, b, c⟩⟩

theorem last_loud (Q : Nat → Prop) (i : Nat) (hi : Q i) : ∀ m, i < m → ∃ l, i ≤ l ∧ l < m ∧ Q l ∧ ∀ j, l < j → j < m → ¬ Q j := by
  intro m
  induction m with
  | zero => intro h; omega
  | succ m ih =>
    intro h
    by_cases hm : Q m
    · exact ⟨m, by omega, by omega, hm, fun j a b => by omega⟩
    · by_cases h2 : i < m
      · obtain ⟨l, p, q, r, s⟩ := ih h2
        refine ⟨l, p, by omega, r, fun j a b => ?_⟩
        by_cases hj : j = m
        · rw [hj]; exact hm
        · exact s j a (by omega)
      · have : i = m := by omega
        subst this; exact absurd hi hm

section
variable {P : Program} {call : CallT} {ops : Array Oper} {aos : List AOper} {S : Nat → St} {Bf : Nat → Nat → Prop} {ρ0 ρ : Ren} {w0 w : World} {df : List Deferred} {L : Array Bool} {a : Act}

theorem DInv.step (X : DCtx P call ops aos S Bf) (hfree : ∀ b, (S 0).A.size ≤ b → b < (S ops.size).A.size → ρ0 b = none) (H : DInv P ops aos S ρ0 w0 df L ρ a w) {j : Nat} (hj : j ∈ Region.ready .any ops L) :
    ∀ b rest k cs, ∃ ρ' a' w', Steps P (lone (fat b a (.inRegion ops (j :: rest) :: k)) cs w) (lone (fat b a' (.inRegion ops rest :: k)) cs w') ∧ DInv P ops aos S ρ0 w0 df (L.setIfInBounds j true) ρ' a' w' := by
  intro fb rest k fcs
  obtain ⟨hl0, o, ho, hall⟩ := mem_ready.1 hj
  have hjn : j < ops.size := (Array.getElem?_eq_some_iff.1 ho).1
  have hjL : j < L.size := by rw [H.lsz]; exact hjn
  have hlf : L.getD j false = false := by
    simp only [Array.getD_eq_getD_getElem?, Array.getElem?_eq_getElem hjL, Option.getD_some] at hl0 ⊢
    exact hl0
  obtain ⟨ao, hao, hco⟩ := X.comp j o ho
  obtain ⟨hc, hdst⟩ := compileOper_op hco
  have hrun := X.run j ao hao
  obtain ⟨v, A', hval, hA, hn, hdf, hsame, hset⟩ := runOp_inv hrun
  have hall' : ∀ e ∈ o.after.toList, Region.binds .any e = true → L.getD e.on false = true := fun e he hb => hall e (by simpa using he) hb
  have before : ∀ i, Bf i j → L.getD i false = true := X.ord (fun i => L.getD i false = true) H.closed j o ho hall'
  have notafter : ∀ i oi, ops[i]? = some oi → Bf j i → L.getD i false = true → False := by
    intro i oi hoi hb hL
    have := X.ord (fun i => L.getD i false = true) H.closed i oi hoi (fun e he hbi => H.closed i oi hoi hL e he hbi) j hb
    rw [hlf] at this; cases this
  -- slots
  have rdn : ∀ t, t ∈ namesD o ao → VR ρ ((S j).env.rd t) (a.tmps.getD t undef) := by
    intro t ht
    obtain ⟨k, hkn, h1, h2, h3⟩ := H.env t
    rcases Nat.le_total k j with hkj | hkj
    · rw [X.rd t hkj (by omega) fun i ai p q hai hd => ?_]
      · exact h3
      · obtain ⟨oi, hoi, hci⟩ := X.oper hai
        have hdi := (compileOper_op hci).2
        have := before i (X.clash i j oi o ai ao q hoi ho hai hao (.inl ⟨t, by rw [← hdi]; exact hd, ht⟩))
        rw [h2 i ai p hai hd] at this; cases this
    · rw [← X.rd t hkj hkn fun i ai p q hai hd => ?_]
      · exact h3
      · have hL := h1 i ai q hai hd
        by_cases hij : i = j
        · subst hij; rw [hlf] at hL; cases hL
        · obtain ⟨oi, hoi, hci⟩ := X.oper hai
          have hdi := (compileOper_op hci).2
          exact notafter i oi hoi (X.clash j i o oi ao ai (by omega) ho hoi hao hai (.inr (.inl ⟨t, by rw [← hdi]; exact hd, ht⟩))) hL
  have hE : ∀ x ∈ o.op.operands.toList, VR ρ (ev (S j).env x) (a.eval x) := by
    intro x hx
    have hok := compileOp_ok hc x hx
    cases x with
    | tmp t =>
      refine rdn t ?_
      unfold namesD tmpsOf
      refine List.mem_append_left _ (List.mem_append_right _ ?_)
      rw [List.mem_filterMap]
      exact ⟨_, hx, rfl⟩
    | const v => exact plainV_VR hok
    | global g =>
      obtain ⟨mg, _, hCg, _⟩ := H.cum
      exact .ptr g 0 _ (hCg.glob g (of_decide_eq_true hok))
    | func f => exact .func f _ _ _ _ .nil .nil
  have hwant : Region.wanted o (yielded ops a.tmps) = wantedA (S j).env ao.guard := by
    refine wanted_eq' hco fun t want hg => rdn t ?_
    unfold namesD
    rw [hg]
    simp
  have gs := fun i => getD_set (i := i) hjL
  have disj : ∀ i b, i < ops.size → i ≠ j → (S i).A.size ≤ b → b < (S (i + 1)).A.size → (S j).A.size ≤ b → b < (S (j + 1)).A.size → False := by
    intro i b hi hne h1 h2 h3 h4
    rcases Nat.lt_or_ge i j with q | q
    · have := X.size (i := i + 1) (j := j) (by omega) (by omega); omega
    · have := X.size (i := j + 1) (j := i) (by omega) (by omega); omega
  -- closing
  have close : ∀ ρ' vc w' m', VR ρ' v vc → Ren.le ρ ρ' → Lm aos ops.size (L.setIfInBounds j true) m' → Cum (CompOf P) (S 0).A.size (S ops.size).A.size (S 0).A.get ρ0 w0 ρ' (hd S ops.size m') w' →
      (∀ i, i < ops.size → i ≠ j → L.getD i false = false → ∀ b, (S i).A.size ≤ b → b < (S (i + 1)).A.size → ρ' b = none ∧ hd S ops.size m' b = (S (i + 1)).A.get b) →
      DInv P ops aos S ρ0 w0 df (L.setIfInBounds j true) ρ' (a.put o.dst vc) w' := by
    intro ρ' vc w' m' hv hle hm' hcum hown
    refine ⟨by simp [H.lsz], ?_, ⟨m', hm', hcum, ?_⟩, ?_, by rw [put_size]; exact H.asz, by rw [put_defers]; exact H.dfr⟩
    · intro j' o' ho' hL' e he hb
      rw [gs] at hL' ⊢
      by_cases h : j' = j
      · subst h
        rw [ho] at ho'; cases ho'
        split
        · rfl
        · exact hall' e he hb
      · rw [if_neg h] at hL'
        split
        · rfl
        · exact H.closed j' o' ho' hL' e he hb
    · intro i hi hL' b h1 h2
      rw [gs] at hL'
      split at hL'
      · cases hL'
      · rename_i hne; exact hown i hi hne hL' b h1 h2
    · intro t
      by_cases ht : o.dst = some t
      · refine ⟨j + 1, by omega, ?_, ?_, ?_⟩
        · intro i ai hi hai hd
          rw [gs]
          split
          · rfl
          · rename_i hne
            obtain ⟨oi, hoi, hci⟩ := X.oper hai
            have hdi := (compileOper_op hci).2
            exact before i (X.clash i j oi o ai ao (by omega) hoi ho hai hao (.inl ⟨t, by rw [← hdi]; exact hd, by unfold namesD; rw [ht]; simp⟩))
        · intro i ai hi hai hd
          rw [gs, if_neg (by omega)]
          cases hL : L.getD i false with
          | false => rfl
          | true =>
            obtain ⟨oi, hoi, hci⟩ := X.oper hai
            have hdi := (compileOper_op hci).2
            exact absurd hL fun hL => notafter i oi hoi (X.clash j i o oi ao ai (by omega) ho hoi hao hai (.inl ⟨t, ht, by unfold namesD; rw [← hdi, hd]; simp⟩)) hL
        · have := hset t (by rw [hdst]; exact ht)
          rw [this.2, ht]
          simp only [Act.put, Array.getD_eq_getD_getElem?, Array.getElem?_setIfInBounds]
          have hlt : t < a.tmps.size := by rw [H.asz, ← (X.nn (j := j) (by omega)).1]; exact this.1
          simp only [hlt, if_true, Option.getD_some]; exact hv
      · obtain ⟨k, hkn, h1, h2, h3⟩ := H.env t
        refine ⟨k, hkn, ?_, ?_, ?_⟩
        · intro i ai hi hai hd
          rw [gs]
          split
          · rfl
          · exact h1 i ai hi hai hd
        · intro i ai hi hai hd
          rw [gs]
          split
          · rename_i hij
            subst hij
            rw [hao] at hai; cases hai
            exact absurd (by rw [← hdst]; exact hd) ht
          · exact h2 i ai hi hai hd
        · have : (a.put o.dst vc).tmps.getD t undef = a.tmps.getD t undef := by
            cases hod : o.dst with
            | none => rfl
            | some d =>
              have : ¬ (d = t) := fun q => ht (by rw [hod, q])
              simp only [Act.put, Array.getD_eq_getD_getElem?, Array.getElem?_setIfInBounds, if_neg this]
          rw [this]; exact h3.mono hle
  -- the louds that have come to pass
  have lmj : kindA ao.op = 3 → Lm aos ops.size L j ∧ Lm aos ops.size (L.setIfInBounds j true) (j + 1) := by
    intro hk3
    have key : ∀ i ai, aos[i]? = some ai → kindA ai.op = 3 → i ≠ j → (L.getD i false = true ↔ i < j) := by
      intro i ai hai hki hne
      obtain ⟨oi, hoi, hci⟩ := X.oper hai
      rcases Nat.lt_or_ge i j with q | q
      · exact ⟨fun _ => q, fun _ => before i (X.clash i j oi o ai ao q hoi ho hai hao (.inr (.inr ⟨hki, hk3⟩)))⟩
      · exact ⟨fun hL => (notafter i oi hoi (X.clash j i o oi ao ai (by omega) ho hoi hao hai (.inr (.inr ⟨hk3, hki⟩))) hL).elim, fun h => by omega⟩
    refine ⟨⟨by omega, fun i ai hai hki => ?_⟩, ⟨by omega, fun i ai hai hki => ?_⟩⟩
    · by_cases hij : i = j
      · subst hij; rw [hlf]; simp
      · exact key i ai hai hki hij
    · rw [gs]
      by_cases hij : i = j
      · subst hij; simp
      · rw [if_neg hij, key i ai hai hki hij]; omega
  have lmo : kindA ao.op ≠ 3 → ∀ m, Lm aos ops.size L m → Lm aos ops.size (L.setIfInBounds j true) m := by
    intro hk3 m hm
    refine ⟨hm.1, fun i ai hai hki => ?_⟩
    rw [gs, if_neg (fun q => by subst q; rw [hao] at hai; cases hai; exact hk3 hki)]
    exact hm.2 i ai hai hki
  obtain ⟨m0, hm0, hcum0, hown0⟩ := H.cum
  have cumAt : ∀ m, Lm aos ops.size L m → Cum (CompOf P) (S 0).A.size (S ops.size).A.size (S 0).A.get ρ0 w0 ρ (hd S ops.size m) w ∧
      ∀ i, i < ops.size → L.getD i false = false → ∀ b, (S i).A.size ≤ b → b < (S (i + 1)).A.size → ρ b = none ∧ hd S ops.size m b = (S (i + 1)).A.get b := by
    intro m hm
    rw [← X.same hm0 hm]; exact ⟨hcum0, hown0⟩
  have s0j := X.size (i := 0) (j := j) (by omega) (by omega)
  have sj1 := X.size (i := j) (j := j + 1) (by omega) (by omega)
  have sjn := X.size (i := j + 1) (j := ops.size) (by omega) (by omega)
  have hrelAt : ∀ m, Lm aos ops.size L m → HRel (CompOf P) ρ (S m).A w.heap := by
    intro m hm
    obtain ⟨hC, _⟩ := cumAt m hm
    have hg : ∀ b x, (S m).A.get b = some x → hd S ops.size m b = some x := fun b x hx => by
      rw [hd_step hm.1, if_pos (AHeap.get_lt hx)]; exact hx
    exact ⟨fun b e x he hx => hC.blk b e x he (hg b x hx), fun b b' e e' x x' hne he he' hx hx' hp hd => hC.inj b b' e e' x x' hne he he' (hg _ _ hx) (hg _ _ hx') hp hd, hC.glob⟩
  rcases hval with ⟨hw, hv⟩ | ⟨hw, hvu, hA'⟩
  · by_cases hk3 : kindA ao.op = 3
    · obtain ⟨l1, l2⟩ := lmj hk3
      obtain ⟨hC, hO⟩ := cumAt j l1
      obtain ⟨ρ', vc, w', h1, h2, T⟩ := val_steps (a := a) X.hcs hc hv hE (hrelAt j l1) (fun b p q => (hO j hjn hlf b p (by rw [hA]; exact q)).1) fb j rest k fcs
      rw [← hA] at T
      refine ⟨ρ', a.put o.dst vc, w', h1 ho (by rw [hwant]; exact hw), close ρ' vc w' (j + 1) h2 T.mono l2 ?_ ?_⟩
      · refine hC.step hfree T s0j sjn fun b => ?_
        by_cases hb : b < (S j).A.size
        · exact .inl ⟨hb, by rw [hd_step (by omega), if_pos hb], by rw [hd_step (by omega), if_pos (by omega)]⟩
        · by_cases hb2 : b < (S (j + 1)).A.size
          · exact .inr (.inl ⟨by omega, hb2, (hO j hjn hlf b (by omega) hb2).1, by rw [hd_step (by omega), if_pos hb2]⟩)
          · refine .inr (.inr ⟨fun q => absurd q hb, .inr (by omega), ?_⟩)
            rw [hd_step (m := j) (by omega), if_neg hb]
      · intro i hi hne hL b p q
        obtain ⟨o1, o2⟩ := hO i hi hL b p q
        have hn' : ρ' b = none := by
          apply Classical.byContradiction
          intro hx
          have := T.fresh b o1 hx
          exact disj i b hi hne p q this.1 this.2
        refine ⟨hn', ?_⟩
        rcases Nat.lt_or_ge i j with r | r
        · have hs := X.size (i := i + 1) (j := j) (by omega) (by omega)
          rw [hd_step (by omega), if_pos (by omega), T.absent b (by omega) o1, ← o2, hd_step (m := j) (by omega), if_pos (by omega)]
        · exact X.laid (by omega) hi p q
    · by_cases hk2 : kindA ao.op = 2
      · obtain ⟨x, hx, hL⟩ := kind_two hk2 hv
        have hv2 := hL ⟨(S j).A.size, .leaf⟩ rfl
        have hempty : ∀ b, AHeap.get ⟨(S j).A.size, .leaf⟩ b = none := fun b => by unfold AHeap.get; split <;> rfl
        obtain ⟨hC, hO⟩ := cumAt m0 hm0
        have hs1 : (S (j + 1)).A.size = (S j).A.size + 1 := by rw [hA, hx]; rfl
        obtain ⟨hn0, hg0⟩ := hO j hjn hlf (S j).A.size (Nat.le_refl _) (by omega)
        obtain ⟨ρ', vc, w', h1, h2, T⟩ := val_steps (a := a) X.hcs hc hv2 hE ⟨fun b e x he hx => (by rw [hempty] at hx; cases hx), fun b b' e e' x x' hne he he' hx => (by rw [hempty] at hx; cases hx), hC.glob⟩ (fun b p q => by
          have : b = (S j).A.size := by simp only [AHeap.size_alloc] at p q; omega
          rw [this]; exact hn0) fb j rest k fcs
        refine ⟨ρ', a.put o.dst vc, w', h1 ho (by rw [hwant]; exact hw), close ρ' vc w' m0 h2 T.mono (lmo hk3 m0 hm0) ?_ ?_⟩
        · refine hC.step hfree T s0j (by simp only [AHeap.size_alloc]; omega) fun b => ?_
          by_cases hb : b = (S j).A.size
          · refine .inr (.inl ⟨?_, ?_, ?_, ?_⟩)
            · simp only; omega
            · simp only [AHeap.size_alloc]; omega
            · rw [hb]; exact hn0
            · rw [hb, hg0, hA, hx, AHeap.get_alloc, AHeap.get_alloc, if_pos rfl, if_pos rfl]
          · exact .inr (.inr ⟨fun _ => hempty b, by simp only [AHeap.size_alloc]; omega, rfl⟩)
        · intro i hi hne hL b p q
          obtain ⟨o1, o2⟩ := hO i hi hL b p q
          refine ⟨?_, o2⟩
          apply Classical.byContradiction
          intro hx
          have := T.fresh b o1 hx
          simp only [AHeap.size_alloc] at this
          exact disj i b hi hne p q this.1 (by omega)
      · obtain ⟨hx, hq, hB⟩ := kind_quiet hk2 hk3 hv
        have hm : ∃ m, Lm aos ops.size L m ∧ qop (S j).env (S m).A ao.op = some v := by
          by_cases hk0 : kindA ao.op = 0
          · exact ⟨m0, hm0, by rw [kind_zero (A := (S j).A) hk0 (S m0).A]; exact hq⟩
          · have hk1 : kindA ao.op = 1 := by
              revert hk0 hk2 hk3
              cases ao.op <;> simp [kindA]
            have fin : ∀ l al m, aos[l]? = some al → kindA al.op = 3 → ¬ (if l < j then Bf l j else Bf j l) → m = l ∨ m = l + 1 → Lm aos ops.size L m → ∃ m, Lm aos ops.size L m ∧ qop (S j).env (S m).A ao.op = some v := by
              intro l al m hal hkl hnb hml hLm
              obtain ⟨d, hd1, hd2⟩ := X.chk j l ao al hao hal hk1 hkl hnb m hml hw
              exact ⟨m, hLm, by rw [hd2, (hset d hd1).2]⟩
            let Q : Nat → Prop := fun i => ∃ ai, aos[i]? = some ai ∧ kindA ai.op = 3
            by_cases hu : ∃ i, i < j ∧ m0 ≤ i ∧ Q i
            · obtain ⟨i, hij, hmi, hQ⟩ := hu
              obtain ⟨l, p, q, ⟨al, hal, hkl⟩, s⟩ := least_loud Q m0 i hmi hQ
              have hLl : L.getD l false = false := by
                cases hx : L.getD l false with
                | false => rfl
                | true => have := (hm0.2 l al hal hkl).1 hx; omega
              refine fin l al l hal hkl ?_ (.inl rfl) ⟨by omega, fun i' ai' hai' hki' => ?_⟩
              · rw [if_pos (by omega)]
                intro hb
                have := before l hb
                rw [hLl] at this; cases this
              · rw [hm0.2 i' ai' hai' hki']
                constructor
                · intro; omega
                · intro h
                  apply Classical.byContradiction
                  intro h2
                  exact s i' (by omega) h ⟨ai', hai', hki'⟩
            · by_cases hd : ∃ i, j < i ∧ i < m0 ∧ Q i
              · obtain ⟨i, hji, him, hQ⟩ := hd
                obtain ⟨l, p, q, ⟨al, hal, hkl⟩, s⟩ := last_loud Q i hQ m0 him
                have hLl : L.getD l false = true := (hm0.2 l al hal hkl).2 q
                have hm0n := hm0.1
                refine fin l al (l + 1) hal hkl ?_ (.inr rfl) ⟨by omega, fun i' ai' hai' hki' => ?_⟩
                · rw [if_neg (by omega)]
                  intro hb
                  obtain ⟨ol, hol, _⟩ := X.oper hal
                  exact notafter l ol hol hb hLl
                · rw [hm0.2 i' ai' hai' hki']
                  constructor
                  · intro h
                    apply Classical.byContradiction
                    intro h2
                    exact s i' (by omega) h ⟨ai', hai', hki'⟩
                  · intro; omega
              · refine ⟨j, ⟨by omega, fun i' ai' hai' hki' => ?_⟩, hq⟩
                rw [hm0.2 i' ai' hai' hki']
                have hne : i' ≠ j := fun q => by subst q; rw [hao] at hai'; cases hai'; exact hk3 hki'
                constructor
                · intro h
                  apply Classical.byContradiction
                  intro h2
                  exact hd ⟨i', by omega, h, ai', hai', hki'⟩
                · intro h
                  apply Classical.byContradiction
                  intro h2
                  exact hu ⟨i', h, by omega, ai', hai', hki'⟩
        obtain ⟨m, hLm, hqm⟩ := hm
        obtain ⟨hC, hO⟩ := cumAt m hLm
        have hsz := X.size (i := 0) (j := m) (by omega) hLm.1
        have hsz2 := X.size (i := m) (j := ops.size) hLm.1 (Nat.le_refl _)
        obtain ⟨ρ', vc, w', h1, h2, T⟩ := val_steps (a := a) X.hcs hc (hB _ hqm) hE (hrelAt m hLm) (fun b p q => by omega) fb j rest k fcs
        refine ⟨ρ', a.put o.dst vc, w', h1 ho (by rw [hwant]; exact hw), close ρ' vc w' m h2 T.mono (lmo hk3 m hLm) ?_ ?_⟩
        · refine hC.step hfree T hsz hsz2 fun b => ?_
          by_cases hb : b < (S m).A.size
          · exact .inl ⟨hb, by rw [hd_step hLm.1, if_pos hb], by rw [hd_step hLm.1, if_pos hb]⟩
          · exact .inr (.inr ⟨fun q => absurd q hb, .inr (by omega), rfl⟩)
        · intro i hi hne hL b p q
          obtain ⟨o1, o2⟩ := hO i hi hL b p q
          refine ⟨?_, o2⟩
          apply Classical.byContradiction
          intro hx
          have := T.fresh b o1 hx
          omega
  · -- not wanted
    have hst : ∀ b, b < (S j).A.size → (S (j + 1)).A.get b = (S j).A.get b := fun b _ => by rw [hA, hA']
    have fin : ∀ m', Lm aos ops.size (L.setIfInBounds j true) m' → (∃ m, Lm aos ops.size L m ∧ hd S ops.size m = hd S ops.size m') → ∃ ρ' a' w', Steps P (lone (fat fb a (.inRegion ops (j :: rest) :: k)) fcs w) (lone (fat fb a' (.inRegion ops rest :: k)) fcs w') ∧ DInv P ops aos S ρ0 w0 df (L.setIfInBounds j true) ρ' a' w' := by
      intro m' hm' ⟨m, hm, heq⟩
      obtain ⟨hC, hO⟩ := cumAt m hm
      rw [heq] at hC hO
      refine ⟨ρ, a.put o.dst undef, w, Steps.one (st_opSkip ho (by rw [hwant]; exact hw)), close ρ undef w m' ?_ (Ren.le_refl _) hm' hC fun i hi hne hL => hO i hi hL⟩
      rw [hvu]; exact .tuple _ _ .nil
    by_cases hk3 : kindA ao.op = 3
    · obtain ⟨l1, l2⟩ := lmj hk3
      exact fin (j + 1) l2 ⟨j, l1, funext fun b => X.shift hjn hst b⟩
    · exact fin m0 (lmo hk3 m0 hm0) ⟨m0, hm0, rfl⟩

theorem DInv.walk (X : DCtx P call ops aos S Bf) (hfree : ∀ b, (S 0).A.size ≤ b → b < (S ops.size).A.size → ρ0 b = none) : ∀ (fuel t : Nat) (L : Array Bool) (ρ : Ren) (a : Act) (w : World), L.toList.count false ≤ fuel → DInv P ops aos S ρ0 w0 df L ρ a w →
    ∀ b k cs, ∃ ρ' a' w' L', Steps P (lone (fat b a (.inRegion ops (Region.linearise.go .any ops fuel t L []) :: k)) cs w) (lone (fat b a' (.inRegion ops [] :: k)) cs w') ∧ DInv P ops aos S ρ0 w0 df L' ρ' a' w' ∧ ∀ i, i < ops.size → L'.getD i false = true := by
  intro fuel
  induction fuel with
  | zero =>
    intro t L ρ a w hcnt H fb fk fcs
    refine ⟨ρ, a, w, L, Steps.refl _ _, H, fun i hi => ?_⟩
    have hlt : i < L.size := by rw [H.lsz]; exact hi
    rw [Array.getD_eq_getD_getElem?, Array.getElem?_eq_getElem hlt, Option.getD_some]
    cases hx : L[i] with
    | true => rfl
    | false =>
      have : false ∈ L.toList := by rw [← hx]; simp
      have := List.count_pos_iff.2 this
      omega
  | succ fuel ih =>
    intro t L ρ a w hcnt H fb fk fcs
    simp only [Region.linearise.go]
    change ∃ ρ' a' w' L', Steps P (lone (fat fb a (.inRegion ops (match (Region.ready .any ops L)[t % (Region.ready .any ops L).length]? with
      | some i => Region.linearise.go .any ops fuel (t / (Region.ready .any ops L).length) (L.setIfInBounds i true) [i]
      | none => [].reverse) :: fk)) fcs w) _ ∧ _
    cases hi : (Region.ready .any ops L)[t % (Region.ready .any ops L).length]? with
    | none =>
      have hnil : Region.ready .any ops L = [] := by
        cases hr : Region.ready .any ops L with
        | nil => rfl
        | cons x xs =>
          rw [hr] at hi
          have hlt : t % (x :: xs).length < (x :: xs).length := Nat.mod_lt _ (by simp)
          simp at hi
          simp at hlt
          omega
      refine ⟨ρ, a, w, L, Steps.refl _ _, H, fun i hi => ?_⟩
      induction i using Nat.strongRecOn with
      | _ i ihi =>
        cases hx : L.getD i false with
        | true => rfl
        | false =>
          have ho : ops[i]? = some ops[i] := Array.getElem?_eq_getElem hi
          have : i ∈ Region.ready .any ops L := by
            rw [mem_ready]
            refine ⟨?_, _, ho, fun e he hb => ?_⟩
            · have hlt : i < L.size := by rw [H.lsz]; exact hi
              simp only [Array.getD_eq_getD_getElem?, Array.getElem?_eq_getElem hlt, Option.getD_some] at hx ⊢
              exact hx
            · have := X.back i _ e ho (by simpa using he) hb
              exact ihi e.on this (by omega)
          rw [hnil] at this; cases this
    | some i =>
      have hmem := List.mem_of_getElem? hi
      obtain ⟨ρ1, a1, w1, s1, H1⟩ := H.step X hfree hmem fb (Region.linearise.go .any ops fuel (t / (Region.ready .any ops L).length) (L.setIfInBounds i true) []) fk fcs
      have hl0 := (mem_ready.1 hmem).1
      have hlt : i < L.size := by
        rcases Nat.lt_or_ge i L.size with q | q
        · exact q
        · simp [Array.getD_eq_getD_getElem?, Array.getElem?_eq_none q] at hl0
      have hLi : L[i] = false := by
        simpa [Array.getD_eq_getD_getElem?, Array.getElem?_eq_getElem hlt] using hl0
      have hc2 : (L.setIfInBounds i true).toList.count false ≤ fuel := by
        rw [Array.toList_setIfInBounds, List.count_set (by simpa using hlt)]
        have hp : 0 < L.toList.count false := List.count_pos_iff.2 (by rw [← hLi]; simp)
        simp only [Array.getElem_toList, hLi]
        rw [if_pos (by rfl), if_neg (by decide)]; omega
      obtain ⟨ρ2, a2, w2, L2, s2, H2, hall⟩ := ih (t / (Region.ready .any ops L).length) _ ρ1 a1 w1 hc2 H1 fb fk fcs
      refine ⟨ρ2, a2, w2, L2, ?_, H2, hall⟩
      simp only
      rw [linearise_go_acc, List.reverse_singleton, List.singleton_append]
      exact s1.trans s2

/-- A region that draws its order comes to where its text comes to. -/
theorem regionD_steps (X : DCtx P call ops aos S Bf) (hmix : P.follows .mixedOrders = true) (fn : FuncId) {id : Nat} {ρ : Ren} {a : Act} {w : World} (hE : EnvR ρ (S 0).env a) (hn : a.tmps.size = (S 0).n) (hr : HRel (CompOf P) ρ (S 0).A w.heap)
    (hfree : ∀ n, (S 0).A.size ≤ n → n < (S ops.size).A.size → ρ n = none) :
    ∀ b : Frame, b.fn = fn → ∀ k cs, ∃ ρ' a' w', Steps P (lone (fat b a (.code (.region id ops true) :: k)) cs w) (lone (fat b a' k) cs w') ∧
      EnvR ρ' (S ops.size).env a' ∧ a'.tmps.size = (S ops.size).n ∧ a'.defers = a.defers ∧ (S ops.size).dfs = (S 0).dfs ∧ Tr (CompOf P) ρ (S 0).A w ρ' (S ops.size).A w' := by
  intro fb hb fk fcs
  have hrep : ∀ i, (Array.replicate ops.size false).getD i false = false := by
    intro i
    simp only [Array.getD_eq_getD_getElem?, Array.getElem?_replicate]
    split <;> rfl
  have hmono : ∀ i, i ≤ ops.size → (S i).A.size ≤ (S ops.size).A.size := fun i hi => X.size hi (Nat.le_refl _)
  have hg0 : ∀ b x, ρ b ≠ none → hd S ops.size 0 b = some x → (S 0).A.get b = some x := by
    intro b x hb hx
    have hlt := hd_some_lt hmono hx
    by_cases h0 : b < (S 0).A.size
    · rw [hd_step (by omega), if_pos h0] at hx; exact hx
    · exact absurd (hfree b (by omega) hlt) hb
  have H0 : DInv P ops aos S ρ w a.defers (Array.replicate ops.size false) ρ a { w with drawn := w.drawn + 1 } := by
    refine ⟨by simp, fun j o ho hL => (by rw [hrep] at hL; cases hL), ⟨0, ⟨by omega, fun i ai _ _ => by rw [hrep]; simp⟩, ?_, fun i hi _ b h1 h2 => ⟨?_, X.laid (by omega) hi h1 h2⟩⟩,
      fun t => ⟨0, by omega, fun i ai hi => by omega, fun i ai _ _ _ => hrep i, hE t⟩, hn, rfl⟩
    · refine ⟨fun b e x he hx => hr.blk b e x he (hg0 b x (by rw [he]; simp) hx), fun b b' e e' x x' hne he he' hx hx' hp hd => hr.inj b b' e e' x x' hne he he' (hg0 b x (by rw [he]; simp) hx) (hg0 b' x' (by rw [he']; simp) hx') hp hd, hr.glob, Ren.le_refl _,
        fun b h1 h2 => absurd h1 h2, fun b hb _ => by rw [hd_step (by omega), if_pos hb], fun b hb _ => by rw [hd_step (by omega), if_pos hb], fun b e h1 h2 => (by rw [h1] at h2; cases h2), fun _ _ _ => rfl, Nat.le_refl _, rfl, rfl, rfl⟩
    · have := X.size (i := 0) (j := i) (by omega) (by omega)
      have := X.size (i := i + 1) (j := ops.size) (by omega) (by omega)
      exact hfree b (by omega) (by omega)
  obtain ⟨ρ', a', w', L', s1, H1, hall⟩ := DInv.walk X hfree ops.size (w.tape w.drawn (.order fn id)) _ ρ a _ (by simp) H0 fb fk fcs
  have hLm : Lm aos ops.size L' ops.size := ⟨Nat.le_refl _, fun i ai hai _ => by have := X.lt hai; rw [hall i this]; simp [this]⟩
  obtain ⟨m, hm, hC, _⟩ := H1.cum
  rw [X.same hm hLm] at hC
  have hlast : hd S ops.size ops.size = (S ops.size).A.get := funext fun b => hd_last
  rw [hlast] at hC
  refine ⟨ρ', a', w', ?_, fun t => ?_, by rw [(X.nn (Nat.le_refl _)).1]; exact H1.asz, H1.dfr, (X.nn (Nat.le_refl _)).2, ?_⟩
  · have h1 := s1
    have h2 := (Steps.head (st_regionDraw (P := P) (b := fb) (a := a) (k := fk) (cs := fcs) (w := w) (ops := ops) (id := id)) (by
      rw [hb]
      simp only [Region.schedule, hmix, Bool.true_or, if_true, Region.linearise]
      exact h1))
    exact h2.trans (Steps.one st_regionEnd)
  · obtain ⟨k, hk, h1, h2, h3⟩ := H1.env t
    rw [X.rd t hk (Nat.le_refl _) fun i ai p q hai hd => by
      have := h2 i ai p hai hd
      rw [hall i q] at this; cases this]
    exact h3
  · exact ⟨⟨hC.blk, hC.inj, hC.glob⟩, hC.mono, hfree, hC.fresh, X.size (by omega) (Nat.le_refl _), hC.absent, hC.still, hC.newcb, hC.frame, hC.hsize, hC.os, hC.tape, hC.output⟩

theorem mapM_get {α β : Type} (f : α → Option β) : ∀ (l : List α) (r : List β), l.mapM f = some r → r.length = l.length ∧ ∀ (j : Nat) o, l[j]? = some o → ∃ b, r[j]? = some b ∧ f o = some b := by
  intro l
  induction l with
  | nil => intro r h; cases h; exact ⟨rfl, fun j o h => by simp at h⟩
  | cons x l ih =>
    intro r h
    simp only [List.mapM_cons, Option.bind_eq_bind, Option.pure_def] at h
    cases h1 : f x with
    | none => rw [h1] at h; cases h
    | some y =>
      rw [h1] at h; simp only [Option.bind_some] at h
      cases h2 : l.mapM f with
      | none => rw [h2] at h; cases h
      | some r2 =>
        rw [h2] at h; cases h
        obtain ⟨k1, k2⟩ := ih r2 h2
        refine ⟨by simp [k1], fun j o ho => ?_⟩
        cases j with
        | zero => simp at ho; subst ho; exact ⟨y, rfl, h1⟩
        | succ j => exact k2 j o (by simpa using ho)

theorem DCtx.of {chk : List (Nat × Nat)} {st : St} {tr : List St} (hcs : CallSound P call) (h1 : compileOps P ops = some aos) (hcert : certD ops.toList aos = some chk) (htr : runTrace call aos st = some tr) (hchk : chk.all (chkOk aos tr) = true) :
    ∃ S, DCtx P call ops aos S (fun i j => ordD (masksD ops.toList []) i j = true) ∧ S 0 = st ∧ tr.getLast? = some (S ops.size) := by
  obtain ⟨hlen, hget⟩ := mapM_get _ _ _ h1
  obtain ⟨S, k1, k2, k3, k4⟩ := runTrace_spec _ _ _ htr
  have hlen' : aos.length = ops.size := by simpa using hlen
  unfold certD at hcert
  simp only at hcert
  split at hcert
  · rename_i hc
    simp only [Bool.and_eq_true, List.all_eq_true] at hc
    obtain ⟨hback, hpair⟩ := hc
    cases hcert
    refine ⟨S, ⟨hcs, hlen', fun j o ho => hget j o (by simpa using ho), k3, ?_, ?_, ?_, ?_⟩, k2, by rw [k4, hlen']⟩
    · intro i j oi oj ai aj hij hoi hoj hai haj hcl
      have hj : j < ops.toList.length := by simpa using (Array.getElem?_eq_some_iff.1 hoj).1
      have hp := hpair j (by simpa using hj) i (by simpa using hij)
      unfold pairD at hp
      have e1 : ops.toList[i]? = some oi := by simpa using hoi
      have e2 : ops.toList[j]? = some oj := by simpa using hoj
      rw [e1, e2, hai, haj] at hp
      simp only [Bool.or_eq_true, Bool.not_eq_true'] at hp
      rcases hp with hp | hp
      · exfalso
        simp only [Bool.or_eq_false_iff] at hp
        obtain ⟨⟨p1, p2⟩, p3⟩ := hp
        rcases hcl with ⟨d, q1, q2⟩ | ⟨d, q1, q2⟩ | ⟨q1, q2⟩
        · rw [q1] at p1; simp at p1; exact p1 q2
        · rw [q1] at p2; simp at p2; exact p2 q2
        · rw [q1, q2] at p3; simp at p3
      · exact hp
    · intro j o e ho he hb
      unfold backD at hback
      rw [List.all_eq_true] at hback
      have e1 : ops.toList[j]? = some o := by simpa using ho
      have hm : (o, j) ∈ ops.toList.zipIdx := by
        rw [List.mem_zipIdx_iff_getElem?]; exact e1
      have := hback _ hm
      rw [List.all_eq_true] at this
      have := this e he
      simpa [hb] using this
    · intro D hcl j o ho hr i hi
      exact ordD_sound D (fun j o ho => hcl j o (by simpa using ho)) j o (by simpa using ho) hr i hi
    · intro j l aj al haj hal hkj hkl hnb m hm hw
      have hj : j < aos.length := (List.getElem?_eq_some_iff.1 haj).1
      have hl : l < aos.length := (List.getElem?_eq_some_iff.1 hal).1
      have hmem : (j, m) ∈ chksD (masksD ops.toList []) aos := by
        unfold chksD
        rw [List.mem_flatMap]
        refine ⟨j, by simpa using hj, ?_⟩
        rw [haj]
        simp only [hkj, beq_self_eq_true, if_true]
        rw [List.mem_flatMap]
        refine ⟨l, by simpa using hl, ?_⟩
        rw [hal]
        have : (if l < j then ordD (masksD ops.toList []) l j else ordD (masksD ops.toList []) j l) = false := by
          by_cases hlj : l < j
          · rw [if_pos hlj] at hnb ⊢; simpa using hnb
          · rw [if_neg hlj] at hnb ⊢; simpa using hnb
        simp only [hkl, beq_self_eq_true, this, Bool.not_false, Bool.and_self, if_true]
        rcases hm with h | h <;> simp [h]
      have := (List.all_eq_true.1 hchk) _ hmem
      unfold chkOk at this
      simp only at this
      rw [haj, k1 j (by omega), k1 (j + 1) (by omega), k1 m (by omega)] at this
      simp only [hw, if_true] at this
      split at this
      · rename_i d v hd hv
        exact ⟨d, hd, by rw [hv, vbeq_eq _ _ _ this]⟩
      · cases this
  · cases hcert

end
end Go.AS
end

section
namespace Go.AS
open Go
set_option linter.unusedSimpArgs false
set_option linter.unusedVariables false

section
variable {P : Program} {ρ : Ren} {A : AHeap} {w : World} {e : Env} {a : Act} {ops : Array Oper} {call : CallT} {b : Frame} {k : List Item} {cs : List Frame} {fn : FuncId} {ctx : Option Nat}

theorem iter_size {f : St → Option (AExit × St)} (hf : ∀ st x st', f st = some (x, st') → st.A.size ≤ st'.A.size) (n : Nat) : ∀ {st : St} {x : AExit} {st' : St}, iter f n st = some (x, st') → st.A.size ≤ st'.A.size := by
  induction n with
  | zero => intro st x st' h; cases h
  | succ n ih =>
    intro st x st' h
    simp only [iter] at h
    split at h
    · rename_i st1 h1
      exact Nat.le_trans (hf _ _ _ h1) (ih h)
    · rename_i r h1
      cases h
      exact hf _ _ _ h1
    · cases h

theorem runTrace_size (hcs : CallSound P call) {l : List AOper} : ∀ {st : St} {tr : List St} {st' : St}, runTrace call l st = some tr → tr.getLast? = some st' → st.A.size ≤ st'.A.size := by
  induction l with
  | nil => intro st tr st' h hl; cases h; cases hl; exact Nat.le_refl _
  | cons o l ih =>
    intro st tr st' h hl
    simp only [runTrace] at h
    split at h
    · rename_i st1 h1
      split at h
      · rename_i tr1 h2
        cases h
        have hne : tr1 ≠ [] := by
          intro h0; subst h0
          cases l with
          | nil => cases h2
          | cons o2 l => simp only [runTrace] at h2; (repeat' split at h2) <;> cases h2
        rw [List.getLast?_cons_of_ne_nil hne] at hl
        exact Nat.le_trans (runOp_size hcs h1) (ih h2 hl)
      · cases h
    · cases h

theorem finG_inv {st st' : St} {o : Option (AExit × St)} {x : AExit} (h : finG st o = some (x, st')) : ∃ x1 sc, o = some (x1, sc) ∧ (∀ id, x1 ≠ .exit id) ∧ sc.dfs = [] ∧ st.dfs = [] ∧ x = .ret ∧ st' = { st with A := sc.A } := by
  have key : ∀ (x1 : AExit) (sc : St), o = some (x1, sc) → (∀ id, x1 ≠ .exit id) → (if sc.dfs.isEmpty && st.dfs.isEmpty then some (AExit.ret, ({ st with A := sc.A } : St)) else none) = some (x, st') → ∃ x1 sc, o = some (x1, sc) ∧ (∀ id, x1 ≠ .exit id) ∧ sc.dfs = [] ∧ st.dfs = [] ∧ x = .ret ∧ st' = { st with A := sc.A } := by
    intro x1 sc ho hne h
    split at h
    · rename_i hc
      simp only [Bool.and_eq_true, List.isEmpty_iff] at hc
      cases h
      exact ⟨x1, sc, ho, hne, hc.1, hc.2, rfl, rfl⟩
    · cases h
  cases o with
  | none => cases h
  | some q =>
    obtain ⟨x1, sc⟩ := q
    cases x1 with
    | exit id => cases h
    | normal => exact key _ _ rfl (fun _ => by simp) h
    | ret => exact key _ _ rfl (fun _ => by simp) h
theorem guarded_inv {n fc d nc r y : Nat} {clos inner : ACode} {st st' : St} {x : AExit} (h : execC call fn ctx n (.guarded fc d nc r y clos inner) st = some (x, st')) :
    ∃ cap x1 st1 v x2 sc, capsG fc (st.env.rd d) = some cap ∧ execC call fn ctx n inner st = some (x1, st1) ∧ valG x1 st1 = some v ∧ (cap.length ≤ nc ∧ r < nc ∧ y < nc) ∧
      execC call fc none n clos { env := envG cap r y v, n := nc, dfs := [], A := st1.A } = some (x2, sc) ∧ (∀ id, x2 ≠ .exit id) ∧ sc.dfs = [] ∧ st1.dfs = [] ∧ x = .ret ∧ st' = { st1 with A := sc.A } := by
  simp only [execC] at h
  split at h
  · rename_i cap hcap
    split at h
    · rename_i x1 st1 h1
      split at h
      · rename_i v hv
        split at h
        · rename_i hlt
          obtain ⟨x2, sc, k1, k2, k3, k4, k5, k6⟩ := finG_inv h
          exact ⟨cap, x1, st1, v, x2, sc, hcap, h1, hv, hlt, k1, k2, k3, k4, k5, k6⟩
        · cases h
      · cases h
    · cases h
  · cases h

theorem execC_size (hcs : CallSound P call) {n : Nat} (ac : ACode) : ∀ {st : St} {x : AExit} {st' : St}, execC call fn ctx n ac st = some (x, st') → st.A.size ≤ st'.A.size := by
  induction ac generalizing fn ctx with
  | skip => intro st x st' h; cases h; exact Nat.le_refl _
  | ops l =>
    intro st x st' h
    simp only [execC] at h
    cases h1 : runOps call l st with
    | none => rw [h1] at h; cases h
    | some st1 => rw [h1] at h; cases h; exact runOps_size hcs h1
  | opsD l chk =>
    intro st x st' h
    simp only [execC] at h
    split at h
    · rename_i tr htr
      split at h
      · cases hl : tr.getLast? with
        | none => rw [hl] at h; cases h
        | some st1 =>
          rw [hl] at h; cases h
          exact runTrace_size hcs htr hl
      · cases h
    · cases h
  | seq p q ihp ihq =>
    intro st x st' h
    simp only [execC] at h
    split at h
    · rename_i st1 h1
      exact Nat.le_trans (ihp h1) (ihq h)
    · exact ihp h
  | cond c p q ihp ihq =>
    intro st x st' h
    simp only [execC] at h
    split at h
    · exact ihp h
    · exact ihq h
    · cases h
  | block id p ih =>
    intro st x st' h
    simp only [execC] at h
    split at h
    · rename_i id' st1 h1
      split at h
      · cases h; exact ih h1
      · cases h; exact ih h1
    · exact ih h
  | loop p ih =>
    intro st x st' h
    exact iter_size (fun st x st' h => ih h) n h
  | exit id => intro st x st' h; cases h; exact Nat.le_refl _
  | ret => intro st x st' h; cases h; exact Nat.le_refl _
  | rangeFunc f params assign body _ _ =>
    intro st x st' h
    have go : ∀ (st0 : St) (d : Nat), (match call (ev st0.env f) [.func (.yield st0.A.size) #[] #[]] (st0.A.alloc (.loop .ready none fn st0.n st0.env params assign body d)) with
      | some (_, A2) => match A2.get st0.A.size with
        | some (.loop s p f' n' e' ps a' b' d') => if s = .busy then none else
          match exitOf p with
          | some x => some (x, { st0 with A := A2.set st0.A.size (.loop .exhausted p f' n' e' ps a' b' d') })
          | none => none
        | _ => none
      | none => none) = some (x, st') → st0.A.size ≤ st'.A.size := by
      intro st0 d h
      split at h
      · rename_i v A2 hc
        have := (hcs _ _ _ _ _ hc).1
        simp only [AHeap.size_alloc] at this
        split at h
        · split at h
          · cases h
          · split at h
            · cases h; simp; omega
            · cases h
        · cases h
      · cases h
    simp only [execC] at h
    split at h
    · have := go { st with A := st.A.alloc (.dfr false), dfs := st.A.size :: st.dfs } st.A.size h; simp at this; omega
    · split at h
      · exact go _ _ h
      · cases h
  | guarded fc d nc r y clos inner ihc ihi =>
    intro st x st' h
    obtain ⟨cap, x1, st1, v, x2, sc, _, h1, _, _, h2, _, _, _, _, rfl⟩ := guarded_inv h
    have h3 := ihc h2
    exact Nat.le_trans (ihi h1) h3

theorem free_next {ρ1 : Ren} {A A1 A2 : AHeap} {w w1 : World} {C : Comp} (h : Tr C ρ A w ρ1 A1 w1) (hf : ∀ n, A.size ≤ n → n < A2.size → ρ n = none) : ∀ n, A1.size ≤ n → n < A2.size → ρ1 n = none := by
  intro n h1 h2
  cases hρ : ρ1 n with
  | none => rfl
  | some en =>
    have h0 := hf n (Nat.le_trans h.size h1) h2
    have := h.fresh n h0 (by rw [hρ]; simp)
    omega

theorem StR.mono {ρ' : Ren} {st : St} (h : StR ρ st a) (hle : Ren.le ρ ρ') : StR ρ' st a := ⟨h.env.mono hle, h.n, h.dfs.mono hle⟩

/-- Enough rounds of a loop. -/
theorem iter_sound (c : Code) (f : St → Option (AExit × St)) (hsz : ∀ st x st', f st = some (x, st') → st.A.size ≤ st'.A.size)
    (hf : ∀ st x st', f st = some (x, st') → SExec P fn ctx c st x st') (n : Nat) : ∀ (st : St) (x : AExit) (st' : St), iter f n st = some (x, st') →
      ∀ (ρ : Ren) (a : Act) (w : World) (b : Frame), b.fn = fn → StR ρ st a → HRel (CompOf P) ρ st.A w.heap → (∀ n, st.A.size ≤ n → n < st'.A.size → ρ n = none) → RoundR ρ ctx b →
      ∀ k cs, ∃ ρ' a' w', x ≠ .normal ∧ Lands P (lone (fat b a (.code c :: .inLoop c :: k)) cs w) b k cs x a' w' ∧ StR ρ' st' a' ∧ Tr (CompOf P) ρ st.A w ρ' st'.A w' := by
  induction n with
  | zero => intro st x st' h; cases h
  | succ n ih =>
    intro st x st' h ρ a w b hb hS hr hfree hR k cs
    simp only [iter] at h
    split at h
    · rename_i st1 h1
      have s1 := hsz _ _ _ h1
      have s2 := iter_size hsz n h
      obtain ⟨ρ1, a1, w1, l1, S1, T1⟩ := hf _ _ _ h1 ρ a w b hb hS hr (fun n p q => hfree n p (by omega)) hR (.inLoop c :: k) cs
      obtain ⟨ρ2, a2, w2, hx, l2, S2, T2⟩ := ih _ _ _ h ρ1 a1 w1 b hb S1 T1.rel (free_next T1 hfree) (hR.mono T1.mono) k cs
      refine ⟨ρ2, a2, w2, hx, ?_, S2, T1.trans T2⟩
      exact Lands.of_steps (Steps.trans l1 (Steps.one st_inLoop)) l2
    · rename_i r hne h1
      cases h
      obtain ⟨ρ1, a1, w1, l1, S1, T1⟩ := hf _ _ _ h1 ρ a w b hb hS hr hfree hR (.inLoop c :: k) cs
      have hx : x ≠ .normal := fun h => hne st' (by rw [h])
      exact ⟨ρ1, a1, w1, hx, Lands.pass hx (fun id k2 _ => rfl) l1, S1, T1⟩
    · cases h

theorem run_endLoop {l : Nat} {r : Loop} (h : w.heap[l]? = some (.loop r)) (hs : r.state ≠ .busy) : (Instr.endLoop l).run P w = .ok r.pending { w with heap := w.heap.setIfInBounds l (.loop { r with state := .exhausted }) } := by
  have hb : (r.state == LoopState.busy) = false := by simpa using hs
  simp only [Instr.endLoop, run_bind, run_getLoop h, hb, Bool.false_eq_true, if_false, run_setObj h (fun _ _ _ => by simp), run_pure]

theorem range_size (hcs : CallSound P call) {f : Operand} {params : List Nat} {aa ab : ACode} {st0 : St} {d : Nat} {x : AExit} {st' : St}
    (h : (match call (ev st0.env f) [.func (.yield st0.A.size) #[] #[]] (st0.A.alloc (.loop .ready none fn st0.n st0.env params aa ab d)) with
      | some (_, A2) => match A2.get st0.A.size with
        | some (.loop s p f' n' e' ps a' b' d') => if s = .busy then none else
          match exitOf p with
          | some x => some (x, { st0 with A := A2.set st0.A.size (.loop .exhausted p f' n' e' ps a' b' d') })
          | none => none
        | _ => none
      | none => none) = some (x, st')) : st0.A.size < st'.A.size := by
  split at h
  · rename_i v A2 hc
    have := (hcs _ _ _ _ _ hc).1
    simp only [AHeap.size_alloc] at this
    split at h
    · split at h
      · cases h
      · split at h
        · cases h; simp; omega
        · cases h
    · cases h
  · cases h

/-- A loop over a function, from where its record is to be laid. -/
theorem range_sound (hcs : CallSound P call) {f : Operand} {params : Array Tmp} {assign body : Code} {aa ab : ACode} (hf : okOp f = true) (ha : compileC P assign = some aa) (hb : compileC P body = some ab)
    {st0 : St} {d : Nat} {x : AExit} {st' : St}
    (h : (match call (ev st0.env f) [.func (.yield st0.A.size) #[] #[]] (st0.A.alloc (.loop .ready none fn st0.n st0.env params.toList aa ab d)) with
      | some (_, A2) => match A2.get st0.A.size with
        | some (.loop s p f' n' e' ps a' b' d') => if s = .busy then none else
          match exitOf p with
          | some x => some (x, { st0 with A := A2.set st0.A.size (.loop .exhausted p f' n' e' ps a' b' d') })
          | none => none
        | _ => none
      | none => none) = some (x, st'))
    {ρ : Ren} {a : Act} {w w0 : World} {b : Frame} (hbf : b.fn = fn) {mark : List Deferred} {ed : REnt} (hd : ρ d = some ed)
    (hS : StR ρ st0 { a with defers := mark ++ a.defers }) (hr : HRel (CompOf P) ρ st0.A w0.heap) (hfree : ∀ n, st0.A.size ≤ n → n < st'.A.size → ρ n = none)
    (hent : (Instr.enterLoop b.fn a.tmps params assign body b.roundOf).run P w = .ok (w0.heap.size, mark) { w0 with heap := w0.heap.push (.loop { state := .ready, pending := none, fn := b.fn, tmps := a.tmps, params := params, assign := assign, body := body, defers := ed.cb }) }) :
    ∀ k cs, ∃ ρ' a' w', Lands P (lone (fat b a (.code (.rangeFunc f params assign body) :: k)) cs w) b k cs x a' w' ∧ StR ρ' st' a' ∧ Tr (CompOf P) ρ st0.A w0 ρ' st'.A w' := by
  intro k cs
  split at h
  case h_2 => cases h
  rename_i v A2 hcall
  split at h
  case h_2 => cases h
  rename_i s p f' n' e' ps a' b' d' hget
  split at h
  · cases h
  rename_i hbusy
  split at h
  case h_2 => cases h
  rename_i x' hx
  cases h
  have hsz := (hcs _ _ _ _ _ hcall).1
  simp only [AHeap.size_alloc] at hsz
  have hf0 : ρ st0.A.size = none := hfree _ (Nat.le_refl _) (by simp; omega)
  let w1 : World := { w0 with heap := w0.heap.push (.loop { state := .ready, pending := none, fn := b.fn, tmps := a.tmps, params := params, assign := assign, body := body, defers := ed.cb }) }
  let en : REnt := ⟨w0.heap.size, 0, 0, 0⟩
  have hle : Ren.le ρ (Ren.upd ρ st0.A.size en) := Ren.le_upd hf0
  have T1 : Tr (CompOf P) ρ st0.A w0 (Ren.upd ρ st0.A.size en) (st0.A.alloc (.loop .ready none fn st0.n st0.env params.toList aa ab d)) w1 := by
    refine Tr.alloc (e := en) hr hf0 rfl rfl ?_ rfl rfl rfl
    exact ⟨_, heap_push_new, rfl, rfl, hbf, rfl, ha, hb, hS.n, fun t => (hS.env t).mono hle, ed, hle _ _ hd, rfl⟩
  have hvf : VR (Ren.upd ρ st0.A.size en) (ev st0.env f) (a.eval f) := by
    have := (hS.env.ev hr.glob f hf).mono hle
    cases f <;> exact this
  obtain ⟨ρ2, vc, w2, hrun, hv, T2⟩ := (hcs _ _ _ _ _ hcall).2 (Ren.upd ρ st0.A.size en) w1 (a.eval f) [.func (.yield w0.heap.size) #[] #[]] hvf
    (.cons _ _ _ _ (.yield _ en Ren.upd_same) .nil) T1.rel (free_next T1 (fun n p q => hfree n p (by simpa using q))) (fat b { a with defers := mark ++ a.defers } (.inRangeFunc w0.heap.size :: k)) cs
  have hl2 : ρ2 st0.A.size = some en := T2.mono _ _ Ren.upd_same
  obtain ⟨cl, g1, g2, g3, g4, g5, g6, g7, g8, g9, ed2, g10, g11⟩ := T2.rel.blk _ _ _ hl2 hget
  have hend := run_endLoop (P := P) (w := w2) g1 (by rw [g2]; exact hbusy)
  have hlt : w0.heap.size < w2.heap.size := by
    rcases Nat.lt_or_ge w0.heap.size w2.heap.size with q | q
    · exact q
    · have g1' : w2.heap[w0.heap.size]? = some (.loop cl) := g1
      rw [Array.getElem?_eq_none q] at g1'; cases g1'
  have T3 : Tr (CompOf P) ρ2 A2 w2 ρ2 (A2.set st0.A.size (.loop .exhausted p f' n' e' ps a' b' d')) { w2 with heap := w2.heap.setIfInBounds w0.heap.size (.loop { cl with state := .exhausted }) } := by
    refine Tr.upd T2.rel hl2 hget (fun hp => hp) (.inr (fun hp => hp)) (by simp) (fun cb hcb => by
      have : ¬ (w0.heap.size = cb) := fun q => hcb q.symm
      simp [Array.getElem?_setIfInBounds, this]) ?_ rfl rfl rfl
    refine ⟨{ cl with state := .exhausted }, ?_, rfl, g3, g4, g5, g6, g7, g8, g9, ed2, g10, g11⟩
    show (w2.heap.setIfInBounds w0.heap.size _)[w0.heap.size]? = _
    simp [Array.getElem?_setIfInBounds, hlt]
  refine ⟨ρ2, { a with defers := mark ++ a.defers }, _, ?_, ⟨(hS.env.mono hle).mono T2.mono, hS.n, (hS.dfs.mono hle).mono T2.mono⟩, T1.trans (T2.trans T3)⟩
  obtain ⟨dd, r1, r2⟩ := hrun
  have hsteps : Steps P (lone (fat b a (.code (.rangeFunc f params assign body) :: k)) cs w) (lone (fat b { a with defers := mark ++ a.defers } (.endRangeFunc w0.heap.size :: k)) cs w2) := by
    have hfin : (fat b { a with defers := mark ++ a.defers } (.inRangeFunc w0.heap.size :: k)).finish vc = fat b { a with defers := mark ++ a.defers } (.endRangeFunc w0.heap.size :: k) := rfl
    rcases r2 with ⟨g, as, r3, r4⟩ | ⟨l', g, tmps, asg, bd, r3, r4⟩
    · exact Steps.head (st_range hent r1 r3 (.inl ⟨g, as, rfl, rfl⟩)) (hfin ▸ r4)
    · exact Steps.head (st_range hent r1 r3 (.inr ⟨l', g, tmps, asg, bd, rfl, rfl⟩)) (hfin ▸ r4)
  have hsteps2 := hsteps.trans (Steps.one (st_endRange (k := k) (cs := cs) hend))
  subst g3
  unfold exitOf at hx
  split at hx
  · rename_i heq
    cases hx
    rw [show (cl.pending.map Item.code).toList ++ k = k from by rw [heq]; rfl] at hsteps2
    exact hsteps2
  · rename_i heq
    cases hx
    rw [show (cl.pending.map Item.code).toList ++ k = .code .ret :: k from by rw [heq]; rfl] at hsteps2
    exact ⟨k, hsteps2⟩
  · rename_i id heq
    cases hx
    rw [show (cl.pending.map Item.code).toList ++ k = .code (.exit id) :: k from by rw [heq]; rfl] at hsteps2
    exact ⟨[], fun _ => rfl, hsteps2⟩
  · cases hx

theorem execC_sound (hcs : CallSound P call) (hmix : P.follows .mixedOrders = true) {n : Nat} (c : Code) : ∀ (ac : ACode) (st : St) (x : AExit) (st' : St), compileC P c = some ac → execC call fn ctx n ac st = some (x, st') → SExec P fn ctx c st x st' := by
  induction c with
  | skip =>
    intro ac st x st' hc h ρ a w b hb hS hr hfree hR k cs
    cases hc; cases h
    exact ⟨ρ, a, w, Steps.one st_skip, hS, Tr.refl hr⟩
  | label l =>
    intro ac st x st' hc h ρ a w b hb hS hr hfree hR k cs
    cases hc; cases h
    exact ⟨ρ, a, w, Steps.one st_label, hS, Tr.refl hr⟩
  | region id ops draw =>
    intro ac st x st' hc h ρ a w b hb hS hr hfree hR k cs
    cases draw with
    | true =>
      simp only [compileC] at hc
      cases h1 : compileOps P ops with
      | none => rw [h1] at hc; cases hc; cases h
      | some aos =>
        rw [h1] at hc
        simp only at hc
        cases h2 : certD ops.toList aos with
        | none => rw [h2] at hc; cases hc; cases h
        | some chk =>
          rw [h2] at hc; cases hc
          simp only [execC] at h
          cases h3 : runTrace call aos st with
          | none => rw [h3] at h; cases h
          | some tr =>
            rw [h3] at h
            simp only at h
            split at h
            · rename_i hchk
              obtain ⟨S, X, s0, s1⟩ := DCtx.of hcs h1 h2 h3 hchk
              rw [s1] at h
              simp only [Option.map_some, Option.some.injEq, Prod.mk.injEq] at h
              obtain ⟨hx, hs⟩ := h
              subst hx; subst hs; subst s0
              obtain ⟨ρ1, a1, w1, e1, e2, e3, e4, e5, e6⟩ := regionD_steps X hmix fn (id := id) hS.env hS.n hr hfree b hb k cs
              exact ⟨ρ1, a1, w1, e1, ⟨e2, e3, by rw [e5, e4]; exact hS.dfs.mono e6.mono⟩, e6⟩
            · cases h
    | false =>
      simp only [compileC] at hc
      cases h1 : compileOps P ops with
      | none => rw [h1] at hc; cases hc; cases h
      | some as =>
        rw [h1] at hc; cases hc
        simp only [execC] at h
        cases h2 : runOps call as st with
        | none => rw [h2] at h; cases h
        | some st1 =>
          rw [h2] at h; cases h
          obtain ⟨ρ1, a1, w1, e1, e2, e3, e4, e5, e6, e7⟩ := runOps_steps hcs ops.toList as 0 st st' ρ a w h1 (fun j o hj => by simpa using hj) h2 hS.env hS.n hr hfree b [] k cs
          refine ⟨ρ1, a1, w1, ?_, ⟨e2, e3, by rw [e6, e5]; exact hS.dfs.mono e7.mono⟩, e7⟩
          have := e1
          rw [List.append_nil, Array.length_toList, ← List.range_eq_range'] at this
          exact (Steps.head st_region this).trans (Steps.one st_regionEnd)
  | seq p q ihp ihq =>
    intro ac st x st' hc h ρ a w b hb hS hr hfree hR k cs
    simp only [compileC, Option.bind_eq_bind] at hc
    cases h1 : compileC P p with
    | none => rw [h1] at hc; cases hc
    | some ap =>
      rw [h1] at hc; simp only [Option.bind_some] at hc
      cases h2 : compileC P q with
      | none => rw [h2] at hc; cases hc
      | some aq =>
        rw [h2] at hc; cases hc
        simp only [execC] at h
        split at h
        · rename_i st1 h3
          have s1 := execC_size hcs _ h3
          have s2 := execC_size hcs _ h
          obtain ⟨ρ1, a1, w1, l1, S1, T1⟩ := ihp _ _ _ _ h1 h3 ρ a w b hb hS hr (fun n p q => hfree n p (by omega)) hR (.code q :: k) cs
          obtain ⟨ρ2, a2, w2, l2, S2, T2⟩ := ihq _ _ _ _ h2 h ρ1 a1 w1 b hb S1 T1.rel (free_next T1 hfree) (hR.mono T1.mono) k cs
          refine ⟨ρ2, a2, w2, ?_, S2, T1.trans T2⟩
          exact Lands.of_steps (Steps.head st_seq l1) l2
        · rename_i hne
          obtain ⟨ρ1, a1, w1, l1, S1, T1⟩ := ihp _ _ _ _ h1 h ρ a w b hb hS hr hfree hR (.code q :: k) cs
          have hx : x ≠ .normal := fun hx => by subst hx; exact hne st' h
          exact ⟨ρ1, a1, w1, Lands.of_steps (Steps.one st_seq) (Lands.pass hx (fun id k2 _ => rfl) l1), S1, T1⟩
  | cond c p q ihp ihq =>
    intro ac st x st' hc h ρ a w b hb hS hr hfree hR k cs
    simp only [compileC] at hc
    split at hc
    · rename_i hok
      simp only [Option.bind_eq_bind] at hc
      cases h1 : compileC P p with
      | none => rw [h1] at hc; cases hc
      | some ap =>
        rw [h1] at hc; simp only [Option.bind_some] at hc
        cases h2 : compileC P q with
        | none => rw [h2] at hc; cases hc
        | some aq =>
          rw [h2] at hc; cases hc
          simp only [execC] at h
          have hv := hS.env.ev hr.glob c hok
          split at h
          · rename_i ht
            rw [ht] at hv
            obtain ⟨ρ1, a1, w1, l1, S1, T1⟩ := ihp _ _ _ _ h1 h ρ a w b hb hS hr hfree hR k cs
            exact ⟨ρ1, a1, w1, Lands.of_steps (Steps.one (st_cond (t := true) hv.bool_inv)) l1, S1, T1⟩
          · rename_i ht
            rw [ht] at hv
            obtain ⟨ρ1, a1, w1, l1, S1, T1⟩ := ihq _ _ _ _ h2 h ρ a w b hb hS hr hfree hR k cs
            exact ⟨ρ1, a1, w1, Lands.of_steps (Steps.one (st_cond (t := false) hv.bool_inv)) l1, S1, T1⟩
          · cases h
    · cases hc
  | block id p ih =>
    intro ac st x st' hc h ρ a w b hb hS hr hfree hR k cs
    simp only [compileC, Option.bind_eq_bind] at hc
    cases h1 : compileC P p with
    | none => rw [h1] at hc; cases hc
    | some ap =>
      rw [h1] at hc; cases hc
      simp only [execC] at h
      split at h
      · rename_i id' st1 h3
        have hfr : st1 = st' := by split at h <;> cases h <;> rfl
        subst hfr
        obtain ⟨ρ1, a1, w1, l1, S1, T1⟩ := ih _ _ _ _ h1 h3 ρ a w b hb hS hr hfree hR (.inBlock id :: k) cs
        refine ⟨ρ1, a1, w1, ?_, S1, T1⟩
        obtain ⟨k1, e1, e2⟩ := l1
        split at h
        · rename_i hid
          cases h
          have hx : exitTo id' (k1 ++ .inBlock id :: k) = some k := by rw [e1]; simp [exitTo, hid]
          exact (Steps.head st_block e2).trans (Steps.one (st_exit hx))
        · rename_i hid
          cases h
          refine ⟨k1 ++ [.inBlock id], fun k2 => ?_, ?_⟩
          · rw [List.append_assoc, e1]
            have : (id == id') = false := by simp; exact fun q => hid q.symm
            simp [exitTo, this]
          · simpa using Steps.head st_block e2
      · rename_i hne
        obtain ⟨ρ1, a1, w1, l1, S1, T1⟩ := ih _ _ _ _ h1 h ρ a w b hb hS hr hfree hR (.inBlock id :: k) cs
        refine ⟨ρ1, a1, w1, ?_, S1, T1⟩
        have := l1
        cases x with
        | normal => exact (Steps.head st_block this).trans (Steps.one st_inBlock)
        | exit id' => exact absurd h (hne id' st')
        | ret => exact Lands.of_steps (Steps.one st_block) this
  | scope p ih =>
    intro ac st x st' hc h ρ a w b hb hS hr hfree hR k cs
    simp only [compileC] at hc
    obtain ⟨ρ1, a1, w1, l1, S1, T1⟩ := ih _ _ _ _ hc h ρ a w b hb hS hr hfree hR (.inScope p :: k) cs
    refine ⟨ρ1, a1, w1, ?_, S1, T1⟩
    have := l1
    cases x with
    | normal => exact (Steps.head st_scope this).trans (Steps.one st_inScope)
    | exit id => exact Lands.of_steps (Steps.one st_scope) (Lands.pass (by simp) (fun id k2 _ => rfl) this)
    | ret => exact Lands.of_steps (Steps.one st_scope) this
  | loop p ih =>
    intro ac st x st' hc h ρ a w b hb hS hr hfree hR k cs
    simp only [compileC, Option.bind_eq_bind] at hc
    cases h1 : compileC P p with
    | none => rw [h1] at hc; cases hc
    | some ap =>
      rw [h1] at hc; cases hc
      simp only [execC] at h
      obtain ⟨ρ1, a1, w1, hx, l1, S1, T1⟩ := iter_sound p _ (fun st x st' h => execC_size hcs _ h) (fun st x st' h => ih _ _ _ _ h1 h) n st x st' h ρ a w b hb hS hr hfree hR k cs
      exact ⟨ρ1, a1, w1, Lands.of_steps (Steps.one st_loop) l1, S1, T1⟩
  | exit id =>
    intro ac st x st' hc h ρ a w b hb hS hr hfree hR k cs
    cases hc; cases h
    exact ⟨ρ, a, w, ⟨[], fun _ => rfl, Steps.refl _ _⟩, hS, Tr.refl hr⟩
  | ret =>
    intro ac st x st' hc h ρ a w b hb hS hr hfree hR k cs
    cases hc; cases h
    exact ⟨ρ, a, w, ⟨k, Steps.refl _ _⟩, hS, Tr.refl hr⟩
  | goto l => intro ac st x st' hc h; cases hc; cases h
  | refuse why => intro ac st x st' hc h; cases hc; cases h
  | rangeFunc f params assign body _ _ =>
    intro ac st x st' hc h ρ a w b hb hS hr hfree hR k cs
    simp only [compileC] at hc
    split at hc
    · rename_i hok
      simp only [Option.bind_eq_bind] at hc
      cases h1 : compileC P assign with
      | none => rw [h1] at hc; cases hc
      | some aa =>
        rw [h1] at hc; simp only [Option.bind_some] at hc
        cases h2 : compileC P body with
        | none => rw [h2] at hc; cases hc
        | some ab =>
          rw [h2] at hc; cases hc
          have hall := execC_size hcs _ h
          simp only [execC] at h
          split at h
          · have hsz : st.A.size < st'.A.size := by
              have := range_size (st0 := { st with A := st.A.alloc (.dfr false), dfs := st.A.size :: st.dfs }) hcs h
              simp at this; omega
            have hf0 : ρ st.A.size = none := hfree _ (Nat.le_refl _) hsz
            let ed : REnt := ⟨w.heap.size, 0, 0, 0⟩
            let w0 : World := { w with heap := w.heap.push (.deferred (some [])) }
            have T0 : Tr (CompOf P) ρ st.A w (Ren.upd ρ st.A.size ed) (st.A.alloc (.dfr false)) w0 :=
              Tr.alloc (e := ed) hr hf0 rfl rfl heap_push_new rfl rfl rfl
            have hle : Ren.le ρ (Ren.upd ρ st.A.size ed) := Ren.le_upd hf0
            obtain ⟨ρ', a', w', l, S, T⟩ := range_sound (st0 := { st with A := st.A.alloc (.dfr false), dfs := st.A.size :: st.dfs }) hcs hok h1 h2 h (ρ := Ren.upd ρ st.A.size ed) (a := a) (w := w) (w0 := w0) (b := b) hb (mark := [{ target := .collected w.heap.size, args := #[] }]) (ed := ed) Ren.upd_same
              ⟨hS.env.mono hle, hS.n, ⟨ed, Ren.upd_same, rfl⟩, hS.dfs.mono hle⟩ T0.rel (free_next T0 hfree) (by
                have hro : b.roundOf = none := hR
                simp only [Instr.enterLoop, hro, run_bind, run_newObj, run_pure]; rfl) k cs
            exact ⟨ρ', a', w', l, S, T0.trans T⟩
          · rename_i l0
            split at h
            · rename_i s' p' f' n' e' ps' a' b' d hg0
              obtain ⟨e0, he0, hro⟩ := hR
              obtain ⟨cl, g1, g2, g3, g4, g5, g6, g7, g8, g9, ed, g10, g11⟩ := hr.blk _ _ _ he0 hg0
              exact range_sound (st0 := st) hcs hok h1 h2 h (ρ := ρ) (a := a) (w := w) (w0 := w) (b := b) hb (mark := []) (ed := ed) g10 ⟨hS.env, hS.n, hS.dfs⟩ hr hfree (by
                simp only [Instr.enterLoop, hro, run_bind, run_getLoop g1, run_newObj, run_pure, g11]) k cs
            · cases h
    · cases hc

end
end Go.AS
end

section
namespace Go.AS
open Go
set_option linter.unusedSimpArgs false
set_option linter.unusedVariables false

section
variable {P : Program} {ρ : Ren} {A : AHeap} {w : World} {a : Act} {b : Frame} {k : List Item} {cs : List Frame}

theorem rd_set (e : Env) (d t : Nat) (v : Value) : Env.rd (Trie.set e d v) t = if t = d then v else e.rd t := by
  unfold Env.rd; rw [Trie.get_set]; split <;> rfl

theorem envOf_rd : ∀ (l : List Value) (i : Nat) (e : Env) (t : Nat), (envOf i e l).rd t = if i ≤ t ∧ t < i + l.length then (l[t - i]?).getD undef else e.rd t := by
  intro l
  induction l with
  | nil => intro i e t; rw [if_neg (by simp only [List.length_nil]; omega)]; rfl
  | cons v l ih =>
    intro i e t
    simp only [envOf]
    rw [ih (i + 1) (e.set i v) t, rd_set]
    by_cases h : t = i
    · subst h
      rw [if_neg (by omega), if_pos rfl, if_pos ⟨Nat.le_refl _, by simp⟩]
      simp
    · rw [if_neg h]
      by_cases h2 : i ≤ t ∧ t < i + (v :: l).length
      · simp only [List.length_cons] at h2
        rw [if_pos (by omega), if_pos (by simp only [List.length_cons]; omega)]
        rw [show t - i = (t - (i + 1)) + 1 by omega]; rfl
      · simp only [List.length_cons] at h2
        rw [if_neg (by omega), if_neg (by simp only [List.length_cons]; omega)]

theorem undef_VR : VR ρ undef undef := .tuple _ _ .nil

theorem enter_env {l l' : List Value} {n : Nat} (h : VRs ρ l l') : EnvR ρ (envOf 0 .leaf l) { tmps := l'.toArray ++ Array.replicate (n - l'.toArray.size) undef, defers := [] } := by
  intro t
  rw [envOf_rd]
  have hl := h.length
  by_cases ht : t < l.length
  · rw [if_pos (by omega)]
    obtain ⟨v', h1, h2⟩ := h.get (List.getElem?_eq_getElem ht)
    have : ((⟨l'⟩ : Array Value) ++ Array.replicate (n - (⟨l'⟩ : Array Value).size) undef)[t]? = some v' := by
      rw [Array.getElem?_append_left (by simp; omega)]
      simpa using h1
    simp only [Array.getD_eq_getD_getElem?]
    rw [this]
    simp only [Nat.sub_zero, List.getElem?_eq_getElem ht, Option.getD_some]
    exact h2
  · rw [if_neg (by omega)]
    have : Env.rd Trie.leaf t = undef := rfl
    rw [this]
    simp only [Array.getD_eq_getD_getElem?]
    rw [Array.getElem?_append_right (by simp; omega)]
    simp only [Array.getElem?_replicate]
    split <;> exact undef_VR

theorem zip_env : ∀ (params : List Nat) {args cargs : List Value} {e : Env} {tmps : Array Value} (n : Nat), VRs ρ args cargs → (∀ t ∈ params, t < n) → tmps.size = n → (∀ t, VR ρ (e.rd t) (tmps.getD t undef)) →
    (∀ t, VR ρ (Env.rd ((params.zip args).foldl (fun (e : Env) ta => Trie.set e ta.1 ta.2) e) t) (((params.zip cargs).foldl (fun tmps ta => tmps.setIfInBounds ta.1 ta.2) tmps).getD t undef)) ∧
      ((params.zip cargs).foldl (fun tmps ta => tmps.setIfInBounds ta.1 ta.2) tmps).size = n := by
  intro params
  induction params with
  | nil => intro args cargs e tmps n _ _ hn h; exact ⟨h, hn⟩
  | cons p params ih =>
    intro args cargs e tmps n hv hp hn h
    cases hv with
    | nil => exact ⟨h, hn⟩
    | cons v v' l l' h1 h2 =>
      simp only [List.zip_cons_cons, List.foldl_cons]
      refine ih n h2 (fun t ht => hp t (List.mem_cons_of_mem _ ht)) (by simp [hn]) fun t => ?_
      have := EnvR.put (a := { tmps := tmps, defers := [] }) (d := p) h (by rw [hn]; exact hp p List.mem_cons_self) h1 t
      exact this

theorem unwind_sound : ∀ (dfs : List Nat) {A A2 : AHeap} {ds : List Deferred} {ρ : Ren} {w : World} (tmps : Array Value), DfR ρ dfs ds → HRel (CompOf P) ρ A w.heap → unwindA dfs A = some A2 →
    ∃ w', (∀ b todo cs, Steps P (lone { (fat b { tmps := tmps, defers := ds } todo) with mode := .returning } cs w) (lone { (fat b { tmps := tmps, defers := [] } todo) with mode := .returning } cs w')) ∧ Tr (CompOf P) ρ A w ρ A2 w' := by
  intro dfs
  induction dfs with
  | nil =>
    intro A A2 ds ρ w tmps hd hr h
    cases h
    cases ds with
    | nil => exact ⟨w, fun _ _ _ => Steps.refl _ _, Tr.refl hr⟩
    | cons _ _ => exact hd.elim
  | cons id dfs ih =>
    intro A A2 ds ρ w tmps hd hr h
    cases ds with
    | nil => exact hd.elim
    | cons d ds =>
      obtain ⟨⟨en, he, rfl⟩, hd2⟩ := hd
      simp only [unwindA] at h
      split at h
      · rename_i hg
        have hb := hr.blk _ _ _ he hg
        have hb' : w.heap[en.cb]? = some (.deferred (some [])) := hb
        have hlt : en.cb < w.heap.size := by
          rcases Nat.lt_or_ge en.cb w.heap.size with q | q
          · exact q
          · rw [Array.getElem?_eq_none q] at hb'; cases hb'
        let w1 : World := { w with heap := w.heap.setIfInBounds en.cb (.deferred none) }
        have T : Tr (CompOf P) ρ A w ρ (A.set id (.dfr true)) w1 := by
          refine Tr.upd hr he hg (fun hp => hp) (.inr (fun hp => hp)) (by simp [w1]) (fun cb hcb => by simp [w1, Array.getElem?_setIfInBounds, Ne.symm hcb]) ?_ rfl rfl rfl
          show w1.heap[en.cb]? = _
          simp [w1, Array.getElem?_setIfInBounds, hlt]
        obtain ⟨w', s1, T2⟩ := ih tmps hd2 T.rel h
        refine ⟨w', fun b todo cs => Steps.head (st_unwindOne (a := { tmps := tmps, defers := _ :: ds }) rfl ?_) (s1 b todo cs), T.trans T2⟩
        simp only [Instr.takeDeferred, run_bind, run_getObj hb' (fun _ _ _ => by simp), run_setObj hb' (fun _ _ _ => by simp), run_pure]
        rfl
      · cases h

theorem resA_sound {e : Env} {a : Act} {r : ResultVar} {x : Nat ⊕ (Nat × Nat × Bool)} {v : Value} (hc : (match r with | .tmp t => some (.inl t) | .cell a t => do let g ← aggOf P t; let s ← szOf P t; some (.inr (a, s, g))) = some x) (hr : HRel (CompOf P) ρ A w.heap) (hE : EnvR ρ e a)
    (h : resA e A x = some v) : ∃ vc, (match r with | .tmp t => pure (a.tmps.getD t undef) | .cell p t => do loadVar t (← asAddr (a.tmps.getD p undef)) : Sem Value).run P w = .ok vc w ∧ VR ρ v vc := by
  cases r with
  | tmp t =>
    cases hc
    cases h
    exact ⟨_, run_pure _, hE t⟩
  | cell p t =>
    simp only [Option.bind_eq_bind] at hc
    cases hg : aggOf P t with
    | none => rw [hg] at hc; cases hc
    | some g =>
      rw [hg] at hc; simp only [Option.bind_some] at hc
      cases hs : szOf P t with
      | none => rw [hs] at hc; cases hc
      | some s =>
        rw [hs] at hc; cases hc
        simp only [resA] at h
        have hv := hE p
        split at h
        · rename_i b o hp
          rw [hp] at hv
          obtain ⟨en, he, hx⟩ := hv.ptr_inv
          cases g with
          | true =>
            simp only [if_true] at h
            split at h
            · rename_i h0
              cases h
              refine ⟨.agg #[], ?_, .agg _ _ .nil⟩
              simp only [hx, asAddr, run_bind, run_pure, loadVar, run_isAgg hg, if_true, run_sizeOf hs, h0]
              rfl
            · cases hrd : rdCells A b o s with
              | none => rw [hrd] at h; cases h
              | some vs =>
                rw [hrd] at h; cases h
                obtain ⟨vs', h1, h2⟩ := run_loadN (P := P) hr he hrd
                refine ⟨.agg ⟨vs'⟩, ?_, .agg _ _ h1⟩
                simp only [hx, asAddr, run_bind, run_pure, loadVar, run_isAgg hg, if_true, run_sizeOf hs, h2]
          | false =>
            simp only [Bool.false_eq_true, if_false] at h
            obtain ⟨v', h1, h2⟩ := rd_cell hr he h
            refine ⟨v', ?_, h2⟩
            simp only [hx, asAddr, run_bind, run_pure, loadVar, run_isAgg hg, Bool.false_eq_true, if_false]
            exact run_load h1
        · cases h

theorem tuple_VR {vs : List Value} {vs' : Array Value} (h : VRs ρ vs vs'.toList) : VR ρ (tupleA vs) (if h : vs'.size = 1 then vs'[0] else .tuple vs') := by
  have hl := h.length
  obtain ⟨l⟩ := vs'
  simp only at h hl
  cases h with
  | nil => exact .tuple _ _ .nil
  | cons v v' l l' h1 h2 =>
    cases h2 with
    | nil => exact h1
    | cons u u' l l' h3 h4 =>
      rw [dif_neg (by simp)]
      exact .tuple _ _ (.cons _ _ _ _ h1 (.cons _ _ _ _ h3 h4))

theorem results_sound {F : Func} {e : Env} {a : Act} {rs : List (Nat ⊕ (Nat × Nat × Bool))} {vs : List Value}
    (hc : F.results.toList.mapM (fun r => match r with | .tmp t => some (.inl t) | .cell a t => do let g ← aggOf P t; let s ← szOf P t; some (.inr (a, s, g))) = some rs) (hr : HRel (CompOf P) ρ A w.heap) (hE : EnvR ρ e a)
    (h : resultsA e A rs = some vs) : ∃ vc, (results F a.tmps).run P w = .ok vc w ∧ VR ρ (tupleA vs) vc := by
  let f : ResultVar → Sem Value := fun r => match r with | .tmp t => pure (a.tmps.getD t undef) | .cell p t => do loadVar t (← asAddr (a.tmps.getD p undef))
  let g : ResultVar → Value := fun r => match (f r).run P w with | .ok v _ => v | _ => undef
  have key : ∀ (l : List ResultVar) (rs : List (Nat ⊕ (Nat × Nat × Bool))) (vs : List Value), l.mapM (fun r => match r with | .tmp t => some (.inl t) | .cell a t => do let g ← aggOf P t; let s ← szOf P t; some (.inr (a, s, g))) = some rs → resultsA e A rs = some vs →
      (∀ r ∈ l, (f r).run P w = .ok (g r) w) ∧ VRs ρ vs (l.map g) := by
    intro l
    induction l with
    | nil => intro rs vs h1 h2; cases h1; cases h2; exact ⟨fun r hr => by simp at hr, .nil⟩
    | cons r l ih =>
      intro rs vs h1 h2
      rw [List.mapM_cons] at h1
      simp only [Option.bind_eq_bind, Option.pure_def] at h1
      rw [Option.bind_eq_some_iff] at h1
      obtain ⟨x, hx, h1⟩ := h1
      rw [Option.bind_eq_some_iff] at h1
      obtain ⟨xs, hxs, h1⟩ := h1
      cases h1
      simp only [resultsA] at h2
      split at h2
      · rename_i v vs2 hv hvs
        cases h2
        obtain ⟨k1, k2⟩ := ih xs vs2 hxs hvs
        obtain ⟨vc, m1, m2⟩ := resA_sound (r := r) hx hr hE hv
        have hg : g r = vc := by show (match (f r).run P w with | .ok v _ => v | _ => undef) = vc; rw [show (f r).run P w = .ok vc w from m1]
        refine ⟨fun r' hr' => ?_, ?_⟩
        · rcases List.mem_cons.1 hr' with rfl | hr'
          · rw [hg]; exact m1
          · exact k1 r' hr'
        · rw [List.map_cons]
          exact .cons _ _ _ _ (by rw [hg]; exact m2) k2
      · cases h2
  obtain ⟨k1, k2⟩ := key _ rs vs hc h
  have hm := run_mapMA (P := P) (w := w) (f := f) (g := g) F.results (fun x hx => k1 x (by simpa using hx))
  refine ⟨_, ?_, tuple_VR (vs' := F.results.map g) (by simpa using k2)⟩
  show (do let vs ← F.results.mapM f; pure (if h : vs.size = 1 then vs[0] else .tuple vs) : Sem Value).run P w = _
  rw [run_bind, hm]
  rfl

/-- A function, entered and come to its end. -/
def FnRuns (P : Program) (cs : List Frame) (f : FuncId) (args : List Value) (w : World) (v : Value) (w' : World) : Prop :=
  ∃ fr, Steps P (lone (Frame.enter P f args.toArray .normal) cs w) (lone fr cs w') ∧ fr.fn = f ∧ fr.leaving P w' (.returned v)

theorem fn_sound {call : CallT} {f : FuncId} {F : Func} {fn : AFunc} {n : Nat} (hcs : CallSound P call) (hmix : P.follows .mixedOrders = true) (hF : P.funcs[f]? = some F) (hc : compileF P F = some fn) {args cargs : List Value} {x : AExit} {st : St} {A A2 : AHeap} {vs : List Value}
    (hlen : args.length ≤ fn.n) (hx : execC call f none n fn.body { env := envOf 0 .leaf args, n := fn.n, dfs := [], A := A } = some (x, st)) (hne : ∀ id, x ≠ .exit id) (hu : unwindA st.dfs st.A = some A2) (hres : resultsA st.env A2 fn.results = some vs)
    (hargs : VRs ρ args cargs) (hr : HRel (CompOf P) ρ A w.heap) (hfree : ∀ n, A.size ≤ n → n < A2.size → ρ n = none) :
    ∀ cs, ∃ ρ' vc w', FnRuns P cs f cargs w vc w' ∧ VR ρ' (tupleA vs) vc ∧ Tr (CompOf P) ρ A w ρ' A2 w' := by
  intro cs
  unfold compileF at hc
  simp only [Option.bind_eq_bind] at hc
  cases hb : F.body with
  | none => rw [hb] at hc; cases hc
  | some body =>
    rw [hb] at hc; simp only [Option.bind_some] at hc
    cases hcc : compileC P body with
    | none => rw [hcc] at hc; cases hc
    | some ac =>
      rw [hcc] at hc; simp only [Option.bind_some] at hc
      rw [Option.bind_eq_some_iff] at hc
      obtain ⟨rs, hrs, hc⟩ := hc
      cases hc
      simp only at hlen hx hres
      have hsz : A2.size = st.A.size := by
        have : ∀ (l : List Nat) (A A2 : AHeap), unwindA l A = some A2 → A2.size = A.size := by
          intro l
          induction l with
          | nil => intro A A2 h; cases h; rfl
          | cons d l ih =>
            intro A A2 h
            simp only [unwindA] at h
            split at h
            · have := ih _ _ h
              rw [this]; rfl
            · cases h
        exact this _ _ _ hu
      let b0 : Frame := { fn := f, tmps := #[], todo := [], defers := [], mode := .run, kind := .normal }
      let a0 : Act := { tmps := cargs.toArray ++ Array.replicate (F.ntmps - cargs.toArray.size) undef, defers := [] }
      have hent : ∀ cs, lone (Frame.enter P f cargs.toArray .normal) cs w = lone (fat b0 a0 [.code body]) cs w := by
        intro cs
        simp only [Frame.enter, hF, Option.map_some, Option.getD_some, Option.bind_some, hb, fat, b0, a0, List.append_nil]
      have hE0 : EnvR ρ (envOf 0 .leaf args) a0 := enter_env hargs
      have hn0 : a0.tmps.size = F.ntmps := by
        have := hargs.length
        simp only [a0, Array.size_append, Array.size_replicate, List.size_toArray]; omega
      obtain ⟨ρ1, a1, w1, l1, S1, T1⟩ := execC_sound hcs hmix body _ _ _ _ hcc hx ρ a0 w b0 rfl ⟨hE0, hn0, trivial⟩ hr (by rw [← hsz]; exact hfree) rfl [] cs
      obtain ⟨tm1, df1⟩ := a1
      obtain ⟨w2, s2, T2⟩ := unwind_sound st.dfs tm1 S1.dfs T1.rel hu
      obtain ⟨vc, r1, r2⟩ := results_sound (a := { tmps := tm1, defers := [] }) hrs T2.rel S1.env hres
      refine ⟨ρ1, vc, w2, ?_, r2, T1.trans T2⟩
      unfold FnRuns
      rw [hent cs]
      have leave : ∀ todo, (todo = [] ∨ ∃ r, todo = .code .ret :: r) → Steps P (lone (fat b0 a0 [.code body]) cs w) (lone (fat b0 { tmps := tm1, defers := df1 } todo) cs w1) →
          ∃ fr, Steps P (lone (fat b0 a0 [.code body]) cs w) (lone fr cs w2) ∧ fr.fn = f ∧ fr.leaving P w2 (.returned vc) := by
        intro todo ht hs
        refine ⟨_, (hs.trans (Steps.one (st_leaveFn rfl ht))).trans (s2 b0 todo cs), rfl, rfl, rfl, rfl, F, hF, r1⟩
      have hl := l1
      cases x with
      | normal => exact leave [] (.inl rfl) hl
      | ret => obtain ⟨todo, hl⟩ := hl; exact leave _ (.inr ⟨todo, rfl⟩) hl
      | exit id => exact absurd rfl (hne id)

end
end Go.AS
end

section
namespace Go.AS
open Go
set_option linter.unusedSimpArgs false
set_option linter.unusedVariables false

section
variable {P : Program} {ρ : Ren} {A : AHeap} {w : World} {a : Act} {b : Frame} {k : List Item} {cs : List Frame}

theorem unwindA_size : ∀ (l : List Nat) {A A2 : AHeap}, unwindA l A = some A2 → A2.size = A.size := by
  intro l
  induction l with
  | nil => intro A A2 h; cases h; rfl
  | cons d l ih =>
    intro A A2 h
    simp only [unwindA] at h
    split at h
    · have := ih h
      rw [this]; rfl
    · cases h

/-- A function that says yes and leaves no trace. -/
def sayYes : AFunc := { n := 1, nargs := 0, results := [.inl 0], body := .ops [{ dst := some 0, guard := none, op := .mov (.const (.bool true)) }] }

/-- A function without arguments that is known to say yes, and to let what was there before it stand. -/
def SaysYes (P : Program) (f : FuncId) : Prop := ∀ cs w, ∃ w', FnRuns P cs f [] w (.bool true) w' ∧ w'.os = w.os ∧ w'.tape = w.tape ∧ w'.output = w.output ∧ w.heap.size ≤ w'.heap.size ∧ ∀ k, k < w.heap.size → w'.heap[k]? = w.heap[k]?

/-- A function by what is known of it (two arguments, or none). -/
def specFn (k : Nat) (ps : List Nat) : Bool → AFunc
  | true => { n := 3, nargs := 2, results := [.inl 2], body := .ops [{ dst := some 2, guard := none, op := .spec2 k ps (.tmp 0) (.tmp 1) }] }
  | false => { n := 3, nargs := 0, results := [.inl 2], body := .ops [{ dst := some 2, guard := none, op := .spec2 k ps (.const .nilIface) (.const .nilIface) }] }
def SpecOk (P : Program) (f : FuncId) (k : Nat) (ps : List Nat) (two : Bool) : Prop := ∀ x y v A A', (two = false → x = .nilIface ∧ y = .nilIface) → specA k ps x y A = some (v, A') → ∀ (ρ : Ren) (w : World) cas, VRs ρ (if two then [x, y] else []) cas → HRel (CompOf P) ρ A w.heap → (∀ n, A.size ≤ n → n < A'.size → ρ n = none) →
  ∀ cs, ∃ vc w', FnRuns P cs f cas w vc w' ∧ VR ρ v vc ∧ Tr (CompOf P) ρ A w ρ A' w'

/-- A function that another one of ours stands for. -/
def SoundFn (P : Program) (f : FuncId) (fn : AFunc) : Prop := ∀ (call : CallT) (n : Nat), CallSound P call → ∀ (args : List Value) (x : AExit) (st : St) (A A2 : AHeap) (vs : List Value), args.length = fn.nargs ∧ fn.nargs ≤ fn.n →
  execC call f none n fn.body { env := envOf 0 .leaf args, n := fn.n, dfs := [], A := A } = some (x, st) → (∀ id, x ≠ .exit id) → unwindA st.dfs st.A = some A2 → resultsA st.env A2 fn.results = some vs →
  ∀ (ρ : Ren) (w : World) (cas : List Value), VRs ρ args cas → HRel (CompOf P) ρ A w.heap → (∀ n, A.size ≤ n → n < A2.size → ρ n = none) → ∀ cs, ∃ ρ' vc w', FnRuns P cs f cas w vc w' ∧ VR ρ' (tupleA vs) vc ∧ Tr (CompOf P) ρ A w ρ' A2 w'

/-- What the table says is what the program holds, or what is known of it. -/
def TabOk (P : Program) (T : FTab) : Prop := ∀ f fn, T f = some fn → ∃ F, P.funcs[f]? = some F ∧ (F.name == "runtime.NumGoroutine") = false ∧ F.body.isNone = false ∧ (compileF P F = some fn ∨ (fn = sayYes ∧ SaysYes P f) ∨ (∃ k ps two, fn = specFn k ps two ∧ SpecOk P f k ps two) ∨ SoundFn P f fn)

theorem compileF_body {P : Program} {F : Func} {fn : AFunc} (hc : compileF P F = some fn) : F.body.isNone = false := by
  unfold compileF at hc
  cases hb : F.body with
  | none => rw [hb] at hc; cases hc
  | some b => rfl

/-- A function's own value, called. -/
theorem callN_func {T : FTab} {n : Nat} {f : FuncId} {first captured args : List Value} {A A' : AHeap} {v : Value} (h : callN T (n + 1) (.func (.func f) ⟨first⟩ ⟨captured⟩) args A = some (v, A')) :
    ∃ fn x st vs, T f = some fn ∧ ((first ++ args ++ captured).length = fn.nargs ∧ fn.nargs ≤ fn.n) ∧ execC (callN T n) f none n fn.body { env := envOf 0 .leaf (first ++ args ++ captured), n := fn.n, dfs := [], A := A } = some (x, st) ∧
      (∀ id, x ≠ .exit id) ∧ unwindA st.dfs st.A = some A' ∧ resultsA st.env A' fn.results = some vs ∧ v = tupleA vs := by
  simp only [callN] at h
  split at h
  · rename_i fn hT
    split at h
    · rename_i hlen
      split at h
      · rename_i x st hx
        have key : (match unwindA st.dfs st.A with
            | some A2 => match resultsA st.env A2 fn.results with
              | some vs => some (tupleA vs, A2)
              | none => none
            | none => none) = some (v, A') → (∀ id, x ≠ .exit id) → ∃ fn x st vs, T f = some fn ∧ ((first ++ args ++ captured).length = fn.nargs ∧ fn.nargs ≤ fn.n) ∧ execC (callN T n) f none n fn.body { env := envOf 0 .leaf (first ++ args ++ captured), n := fn.n, dfs := [], A := A } = some (x, st) ∧
              (∀ id, x ≠ .exit id) ∧ unwindA st.dfs st.A = some A' ∧ resultsA st.env A' fn.results = some vs ∧ v = tupleA vs := by
          intro h hne
          split at h
          · rename_i A2 hu
            split at h
            · rename_i vs hr
              cases h
              exact ⟨fn, x, st, vs, hT, hlen, hx, hne, hu, hr, rfl⟩
            · cases h
          · cases h
        cases x with
        | exit id => cases h
        | normal => exact key h (fun _ => by simp)
        | ret => exact key h (fun _ => by simp)
      · cases h
    · cases h
  · cases h

theorem callN_fn_sound {T : FTab} {n : Nat} (hT : TabOk P T) (hmix : P.follows .mixedOrders = true) (hcs : CallSound P (callN T n)) {f : FuncId} {first captured args : List Value} {A A' : AHeap} {v : Value} (h : callN T (n + 1) (.func (.func f) ⟨first⟩ ⟨captured⟩) args A = some (v, A')) :
    A.size ≤ A'.size ∧ ∀ (ρ : Ren) (w : World) (cas : List Value), VRs ρ (first ++ args ++ captured) cas → HRel (CompOf P) ρ A w.heap → (∀ n, A.size ≤ n → n < A'.size → ρ n = none) →
      ∀ cs, ∃ ρ' vc w', FnRuns P cs f cas w vc w' ∧ VR ρ' v vc ∧ Tr (CompOf P) ρ A w ρ' A' w' := by
  obtain ⟨fn, x, st, vs, h1, h2, h3, h4, h5, h6, h7⟩ := callN_func h
  obtain ⟨F, hF, hnm, hbd, hc⟩ := hT f fn h1
  subst h7
  rcases hc with hc | ⟨hy, hyes⟩ | ⟨k, ps, two, hy, hok⟩ | hsnd
  · refine ⟨?_, fun ρ w cas hv hr hfree => fn_sound hcs hmix hF hc (by rw [h2.1]; exact h2.2) h3 h4 h5 h6 hv hr hfree⟩
    rw [unwindA_size _ h5]
    exact execC_size hcs _ h3
  · subst hy
    have hnil : first ++ args ++ captured = [] := List.length_eq_zero_iff.1 h2.1
    rw [hnil] at h3 ⊢
    have hst : some (AExit.normal, ({ env := (envOf 0 .leaf []).set 0 (.bool true), n := 1, dfs := [], A := A } : St)) = some (x, st) := h3
    cases hst
    cases h5
    cases h6
    refine ⟨Nat.le_refl _, fun ρ w cas hv hr hfree cs => ?_⟩
    cases hv
    obtain ⟨w', k1, k2, k3, k4, k5, k6⟩ := hyes cs w
    refine ⟨ρ, _, w', k1, .bool true, ?_⟩
    have keep : ∀ b e x, ρ b = some e → A.get b = some x → BRel (CompOf P) ρ e w'.heap x := by
      intro b e x he hx
      by_cases hd : x = .dead
      · subst hd; trivial
      · exact BRel.keep (Ren.le_refl _) (.inr (k6 _ (brel_lt (hr.blk b e x he hx) hd))) (hr.blk b e x he hx)
    exact ⟨⟨keep, hr.inj, hr.glob⟩, Ren.le_refl _, hfree, fun b h1 h2 => absurd h1 h2, Nat.le_refl _, fun _ _ _ => rfl, fun _ _ _ => rfl, fun b e h1 h2 => (by rw [h1] at h2; cases h2), fun cb hcb _ => k6 cb hcb, k5, k2, k3, k4⟩
  · subst hy
    generalize hl : first ++ args ++ captured = l at h2 h3 ⊢
    have fin : ∀ x' y', (two = false → x' = .nilIface ∧ y' = .nilIface) → l = (if two then [x', y'] else []) → (specA k ps x' y' A).map (fun r => (AExit.normal, ({ env := (envOf 0 .leaf l).set 2 r.1, n := 3, dfs := [], A := r.2 } : St))) = some (x, st) →
        A.size ≤ A'.size ∧ ∀ (ρ : Ren) (w : World) (cas : List Value), VRs ρ l cas → HRel (CompOf P) ρ A w.heap → (∀ n, A.size ≤ n → n < A'.size → ρ n = none) → ∀ cs, ∃ ρ' vc w', FnRuns P cs f cas w vc w' ∧ VR ρ' (tupleA vs) vc ∧ Tr (CompOf P) ρ A w ρ' A' w' := by
      intro x' y' h0 hl' hx
      cases hs : specA k ps x' y' A with
      | none => rw [hs] at hx; cases hx
      | some r =>
        obtain ⟨u, A2⟩ := r
        rw [hs] at hx
        simp only [Option.map_some, Option.some.injEq, Prod.mk.injEq] at hx
        obtain ⟨rfl, rfl⟩ := hx
        cases h5
        have hv : vs = [u] := by
          cases two <;> · simp only [specFn, resultsA, resA] at h6; simpa [Env.rd, Trie.get_set] using h6.symm
        subst hv
        refine ⟨specA_size hs, fun ρ w cas hv hr hfree cs => ?_⟩
        obtain ⟨vc, w', k1, k2, k3⟩ := hok x' y' u A A2 h0 hs ρ w cas (by rw [← hl']; exact hv) hr hfree cs
        exact ⟨ρ, vc, w', k1, k2, k3⟩
    cases two with
    | true =>
      have h22 : l.length = 2 := h2.1
      obtain ⟨x', y', hxy⟩ : ∃ x' y', l = [x', y'] := by
        match l, h22 with
        | [x', y'], _ => exact ⟨x', y', rfl⟩
      refine fin x' y' (fun q => by cases q) hxy ?_
      rw [← h3]
      have e0 : ev (envOf 0 .leaf l) (.tmp 0) = x' := by rw [hxy]; simp [ev, envOf, Env.rd, Trie.get_set]
      have e1 : ev (envOf 0 .leaf l) (.tmp 1) = y' := by rw [hxy]; simp [ev, envOf, Env.rd, Trie.get_set]
      simp only [specFn, execC, runOps, runOp, wantedA, opVal, lop, e0, e1, if_true]
      cases specA k ps x' y' A with
      | none => rfl
      | some r => rfl
    | false =>
      have h20 : l = [] := List.length_eq_zero_iff.1 h2.1
      refine fin .nilIface .nilIface (fun _ => ⟨rfl, rfl⟩) h20 ?_
      rw [← h3]
      have e0 : ev (envOf 0 .leaf l) (.const .nilIface) = .nilIface := rfl
      simp only [specFn, execC, runOps, runOp, wantedA, opVal, lop, e0, if_true]
      cases specA k ps .nilIface .nilIface A with
      | none => rfl
      | some r => rfl
  · refine ⟨?_, fun ρ w cas hv hr hfree => hsnd _ _ hcs _ _ _ _ _ _ h2 h3 h4 h5 h6 ρ w cas hv hr hfree⟩
    rw [unwindA_size _ h5]
    exact execC_size hcs _ h3

theorem callFunc_run {T : FTab} {f : FuncId} {fn : AFunc} (hT : TabOk P T) (h : T f = some fn) (args : Array Value) : (callFunc f args).run P w = .ok (.enter f args) w := by
  obtain ⟨F, hF, hnm, hb, hc⟩ := hT f fn h
  unfold callFunc
  rw [run_bind]
  have : (program : Sem Program).run P w = .ok P w := rfl
  rw [this]
  simp only [hF, hnm, hb, Bool.false_eq_true, if_false, run_pure]

theorem FnRuns.cruns {T : FTab} {f : FuncId} {fn : AFunc} (hT : TabOk P T) (hf : T f = some fn) {first captured args : List Value} {vc : Value} {w' : World} {c : Frame} {cs : List Frame} (h : FnRuns P (c :: cs) f (first ++ args ++ captured) w vc w') :
    CRuns P c cs (.func (.func f) ⟨first⟩ ⟨captured⟩) args w vc w' := by
  refine ⟨{ target := .fn (.func f) ⟨captured⟩, args := ⟨first⟩ ++ ⟨args⟩ }, run_pure _, .inl ⟨f, (⟨first⟩ ++ ⟨args⟩) ++ ⟨captured⟩, ?_, ?_⟩⟩
  · exact callFunc_run hT hf _
  · obtain ⟨fr, h1, h2, h3⟩ := h
    have : ((⟨first⟩ : Array Value) ++ ⟨args⟩) ++ ⟨captured⟩ = (first ++ args ++ captured).toArray := by simp
    rw [this]
    exact h1.trans (Steps.one (step_leave_returned h3))

theorem round_zip (params : Array Nat) (args : Array Value) (tmps : Array Value) : ((params.zip args).foldl (fun tmps (x : Nat × Value) => tmps.setIfInBounds x.1 x.2) tmps) = (params.toList.zip args.toList).foldl (fun tmps ta => tmps.setIfInBounds ta.1 ta.2) tmps := by
  rw [← Array.foldl_toList, Array.toList_zip]

theorem yield_sound {T : FTab} {n : Nat} (hmix : P.follows .mixedOrders = true) (hcs : CallSound P (callN T n)) {l : Nat} {y1 y2 : Array Value} {args : List Value} {A A' : AHeap} {v : Value} (h : callN T (n + 1) (.func (.yield l) y1 y2) args A = some (v, A')) :
    A.size ≤ A'.size ∧ CallSem P (.func (.yield l) y1 y2) args A v A' := by
  simp only [callN] at h
  split at h
  case h_2 => cases h
  rename_i p f k e params assign body d hg
  split at h
  case isFalse => cases h
  rename_i hcond
  obtain ⟨hlen, hall⟩ := hcond
  split at h
  case h_2 => cases h
  rename_i st1 hx1
  split at h
  case h_2 => cases h
  rename_i p1 f1 k1 e1 params1 assign1 body1 d1 hg1
  split at h
  case h_2 => cases h
  rename_i x st2 hx2
  split at h
  case h_2 => cases h
  rename_i s2 p2 f2 k2 e2 params2 assign2 body2 d2 hg2
  split at h
  case h_2 => cases h
  rename_i j hj
  cases h
  have sz1 := execC_size hcs _ hx1
  have sz2 := execC_size hcs _ hx2
  simp only [AHeap.size_set] at sz2
  simp only at sz1
  refine ⟨by simp only [AHeap.size_set]; omega, ?_⟩
  intro ρ w cfv cargs hv hargs hr hfree c cs
  simp only [AHeap.size_set] at hfree
  cases hv with
  | yield _ en he =>
  obtain ⟨L, g1, g2, g3, g4, g5, g6, g7, g8, g9, ed, g10, g11⟩ := hr.blk _ _ _ he hg
  have hln := hargs.length
  subst g4
  -- the round's frame
  let b0 : Frame := { fn := L.fn, tmps := #[], todo := [], defers := [], mode := .run, kind := .normal, roundOf := some en.cb }
  let tm : Array Value := (L.params.zip (⟨cargs⟩ : Array Value)).foldl (fun tmps (x : Nat × Value) => tmps.setIfInBounds x.1 x.2) L.tmps
  have hround : ∀ cs, lone (Frame.round en.cb L.fn tm L.assign L.body .normal) cs w = lone (fat b0 { tmps := tm, defers := [] } [.code L.assign, .beginRound, .code L.body]) cs w := fun cs => rfl
  have hz := zip_env (ρ := ρ) L.params.toList (e := e) (tmps := L.tmps) k hargs (fun t ht => by
    have := List.all_eq_true.1 hall t (by rw [← g5]; exact ht)
    simpa using this) g8 g9
  have htm : tm = (L.params.toList.zip cargs).foldl (fun tmps ta => tmps.setIfInBounds ta.1 ta.2) L.tmps := round_zip _ _ _
  rw [← htm] at hz
  rw [← g5] at hx1
  obtain ⟨ρ1, a1, w1, l1, S1, T1⟩ := execC_sound hcs hmix L.assign _ _ _ _ g6 hx1 ρ { tmps := tm, defers := [] } w b0 rfl ⟨hz.1, hz.2, trivial⟩ hr (fun m p q => hfree m p (by omega)) ⟨en, he, rfl⟩ [.beginRound, .code L.body] (c :: cs)
  have he1 := T1.mono _ _ he
  obtain ⟨L1, i1, i2, i3, i4, i5, i6, i7, i8, i9, ed1, i10, i11⟩ := T1.rel.blk _ _ _ he1 hg1
  have i1' : w1.heap[en.cb]? = some (.loop L1) := i1
  have hlt1 : en.cb < w1.heap.size := by
    rcases Nat.lt_or_ge en.cb w1.heap.size with q | q
    · exact q
    · rw [Array.getElem?_eq_none q] at i1'; cases i1'
  let w1' : World := { w1 with heap := w1.heap.setIfInBounds en.cb (.loop { L1 with state := .busy }) }
  have hbr : (Instr.beginRound en.cb).run P w1 = .ok () w1' := by
    simp only [Instr.beginRound, run_bind, run_getLoop i1', run_setObj i1' (fun _ _ _ => by simp), i2, run_pure]
    rfl
  have T2 : Tr (CompOf P) ρ1 st1.A w1 ρ1 (st1.A.set l (.loop .busy p1 f1 k1 e1 params1 assign1 body1 d1)) w1' := by
    refine Tr.upd T1.rel he1 hg1 (fun hp => hp) (.inr (fun hp => hp)) (by simp [w1']) (fun cb hcb => by simp [w1', Array.getElem?_setIfInBounds, Ne.symm hcb]) ?_ rfl rfl rfl
    refine ⟨{ L1 with state := .busy }, ?_, rfl, i3, i4, i5, i6, i7, i8, i9, ed1, i10, i11⟩
    show w1'.heap[en.cb]? = _
    simp [w1', Array.getElem?_setIfInBounds, hlt1]
  have T12 := T1.trans T2
  obtain ⟨ρ2, a2, w2, l2, S2, T3⟩ := execC_sound hcs hmix L.body _ _ _ _ g7 hx2 ρ1 a1 w1' b0 rfl ⟨S1.env, S1.n, S1.dfs⟩ T2.rel (free_next T12 (fun m p q => hfree m p (by simpa using q))) ⟨en, he1, rfl⟩ [] (c :: cs)
  have he2 := T3.mono _ _ he1
  obtain ⟨L2, j1, j2, j3, j4, j5, j6, j7, j8, j9, ed2, j10, j11⟩ := T3.rel.blk _ _ _ he2 hg2
  have j1' : w2.heap[en.cb]? = some (.loop L2) := j1
  have hlt2 : en.cb < w2.heap.size := by
    rcases Nat.lt_or_ge en.cb w2.heap.size with q | q
    · exact q
    · rw [Array.getElem?_eq_none q] at j1'; cases j1'
  let w3 : World := { w2 with heap := w2.heap.setIfInBounds en.cb (.loop { L2 with state := if j.isNone then .ready else .done, pending := j }) }
  have her : (Instr.endRound en.cb j).run P w2 = .ok (.bool j.isNone) w3 := by
    simp only [Instr.endRound, run_bind, run_getLoop j1', run_setObj j1' (fun _ _ _ => by simp), run_pure]
    rfl
  have T4 : Tr (CompOf P) ρ2 st2.A w2 ρ2 (st2.A.set l (.loop (if j.isNone then .ready else .done) j f2 k2 e2 params2 assign2 body2 d2)) w3 := by
    refine Tr.upd T3.rel he2 hg2 (fun hp => hp) (.inr (fun hp => hp)) (by simp [w3]) (fun cb hcb => by simp [w3, Array.getElem?_setIfInBounds, Ne.symm hcb]) ?_ rfl rfl rfl
    refine ⟨{ L2 with state := if j.isNone then .ready else .done, pending := j }, ?_, rfl, rfl, j4, j5, j6, j7, j8, j9, ed2, j10, j11⟩
    show w3.heap[en.cb]? = _
    simp [w3, Array.getElem?_setIfInBounds, hlt2]
  refine ⟨ρ2, .bool j.isNone, w3, ?_, .bool _, T12.trans (T3.trans T4)⟩
  refine ⟨{ target := .fn (.yield en.cb) #[], args := #[] ++ ⟨cargs⟩ }, run_pure _, .inr ⟨en.cb, L.fn, tm, L.assign, L.body, ?_, ?_⟩⟩
  · have hsz : ¬ (#[] ++ (⟨cargs⟩ : Array Value)).size ≠ L.params.size := by
      have : L.params.size = params.length := by rw [← g5]; simp
      simp; omega
    show (Instr.yield en.cb (#[] ++ ⟨cargs⟩)).run P w = _
    have g1' : w.heap[en.cb]? = some (.loop L) := g1
    simp only [Instr.yield, run_bind, run_getLoop g1']
    rw [if_neg hsz]
    simp only [run_pure, Array.empty_append]
    rfl
  · rw [hround]
    have s1 := l1
    have s2 : Steps P (lone (fat b0 a1 [.beginRound, .code L.body]) (c :: cs) w1) (lone (fat b0 a1 [.code L.body]) (c :: cs) w1') := Steps.one (st_beginRound rfl hbr)
    have s3 := l2
    have s12 : Steps P _ _ := Steps.trans s1 s2
    cases x with
    | normal =>
      cases hj
      exact (s12.trans s3).trans (Steps.one (st_leaveRound rfl rfl her (.inl ⟨rfl, rfl⟩)))
    | ret =>
      cases hj
      obtain ⟨todo, s3⟩ := s3
      exact (s12.trans s3).trans (Steps.one (st_leaveRound rfl rfl her (.inr (.inl ⟨rfl, todo, rfl⟩))))
    | exit id =>
      cases hj
      obtain ⟨kk, e1, s3⟩ := s3
      exact (s12.trans s3).trans (Steps.one (st_leaveRound rfl rfl her (.inr (.inr ⟨id, _, rfl, rfl, by rw [e1]; rfl⟩))))

theorem callN_sound {T : FTab} (hT : TabOk P T) (hmix : P.follows .mixedOrders = true) : ∀ n, CallSound P (callN T n) := by
  intro n
  induction n with
  | zero => intro fv args A v A' h; cases h
  | succ n ih =>
    intro fv args A v A' h
    cases fv with
    | func fr first captured =>
      obtain ⟨first⟩ := first
      obtain ⟨captured⟩ := captured
      cases fr with
      | func f =>
        obtain ⟨h1, h2⟩ := callN_fn_sound hT hmix ih h
        refine ⟨h1, ?_⟩
        intro ρ w cfv cargs hv hargs hr hfree c cs
        obtain ⟨fn, _, _, _, hTf, _⟩ := callN_func h
        cases hv with
        | func _ _ first' _ captured' hv1 hv2 =>
          obtain ⟨ρ', vc, w', k1, k2, k3⟩ := h2 ρ w (first' ++ cargs ++ captured') ((hv1.append hargs).append hv2) hr hfree (c :: cs)
          exact ⟨ρ', vc, w', k1.cruns hT hTf, k2, k3⟩
      | yield l => exact yield_sound hmix ih h
      | _ => simp only [callN] at h; cases h
    | _ => simp only [callN] at h; cases h

end
end Go.AS
end
