import Derived.Test.YtidgbapgedegbaaAsO
import Derived.IntWalk
namespace Go.AS
open Go
set_option linter.unusedSimpArgs false
set_option linter.unusedVariables false

theorem undef_VR0 {ρ : Ren} : VR ρ undef (.tuple #[]) := .tuple _ _ .nil

section
variable {C : Comp} {ρ : Ren} {A : AHeap} {w : World} {P : Program} {e : Env} {cev : Operand → Value}

/-- What an operation of ours says of the machine's. -/
def OpSound (C : Comp) (P : Program) (o : Oper) (cev : Operand → Value) (ρ : Ren) (A : AHeap) (w : World) (v : Value) (A' : AHeap) : Prop :=
  ∃ ρ' nx vc w', (execOp cev o).run P w = .ok nx w' ∧ (nx = .value vc ∨ (nx = .skip ∧ vc = undef)) ∧ VR ρ' v vc ∧ Tr C ρ A w ρ' A' w'

theorem range0 {f : Nat → Value} : (Array.range 0).map f = #[] := by apply Array.ext'; simp

theorem bytes_cells (l : List UInt8) : VRs ρ (l.map fun b => Value.int .u8 b.toNat) (l.map fun b => Value.int .u8 b.toNat) := by
  induction l with
  | nil => exact .nil
  | cons a l ih => exact .cons _ _ _ _ (.int _ _) ih

/-- A map's block, written. -/
theorem Tr.mapUpd (hr : HRel C ρ A w.heap) {b : Nat} {en : REnt} {kk : IntKind} {es es2 : List (Int × Value × Nat)} {c c2 : Nat} {es' es2' : Array MapEntry} (he : ρ b = some en) (hb : A.get b = some (.map kk es c)) (hh : w.heap[en.cb]? = some (.map es' c)) (hm : MR ρ kk es2 es2'.toList) :
    Tr C ρ A w ρ (A.set b (.map kk es2 c2)) { w with heap := w.heap.setIfInBounds en.cb (.map es2' c2) } := by
  have hlt : en.cb < w.heap.size := by
    rcases Nat.lt_or_ge en.cb w.heap.size with q | q
    · exact q
    · rw [Array.getElem?_eq_none q] at hh; cases hh
  refine Tr.upd hr he hb (fun hp => hp) (.inr (fun hp => hp)) (by simp) (fun cb hcb => by simp [Array.getElem?_setIfInBounds, Ne.symm hcb]) ?_ rfl rfl rfl
  exact ⟨es2', by simp [Array.getElem?_setIfInBounds, hlt], hm⟩

theorem mapPut_sound (hr : HRel C ρ A w.heap) {kk : IntKind} {m k x : Operand} {t kt et : TypeId} {v : Value} {A' : AHeap} (hu : P.underlying t = some (.map kt et)) (huk : P.underlying kt = some (.int kk))
    (hm : VR ρ (ev e m) (cev m)) (hk : VR ρ (ev e k) (cev k)) (hx : VR ρ (ev e x) (cev x)) (hq : lop e A (.mapPut kk m k x) = some (v, A')) :
    ∃ w', (Instr.mapUpdate t (cev m) (cev k) (cev x)).run P w = .ok () w' ∧ v = undef ∧ Tr C ρ A w ρ A' w' := by
  simp only [lop] at hq
  split at hq
  · rename_i b kj n hem hek
    split at hq
    · rename_i hkk
      subst hkk
      rw [hem] at hm; rw [hek] at hk
      obtain ⟨en, he, hm'⟩ : ∃ en, ρ b = some en ∧ cev m = .map (some en.cb) := by
        generalize cev m = X at hm; cases hm with
        | map _ en he => exact ⟨en, he, rfl⟩
      have hk' := hk.int_inv
      split at hq
      · rename_i k2 es clock hb
        split at hq
        · rename_i hk2
          subst hk2
          obtain ⟨es', hh, hmr⟩ := hr.blk _ _ _ he hb
          obtain ⟨f1, f2⟩ := findNow_sound (n := n) hmr 0
          split at hq
          · rename_i j u hf
            cases hq
            obtain ⟨v', g1, g2, _, g3⟩ := f2 _ _ hf
            refine ⟨_, ?_, rfl, Tr.mapUpd hr he hb hh (es2' := es'.modify j fun e => { e with key := .int k2 n, val := cev x }) (c2 := clock) (by rw [Array.toList_modify]; exact hmr.modify hx j)⟩
            simp only [Instr.mapUpdate, run_bind, run_underlying hu, run_pure, hm', hk', run_getObjMap hh, run_checkKey huk]
            rw [run_findKey huk g1]
            have hkey : ((es'[j]?).map (·.key)).getD (.int k2 n) = .int k2 n := by
              have : (es'[j]?).map (·.key) = some (.int k2 n) := by rw [← g3]; simp
              rw [this]; rfl
            have hks : (Instr.keyThatStays (.int k2 n) (.int k2 n)).run P w = .ok (.int k2 n) w := by
              have : ∀ m, Instr.sameBits m (.int k2 n) (.int k2 n) = true := fun m => by cases m <;> simp [Instr.sameBits]
              simp only [Instr.keyThatStays, this, if_true, run_pure]
            simp only [run_bind, hkey, hks, run_setObjMap hh]
          · rename_i hf
            cases hq
            have g1 := f1 hf
            refine ⟨_, ?_, rfl, Tr.mapUpd hr he hb hh (es2' := es'.push { key := .int k2 n, val := cev x, born := clock }) (c2 := clock + 1) (by rw [Array.toList_push]; exact hmr.push hx)⟩
            simp only [Instr.mapUpdate, run_bind, run_underlying hu, run_pure, hm', hk', run_getObjMap hh, run_checkKey huk]
            rw [run_findKey huk g1]
            simp only [run_bind, run_setObjMap hh]
        · cases hq
      · cases hq
    · cases hq
  · cases hq

set_option maxHeartbeats 2000000 in
theorem lop_sound {o : Oper} {ao : AOp} {v : Value} {A' : AHeap} (hc : compileOp P o = some ao) (hq : lop e A ao = some (v, A')) (hev : ∀ x ∈ o.op.operands.toList, VR ρ (ev e x) (cev x)) (hr : HRel C ρ A w.heap)
    (hfree : ∀ b, A.size ≤ b → b < A'.size → ρ b = none) : OpSound C P o cev ρ A w v A' := by
  have quiet : ∀ (hl : lop e A ao = (qop e A ao).map fun v => (v, A)), OpSound C P o cev ρ A w v A' := by
    intro hl
    rw [hl] at hq
    cases h : qop e A ao with
    | none => rw [h] at hq; cases hq
    | some u =>
      rw [h] at hq; cases hq
      obtain ⟨vc, h1, h2⟩ := qop_sound hc h hev hr
      exact ⟨ρ, _, vc, w, h1, .inl rfl, h2, Tr.refl hr⟩
  have hc0 := hc
  obtain ⟨dst, op, ty, pos, after, guard⟩ := o
  unfold compileOp at hc
  split at hc
  · cases hc
  rename_i hops0
  have hops : ∀ x ∈ op.operands.toList, x ∈ op.operands.toList := fun _ h => h
  clear hops0
  have fr : A'.size = A.size + 1 → ρ A.size = none := fun h2 => hfree A.size (Nat.le_refl _) (by omega)
  cases op with
  | alloc elem =>
    simp only at hc
    cases h1 : zeroOf P elem with
    | none => rw [h1] at hc; cases hc
    | some z =>
      rw [h1] at hc; cases hc
      cases hq
      obtain ⟨v0, k1, k2, k3⟩ := zeroOf_spec (w := w) (ρ := ρ) h1
      have hf := fr rfl
      refine ⟨_, _, .pointer (some ⟨w.heap.size, 0, none⟩), { w with heap := w.heap.push (.cells v0.cells elem) }, ?_, .inl rfl, ?_, Tr.cells (cc := v0.cells) (el := elem) hr hf (by rw [cells_cl, k2]; exact k3) rfl rfl rfl rfl⟩
      · refine run_v ?_
        simp only [Instr.alloc, run_bind, k1, newVar, run_newRow, run_pure]
      · have := VR.ptr (ρ := Ren.upd ρ A.size ⟨w.heap.size, 0, 0, 0⟩) A.size 0 _ Ren.upd_same
        simpa using this
  | box elem x =>
    simp only at hc
    cases h1 : szOf P elem with
    | none => rw [h1] at hc; cases hc
    | some n =>
      rw [h1] at hc; cases hc
      simp only [lop] at hq
      split at hq
      · cases hq
        have hvx := hev x (hops x (by simp [Op.operands]))
        have hf := fr rfl
        refine ⟨_, _, .pointer (some ⟨w.heap.size, 0, none⟩), { w with heap := w.heap.push (.cells (cev x).cells elem) }, ?_, .inl rfl, ?_, Tr.cells (cc := (cev x).cells) (el := elem) hr hf (by rw [cells_cl]; exact hvx.cl) rfl rfl rfl rfl⟩
        · refine run_v ?_
          simp only [Instr.box, run_bind, newVar, run_newRow, run_pure]
        · have := VR.ptr (ρ := Ren.upd ρ A.size ⟨w.heap.size, 0, 0, 0⟩) A.size 0 _ Ren.upd_same
          simpa using this
      · cases hq
  | buildSlice t len parts =>
    simp only at hc
    split at hc
    · rename_i elem hu
      simp only [Option.bind_eq_bind] at hc
      cases h1 : szOf P elem with
      | none => rw [h1] at hc; cases hc
      | some s =>
        rw [h1] at hc; simp only [Option.bind_some] at hc
        have fin : ∀ (z z' : List Value), VRs ρ z z' → len * s ≤ 16777216 → len ≤ 16777216 → (len * s = 0 ∨ z.length = s) →
            (¬ len * s = 0 → ∃ v0, (zeroValue elem).run P w = .ok v0 w ∧ v0.cells = ⟨z'⟩) → (len * s = 0 → z = []) →
            ao = .bslice elem len z (parts.toList.map fun p => (p.1 * s, s, p.2)) → OpSound C P { dst, op := .buildSlice t len parts, type := ty, pos, after, guard } cev ρ A w v A' := by
          intro z z' hz hle hle2 hzl hzrun hz0 hao
          subst hao
          simp only [lop] at hq
          cases hf : fillP (rep len z) ((parts.toList.map fun p => (p.1 * s, s, p.2)).map fun p => (p.1, p.2.1, ev e p.2.2)) with
          | none => rw [hf] at hq; cases hq
          | some out =>
            rw [hf] at hq; cases hq
            obtain ⟨out', k1, k2⟩ := fill_sound (ρ := ρ) (e := e) (cev := cev) (fun i => some (i * s, s)) parts.toList (parts.toList.map fun p => (p.1 * s, s, p.2)) (by simp)
              (fun i p q hp hq => by rw [List.getElem?_map, hp] at hq; cases hq; exact ⟨rfl, rfl⟩) (fun p hpm => hev p.2 (hops p.2 (List.mem_map.2 ⟨p, hpm, rfl⟩))) (rep len z) (rep len z') out (hz.rep len) hf
            have hfr := fr rfl
            refine ⟨_, _, .slice (some ⟨w.heap.size, 0, none⟩) len len, { w with heap := w.heap.push (.cells out' elem) }, ?_, .inl rfl, ?_, Tr.cells (cc := out') (el := elem) hr hfr k2 rfl rfl rfl rfl⟩
            · refine run_v ?_
              have hnle : ¬ (len * s > 2 ^ 24) := by omega
              have hzl' : z'.length = z.length := hz.length
              have hparts : (parts.map fun x => (x.1, cev x.2)).toList = parts.toList.map fun p => (p.1, cev p.2) := by simp
              by_cases h0 : len * s = 0
              · have hzn := hz0 h0
                subst hzn
                cases hz
                have hrep : rep len [] = [] := by
                  have := rep_length len []
                  simp at this; exact this
                rw [hrep] at k1
                simp only [Instr.buildSlice, run_bind, run_underlying hu, run_sizeOf h1, if_neg hnle, if_pos h0, run_pure]
                rw [h0, hparts]
                rw [range0]
                rw [k1]
                simp only [run_bind, run_newRow, run_pure]
              · obtain ⟨v0, z1, z2⟩ := hzrun h0
                have hzs : z.length = s := hzl.resolve_left h0
                have harr : ((Array.range (len * s)).map ((⟨z'⟩ : Array Value)[· % (⟨z'⟩ : Array Value).size]!)) = ⟨rep len z'⟩ := by
                  apply Array.ext'
                  have := rep_range len ⟨z'⟩
                  simp only [List.size_toArray, hzl', hzs] at this ⊢
                  exact this
                simp only [Instr.buildSlice, run_bind, run_underlying hu, run_sizeOf h1, if_neg hnle, if_neg h0, run_pure, z1, z2]
                rw [harr, hparts, k1]
                simp only [run_bind, run_newRow, run_pure]
            · have hne : len < OPEN := by
                unfold OPEN; omega
              have := VR.slice (ρ := Ren.upd ρ A.size ⟨w.heap.size, 0, 0, 0⟩) A.size 0 len len _ Ren.upd_same hne (Nat.le_refl _)
              simpa using this
        by_cases h0 : len * s = 0
        · rw [if_pos h0] at hc
          by_cases hk : len * s ≤ 16777216 ∧ len ≤ 16777216 ∧ (len * s = 0 ∨ ([] : List Value).length = s)
          · rw [if_pos hk] at hc; cases hc
            exact fin [] [] .nil hk.1 hk.2.1 hk.2.2 (fun h => absurd h0 h) (fun _ => rfl) rfl
          · rw [if_neg hk] at hc; cases hc
        · rw [if_neg h0] at hc
          cases h2 : zeroOf P elem with
          | none => rw [h2] at hc; cases hc
          | some zz =>
            rw [h2] at hc; simp only [Option.bind_some] at hc
            by_cases hk : len * s ≤ 16777216 ∧ len ≤ 16777216 ∧ (len * s = 0 ∨ zz.length = s)
            · rw [if_pos hk] at hc; cases hc
              obtain ⟨v0, k1, k2, k3⟩ := zeroOf_spec (w := w) (ρ := ρ) h2
              exact fin zz zz k3 hk.1 hk.2.1 hk.2.2 (fun _ => ⟨v0, k1, by rw [cells_cl, k2]⟩) (fun h => absurd h h0) rfl
            · rw [if_neg hk] at hc; cases hc
    · cases hc
  | store t a x =>
    simp only at hc
    cases h1 : szOf P t with
    | none => rw [h1] at hc; cases hc
    | some n =>
      rw [h1] at hc; cases hc
      have hva := hev a (hops a (by simp [Op.operands]))
      have hvx := hev x (hops x (by simp [Op.operands]))
      simp only [lop] at hq
      split at hq
      · rename_i b o ha
        rw [ha] at hva
        obtain ⟨en, he, hX⟩ := hva.ptr_inv
        split at hq
        · rename_i hn
          have hlen := hvx.cl.length
          have hcs : ¬ ((cev x).cells.size ≠ n) := by rw [cells_cl]; simp; omega
          have hcl : (cev x).cells.toList = cl (cev x) := cl_cells _
          split at hq
          · rename_i h0
            cases hq
            have hnil : cl (cev x) = [] := List.length_eq_zero_iff.1 (by omega)
            refine ⟨ρ, _, undef, w, ?_, .inr ⟨rfl, rfl⟩, .tuple _ _ .nil, Tr.refl hr⟩
            refine run_u ?_
            simp only [Instr.storeAt, hX, Instr.sureAddr, run_bind, run_pure, storeVar, run_sizeOf h1, if_neg hcs, hcl, hnil]
            rfl
          · cases hw : wrCells A b o (cl (ev e x)) with
            | none => rw [hw] at hq; cases hq
            | some A2 =>
              rw [hw] at hq; cases hq
              obtain ⟨w', k1, k2⟩ := wrCells_sound (P := P) hr hw he hvx.cl
              refine ⟨ρ, _, undef, w', ?_, .inr ⟨rfl, rfl⟩, .tuple _ _ .nil, k2⟩
              refine run_u ?_
              simp only [Instr.storeAt, hX, Instr.sureAddr, run_bind, run_pure, storeVar, run_sizeOf h1, if_neg hcs, hcl]
              exact k1
        · cases hq
      · cases hq
  | makeSlice t l c =>
    simp only at hc
    split at hc
    · rename_i elem hu
      simp only [Option.bind_eq_bind] at hc
      cases h1 : szOf P elem with
      | none => rw [h1] at hc; cases hc
      | some s =>
        rw [h1] at hc; simp only [Option.bind_some] at hc
        cases h2 : bytesOf P elem with
        | none => rw [h2] at hc; cases hc
        | some bb =>
          rw [h2] at hc; simp only [Option.bind_some] at hc
          cases h3 : zeroOf P elem with
          | none => rw [h3] at hc; cases hc
          | some zz =>
            rw [h3] at hc; cases hc
            have hvl := hev l (hops l (by simp [Op.operands]))
            have hvc := hev c (hops c (by simp [Op.operands]))
            simp only [lop] at hq
            split at hq
            · rename_i k1 ln k2 cn hl hcn
              rw [hl] at hvl; rw [hcn] at hvc
              split at hq
              · rename_i hk
                obtain ⟨hk1, hk2, hk3, hk4, hk5⟩ := hk
                cases hq
                have hfr := fr rfl
                obtain ⟨v0, z1, z2, z3⟩ := zeroOf_spec (w := w) (ρ := ρ) h3
                unfold bytesOf at h2
                cases hi : P.info? elem with
                | none => rw [hi] at h2; cases h2
                | some inf =>
                  rw [hi] at h2
                  simp only [Option.map_some, Option.some.injEq] at h2
                  have wl : IntKind.i64.wrap ln = ln := IntWalk.i64_in _ (by omega)
                  have wc : IntKind.i64.wrap cn = cn := IntWalk.i64_in _ (by omega)
                  refine ⟨_, _, .slice (some ⟨w.heap.size, 0, none⟩) ln.toNat cn.toNat, { w with heap := w.heap.push (.cells ⟨rep cn.toNat zz⟩ elem) }, ?_, .inl rfl, ?_, Tr.cells (cc := ⟨rep cn.toNat zz⟩) (el := elem) hr hfr (z3.rep _) rfl rfl rfl rfl⟩
                  · refine run_v ?_
                    have hbig : ((inf.bytes : Int) * cn > 2 ^ 48) = False := by
                      rw [h2]
                      have h5 : cn.toNat ≤ 4294967296 := by omega
                      have h6 : bb * cn.toNat ≤ 8192 * 4294967296 := Nat.mul_le_mul hk4 h5
                      have h7 : ((bb * cn.toNat : Nat) : Int) = (bb : Int) * cn := by
                        rw [Int.natCast_mul]; congr 1; omega
                      simp only [gt_iff_lt, eq_iff_iff, iff_false, Int.not_lt]
                      rw [← h7]; omega
                    have c1 : (decide (cn < 0) || decide ((inf.bytes : Int) * cn > 2 ^ 48) || decide (ln < 0) || decide (ln > cn)) = false := by
                      simp only [hbig, decide_false, Bool.or_false, Bool.or_eq_false_iff, decide_eq_false_iff_not]
                      omega
                    simp only [Instr.makeSlice, run_bind, run_underlying hu, hvl.int_inv, hvc.int_inv, asInt, asIntOf, run_pure, run_typeInfo hi, wl, wc, c1, Bool.false_eq_true, if_false, run_askRoom, run_sizeOf h1]
                    by_cases hn0 : cn.toNat * s = 0
                    · rw [if_pos hn0]
                      simp only [run_pure, run_newRow, run_bind]
                      have hrep : rep cn.toNat zz = [] := by
                        have := rep_length cn.toNat zz
                        rw [hk5, hn0] at this
                        exact List.length_eq_zero_iff.1 this
                      rw [hrep, hn0]
                      rw [range0]
                    · rw [if_neg hn0]
                      simp only [run_bind, z1, run_pure, run_newRow]
                      have := rep_range cn.toNat v0.cells
                      rw [cells_cl, z2] at this ⊢
                      simp only [List.size_toArray, hk5] at this ⊢
                      have e1 : ((Array.range (cn.toNat * s)).map fun x => (⟨zz⟩ : Array Value)[x % s]!) = ⟨rep cn.toNat zz⟩ := by
                        apply Array.ext'
                        exact this
                      rw [e1]
                  · have hne : cn.toNat < OPEN := by unfold OPEN; omega
                    have := VR.slice (ρ := Ren.upd ρ A.size ⟨w.heap.size, 0, 0, 0⟩) A.size 0 ln.toNat cn.toNat _ Ren.upd_same hne (by omega)
                    simpa using this
              · cases hq
            · cases hq
    · cases hc
  | convert src dst' x =>
    simp only at hc
    split at hc
    · cases hc; exact quiet rfl
    · cases hc; exact quiet rfl
    · rename_i el' hs hd
      split at hc
      · rename_i he8
        split at hc
        · rename_i hsz
          cases hc
          have hvx := hev x (hops x (by simp [Op.operands]))
          simp only [lop] at hq
          split at hq
          · rename_i s hx
            rw [hx] at hvx
            cases hq
            have hfr := fr rfl
            obtain ⟨t, ht⟩ : ∃ t, t = w.tape w.drawn (.appendCap s.size 0 el') := ⟨_, rfl⟩
            let room := s.size + t % (2 ^ 63 - s.size)
            let w1 : World := { w with drawn := w.drawn + 1 }
            have hch : (choose (.appendCap s.size 0 el')).run P w = .ok room w1 := by
              simp only [choose, Sem.run, Question.forced, Bool.false_eq_true, if_false, Question.cut, room, w1, ht]
            let cc : Array Value := (s.data.map fun b => .int .u8 b.toNat) ++ Array.replicate (room - s.size) (.int .u8 0)
            have hccs : cc.size = room := by
              have : s.size ≤ room := by simp only [room]; omega
              have h2 : s.data.size = s.size := rfl
              simp only [cc, Array.size_append, Array.size_map, Array.size_replicate, h2]; omega
            have hle : s.data.toList.length ≤ room := by
              have h2 : s.data.toList.length = s.size := rfl
              rw [h2]; simp only [room]; omega
            refine ⟨Ren.upd ρ A.size ⟨w.heap.size, 0, room, 1⟩, _, .slice (some ⟨w.heap.size, 0, none⟩) s.size room, { w1 with heap := w.heap.push (.cells cc el' (cc.size, cc.size + 1)) }, ?_, .inl rfl, ?_, ?_⟩
            · refine run_v ?_
              simp only [convert, run_bind, run_underlying hs, run_underlying hd, run_underlying he8, hvx.string_inv, Conv.stringToBytes, hch, run_newRow]
              have hmk : (markStringish ⟨w1.heap.size, 0, none⟩).run P { w1 with heap := w1.heap.push (.cells cc el') } = .ok () { w1 with heap := w.heap.push (.cells cc el' (cc.size, cc.size + 1)) } := by
                have hget : (w.heap.push (.cells cc el'))[w.heap.size]? = some (.cells cc el') := heap_push_new
                simp only [markStringish, run_bind, shape, Sem.run, World.shape?, w1, hget]
                simp only [freeze, Sem.run, World.freeze, if_neg (show ¬ (1 = 0) by omega)]
                congr 2
                apply Array.ext_getElem?
                intro i
                rw [Array.getElem?_modify, Array.getElem?_push, Array.getElem?_push]
                by_cases hi : i = w.heap.size
                · subst hi; simp
                · rw [if_neg (fun h => hi h.symm), if_neg hi, if_neg hi]
              rw [show ((s.data.map fun b => Value.int .u8 b.toNat) ++ Array.replicate (room - s.size) (.int .u8 0)) = cc from rfl, hmk]
              rfl
            · have := VR.sliceOpen (ρ := Ren.upd ρ A.size ⟨w.heap.size, 0, room, 1⟩) A.size 0 s.data.toList.length 0 _ Ren.upd_same (by simp) (by simp only; omega)
              simpa using this
            · refine Tr.openCells (w := w) (vs' := s.data.toList.map fun b => .int .u8 b.toNat) (cc := cc) (lo := cc.size) (hi := cc.size + 1) (el := el') hr hfr (bytes_cells _) ?_ ?_ (by omega) (fun i hi => by omega) rfl rfl rfl rfl
              · simp only [cc, Array.toList_append, Array.toList_map]
                exact List.take_left' rfl
              · omega
          · cases hq
        · cases hc
      · cases hc
    · split at hc
      · cases hc; exact quiet rfl
      · cases hc
    · cases hc
  | call c =>
    obtain ⟨callee, args, argTypes⟩ := c
    cases callee with
    | value f =>
      cases f with
      | func f =>
        simp only at hc
        split at hc
        · split at hc
          · cases hc
          · cases hc; exact quiet rfl
        · cases hc
      | _ => cases hc; exact quiet rfl
    | invoke r n => cases hc
    | builtin b =>
      cases b with
      | append =>
        simp only at hc
        split at hc
        · rename_i t u s x ht hx
          have hargs : args = #[s, x] := by apply Array.ext'; simpa using hx
          have htys : argTypes = #[t, u] := by apply Array.ext'; simpa using ht
          subst hargs; subst htys
          split at hc
          · rename_i elem d hu hux
            split at hc
            · cases hc
            · rename_i hnd
              simp only [Option.bind_eq_bind] at hc
              cases h1 : szOf P elem with
              | none => rw [h1] at hc; cases hc
              | some z =>
                rw [h1] at hc; simp only [Option.bind_some] at hc
                cases h2 : bytesOf P elem with
                | none => rw [h2] at hc; cases hc
                | some bb =>
                  rw [h2] at hc; simp only [Option.bind_some] at hc
                  cases h3 : zeroOf P elem with
                  | none => rw [h3] at hc; cases hc
                  | some zz =>
                    rw [h3] at hc; simp only [Option.bind_some] at hc
                    by_cases hzz : zz.length = z
                    · rw [if_pos hzz] at hc; cases hc
                      have hvs := hev s (hops s (by simp [Op.operands, Call.operands]))
                      have hvx := hev x (hops x (by simp [Op.operands, Call.operands]))
                      obtain ⟨ρ', vc, w', k1, k2, k3⟩ := appA_sound hr hu hux (fun k hk => by subst hk; exact hnd rfl) h1 h2 h3 hzz hq hvs hvx hfree ty
                      refine ⟨ρ', _, vc, w', ?_, .inl rfl, k2, k3⟩
                      simp only [execOp, resolve, run_bind, run_pure, invoke, builtin]
                      have : (#[s, x].map cev) = #[cev s, cev x] := by simp
                      rw [this, k1]
                    · rw [if_neg hzz] at hc; cases hc
          · cases hc
        · cases hc
      | delete =>
        simp only at hc
        split at hc
        · rename_i t m k ht hmm hkk
          split at hc
          · rename_i kt et hu
            split at hc
            · rename_i kk huk
              cases hc
              have hm := hev m (hops m (by
                simp only [Op.operands, Call.operands]
                have := Array.mem_of_getElem? hmm
                simp [this]))
              have hk := hev k (hops k (by
                simp only [Op.operands, Call.operands]
                have := Array.mem_of_getElem? hkk
                simp [this]))
              have ha0 : (args.map cev)[0]? = some (cev m) := by simp [hmm]
              have ha1 : (args.map cev)[1]? = some (cev k) := by simp [hkk]
              have done : ∀ w', (Builtin.delete_ argTypes ty (args.map cev)).run P w = .ok (.tuple #[]) w' → (execOp cev { dst, op := .call { callee := .builtin .delete, args, argTypes }, type := ty, pos, after, guard }).run P w = .ok (.value (.tuple #[])) w' := by
                intro w' h
                simp only [execOp, resolve, run_bind, run_pure, invoke, builtin, h]
              simp only [lop] at hq
              split at hq
              · rename_i kj n hem hek
                rw [hem] at hm; rw [hek] at hk
                cases hq
                have hm' : cev m = .map none := by generalize cev m = X at hm; cases hm; rfl
                have hk' := hk.int_inv
                refine ⟨ρ, _, .tuple #[], w, done w ?_, .inl rfl, undef_VR0, Tr.refl hr⟩
                have hck : (Instr.checkKey true 10000 kt (.int kj n)).run P w = .ok () w := by
                  show (Instr.checkKey true (9999 + 1) kt (.int kj n)).run P w = .ok () w
                  generalize 9999 = q
                  simp only [Instr.checkKey, run_bind, run_underlying huk, run_pure]
                simp only [Builtin.delete_, ht, ha0, ha1, run_bind, run_underlying hu, run_pure, hm', hk', hck]
              · rename_i b kj n hem hek
                split at hq
                · rename_i hkk
                  subst hkk
                  rw [hem] at hm; rw [hek] at hk
                  obtain ⟨en, he, hm'⟩ : ∃ en, ρ b = some en ∧ cev m = .map (some en.cb) := by
                    generalize cev m = X at hm; cases hm with
                    | map _ en he => exact ⟨en, he, rfl⟩
                  have hk' := hk.int_inv
                  split at hq
                  · rename_i k2 es clock hb
                    split at hq
                    · rename_i hk2
                      subst hk2
                      obtain ⟨es', hh, hmr⟩ := hr.blk _ _ _ he hb
                      obtain ⟨f1, f2⟩ := findNow_sound (n := n) hmr 0
                      split at hq
                      · rename_i j u hf
                        cases hq
                        obtain ⟨v', g1, g2, _, g3⟩ := f2 _ _ hf
                        refine ⟨ρ, _, .tuple #[], _, done _ ?_, .inl rfl, undef_VR0, Tr.mapUpd hr he hb hh (es2' := es'.eraseIdxIfInBounds j) (c2 := clock) (by rw [Array.toList_eraseIdxIfInBounds]; exact hmr.erase j)⟩
                        simp only [Builtin.delete_, ht, ha0, ha1, run_bind, run_underlying hu, run_pure, hm', hk', run_getObjMap hh, run_checkKey huk]
                        rw [run_findKey huk g1]
                        simp only [run_bind, run_setObjMap hh, run_pure]
                      · rename_i hf
                        cases hq
                        have g1 := f1 hf
                        refine ⟨ρ, _, .tuple #[], _, done _ ?_, .inl rfl, undef_VR0, Tr.mapUpd hr he hb hh (es2' := es') (c2 := clock) hmr⟩
                        simp only [Builtin.delete_, ht, ha0, ha1, run_bind, run_underlying hu, run_pure, hm', hk', run_getObjMap hh, run_checkKey huk]
                        rw [run_findKey huk g1]
                        simp only [run_bind, run_setObjMap hh, run_pure]
                    · cases hq
                  · cases hq
                · cases hq
              · cases hq
            · cases hc
          · cases hc
        · cases hc
      | clear =>
        simp only at hc
        split at hc
        · rename_i t s ht hs
          split at hc
          · rename_i elem hu
            cases h1 : zeroOf P elem with
            | none => rw [h1] at hc; cases hc
            | some z =>
              rw [h1] at hc; cases hc
              have hvs := hev s (hops s (by
                simp only [Op.operands, Call.operands]
                have := Array.mem_of_getElem? hs
                simp [this]))
              have ha0 : (args.map cev)[0]? = some (cev s) := by simp [hs]
              obtain ⟨v0, z1, z2, z3⟩ := zeroOf_spec (P := P) (w := w) (ρ := ρ) h1
              simp only [lop] at hq
              generalize hX : ev e s = X at hvs hq
              generalize hY : cev s = Y at hvs ha0
              have done : ∀ w', (Builtin.clear_ argTypes ty (args.map cev)).run P w = .ok (.tuple #[]) w' → (execOp cev { dst, op := .call { callee := .builtin .clear, args, argTypes }, type := ty, pos, after, guard }).run P w = .ok (.value (.tuple #[])) w' := by
                intro w' h
                simp only [execOp, resolve, run_bind, run_pure, invoke, builtin, h]
              split at hq
              · cases hq
                cases hvs
                refine ⟨ρ, _, .tuple #[], w, done w ?_, .inl rfl, undef_VR0, Tr.refl hr⟩
                simp only [Builtin.clear_, ht, ha0, run_bind, run_underlying hu, run_pure]
              · rename_i b o n c
                split at hq
                · rename_i h0
                  cases hq
                  subst h0
                  refine ⟨ρ, _, .tuple #[], w, done w ?_, .inl rfl, undef_VR0, Tr.refl hr⟩
                  cases hvs <;> simp only [Builtin.clear_, ht, ha0, run_bind, run_underlying hu, run_pure]
                · rename_i h0
                  cases hw : wrCells A b o (rep n z) with
                  | none => rw [hw] at hq; cases hq
                  | some A2 =>
                    rw [hw] at hq; cases hq
                    have hD : ∃ en c', ρ b = some en ∧ Y = .slice (some ⟨en.cb, en.base + o, none⟩) n c' := by
                      cases hvs with
                      | slice _ _ _ _ en he hc hl => exact ⟨en, _, he, rfl⟩
                      | sliceOpen _ _ _ q en he hq hrm => exact ⟨en, _, he, rfl⟩
                      | sliceEnd => exact absurd rfl h0
                    obtain ⟨en, c', he, hD⟩ := hD
                    subst hD
                    obtain ⟨w', k1, k2⟩ := wrCells_sound (P := P) hr hw he (z3.rep n)
                    refine ⟨ρ, _, .tuple #[], w', done w' ?_, .inl rfl, undef_VR0, k2⟩
                    have hz : (Builtin.zeroCells v0.cells n).toList = rep n z := by
                      have := rep_range n v0.cells
                      rw [cells_cl, z2] at this
                      unfold Builtin.zeroCells
                      rw [cells_cl, z2]
                      exact this
                    cases n with
                    | zero => exact absurd rfl h0
                    | succ n => 
                      simp only [Builtin.clear_, ht, ha0, run_bind, run_underlying hu, run_pure, z1, hz, k1]
              · cases hq
          · cases hc
        · cases hc
      | copy =>
        simp only at hc
        split at hc
        · rename_i t d s ht hd hs
          split at hc
          · rename_i elem hu
            cases h1 : szOf P elem with
            | none => rw [h1] at hc; cases hc
            | some z =>
              rw [h1] at hc; cases hc
              have hvd := hev d (hops d (by
                simp only [Op.operands, Call.operands]
                have := Array.mem_of_getElem? hd
                simp [this]))
              have hvs := hev s (hops s (by
                simp only [Op.operands, Call.operands]
                have := Array.mem_of_getElem? hs
                simp [this]))
              have ha0 : (args.map cev)[0]? = some (cev d) := by simp [hd]
              have ha1 : (args.map cev)[1]? = some (cev s) := by simp [hs]
              simp only [lop] at hq
              split at hq
              · rename_i base dLen dCap m hdv hm
                have hlen := lenA_sound (P := P) (w := w) hm hvs
                have run : ∀ (base' : Option Addr) (c' : Nat) (cs' : Array Value) (w' : World), cev d = .slice base' dLen c' → (Builtin.firstCells z (min m dLen) (cev s)).run P w = .ok cs' w →
                    (match base' with | some a => (storeCells a cs'.toList).run P w = .ok () w' | none => w' = w) →
                    (execOp cev { dst, op := .call { callee := .builtin .copy, args, argTypes }, type := ty, pos, after, guard }).run P w = .ok (.value (.int .i64 (min m dLen : Nat))) w' := by
                  intro base' c' cs' w' h1' h2' h3'
                  simp only [execOp, resolve, run_bind, run_pure, invoke, builtin, Builtin.copy_, ht, ha0, ha1, run_underlying hu, h1', hlen, run_sizeOf h1]
                  rw [show Nat.min m dLen = min m dLen from rfl, h2']
                  simp only
                  cases base' with
                  | none => simp only at h3' ⊢; subst h3'; rfl
                  | some a => simp only [run_bind] at h3' ⊢; rw [h3']; rfl
                rw [hdv] at hvd
                cases hf : firstA A z (min m dLen) (ev e s) with
                | none => rw [hf] at hq; cases hq
                | some cs =>
                  rw [hf] at hq
                  obtain ⟨cs', k1, k2⟩ := firstA_sound (P := P) hr hf hvs
                  simp only at hq
                  split at hq
                  · rename_i hemp
                    cases hq
                    have hnil : cs'.toList = [] := by
                      have h0 : cs = [] := by simpa using hemp
                      subst h0
                      have := k2.length
                      exact List.length_eq_zero_iff.1 this
                    have hnil2 : ∃ base' c', cev d = .slice base' dLen c' := by
                      generalize cev d = D at hvd
                      cases hvd
                      · exact ⟨_, _, rfl⟩
                      · exact ⟨_, _, rfl⟩
                      · exact ⟨_, _, rfl⟩
                      · exact ⟨_, _, rfl⟩
                    obtain ⟨base', c', hD⟩ := hnil2
                    refine ⟨ρ, _, .int .i64 (min m dLen : Nat), w, run base' c' cs' w hD k1 ?_, .inl rfl, .int _ _, Tr.refl hr⟩
                    cases base' with
                    | none => rfl
                    | some a => simp only [hnil]; rfl
                  · split at hq
                    · rename_i _ b o
                      cases hw : wrCells A b o cs with
                      | none => rw [hw] at hq; cases hq
                      | some A2 =>
                        rw [hw] at hq; cases hq
                        have hD : ∃ en c', ρ b = some en ∧ cev d = .slice (some ⟨en.cb, en.base + o, none⟩) dLen c' := by
                          generalize cev d = D at hvd
                          cases hvd with
                          | slice _ _ _ _ en he hc hl => exact ⟨en, _, he, rfl⟩
                          | sliceOpen _ _ _ q en he hq hrm => exact ⟨en, _, he, rfl⟩
                          | sliceEnd =>
                            rw [Nat.min_zero] at hf
                            have hcs := firstA_zero hf
                            subst hcs
                            exact absurd List.isEmpty_nil (by assumption)
                        obtain ⟨en, c', he, hD⟩ := hD
                        obtain ⟨w', k3, k4⟩ := wrCells_sound (P := P) hr hw he k2
                        exact ⟨ρ, _, .int .i64 (min m dLen : Nat), w', run _ c' cs' w' hD k1 k3, .inl rfl, .int _ _, k4⟩
                    · cases hq
              · cases hq
          · cases hc
        · cases hc
      | len =>
        simp only at hc
        split at hc
        · split at hc
          · cases hc; exact quiet rfl
          · cases hc; exact quiet rfl
          · cases hc; exact quiet rfl
          · split at hc
            · cases hc; exact quiet rfl
            · cases hc
          · cases hc
        · cases hc
      | min => cases hc; exact quiet rfl
      | max => cases hc; exact quiet rfl
      | _ => cases hc
  | load t a =>
    simp only [Option.bind_eq_bind] at hc
    cases hg : aggOf P t with
    | none => rw [hg] at hc; cases hc
    | some g =>
      rw [hg] at hc; simp only [Option.bind_some] at hc
      cases hs : szOf P t with
      | none => rw [hs] at hc; cases hc
      | some s => rw [hs] at hc; cases hc; cases g <;> exact quiet rfl
  | binOp op t x y yt =>
    simp only at hc
    split at hc
    · cases hc; exact quiet rfl
    · cases hc; exact quiet rfl
    · split at hc
      · cases hc
      · cases hl : flat P 20 t with
        | none => rw [hl] at hc; cases hc
        | some l => rw [hl] at hc; cases hc; exact quiet rfl
    · split at hc
      · cases hc
      · cases hl : flat P 20 t with
        | none => rw [hl] at hc; cases hc
        | some l => rw [hl] at hc; cases hc; exact quiet rfl
    · split at hc
      · cases hc
      · cases hl : flat P 20 t with
        | none => rw [hl] at hc; cases hc
        | some l => rw [hl] at hc; cases hc; exact quiet rfl
    · split at hc
      · cases hc
      · cases hl : flat P 20 t with
        | none => rw [hl] at hc; cases hc
        | some l => rw [hl] at hc; cases hc; exact quiet rfl
    · rename_i d _ _ _ _ hd
      cases hk : eqKind d with
      | none => rw [hk] at hc; cases hc
      | some k => rw [hk] at hc; cases hc; exact quiet rfl
    · rename_i d _ _ _ _ hd
      cases hk : eqKind d with
      | none => rw [hk] at hc; cases hc
      | some k => rw [hk] at hc; cases hc; exact quiet rfl
    · cases hc
  | build t parts =>
    simp only [Option.bind_eq_bind] at hc
    cases hp : partsOf P t parts.toList with
    | none => rw [hp] at hc; cases hc
    | some qs =>
      rw [hp] at hc; simp only [Option.bind_some] at hc
      cases hz : zeroOf P t with
      | none => rw [hz] at hc; cases hc
      | some z => rw [hz] at hc; cases hc; exact quiet rfl
  | makeInterface t x =>
    simp only at hc
    split at hc
    · cases hc
    · cases hc; exact quiet rfl
    · cases hc
  | makeFunc fn first captured =>
    cases fn <;> first | (cases hc; exact quiet rfl) | cases hc
  | slice t x lo hi mx =>
    simp only at hc
    split at hc
    · rename_i n elem hu
      cases hs : szOf P elem with
      | none => rw [hs] at hc; cases hc
      | some s => rw [hs] at hc; cases hc; exact quiet rfl
    · split at hc
      · cases hc
      · cases hc; exact quiet rfl
    · rename_i elem hu
      cases hs : szOf P elem with
      | none => rw [hs] at hc; cases hc
      | some s => rw [hs] at hc; cases hc; exact quiet rfl
    · cases hc
  | fieldAddr t x f =>
    simp only at hc
    split at hc
    · rename_i fields hu
      simp only [Option.bind_eq_bind] at hc
      cases hf : fields[f]? with
      | none => rw [hf] at hc; cases hc
      | some g =>
        rw [hf] at hc; simp only [Option.bind_some] at hc
        cases hs : szOf P g.type with
        | none => rw [hs] at hc; cases hc
        | some s =>
          rw [hs] at hc; simp only [Option.bind_some] at hc
          split at hc
          · cases hc
          · cases hc; exact quiet rfl
    · cases hc
  | field t x f =>
    simp only at hc
    split at hc
    · rename_i fields hu
      simp only [Option.bind_eq_bind] at hc
      cases hf : fields[f]? with
      | none => rw [hf] at hc; cases hc
      | some g =>
        rw [hf] at hc; simp only [Option.bind_some] at hc
        cases hs : szOf P g.type with
        | none => rw [hs] at hc; cases hc
        | some s =>
          rw [hs] at hc; simp only [Option.bind_some] at hc
          cases ha : aggOf P g.type with
          | none => rw [ha] at hc; cases hc
          | some a => rw [ha] at hc; cases hc; cases a <;> exact quiet rfl
    · cases hc
  | indexAddr t x i =>
    simp only at hc
    split at hc
    · rename_i n elem hu
      cases hs : szOf P elem with
      | none => rw [hs] at hc; cases hc
      | some s => rw [hs] at hc; cases hc; exact quiet rfl
    · rename_i elem hu
      cases hs : szOf P elem with
      | none => rw [hs] at hc; cases hc
      | some s => rw [hs] at hc; cases hc; exact quiet rfl
    · cases hc
  | index t x i =>
    simp only at hc
    split at hc
    · rename_i n elem hu
      simp only [Option.bind_eq_bind] at hc
      cases hs : szOf P elem with
      | none => rw [hs] at hc; cases hc
      | some s =>
        rw [hs] at hc; simp only [Option.bind_some] at hc
        cases ha : aggOf P elem with
        | none => rw [ha] at hc; cases hc
        | some a => rw [ha] at hc; cases hc; cases a <;> exact quiet rfl
    · cases hc; exact quiet rfl
    · cases hc
  | move x => cases hc; exact quiet rfl
  | assign x => cases hc; exact quiet rfl
  | pick c a b => cases hc; exact quiet rfl
  | nilCheck x => cases hc; exact quiet rfl
  | unOp op t x => cases hc; exact quiet rfl
  | extract x i => cases hc; exact quiet rfl
  | makeMap t r =>
    simp only at hc
    split at hc
    · rename_i kt et hu
      split at hc
      · rename_i huk
        cases hc
        simp only [lop] at hq
        split at hq
        · rename_i hres
          cases hq
          have hf := fr rfl
          have hle : Ren.le ρ (Ren.upd ρ A.size ⟨w.heap.size, 0, 0, 0⟩) := Ren.le_upd hf
          have T : Tr C ρ A w (Ren.upd ρ A.size ⟨w.heap.size, 0, 0, 0⟩) (A.alloc (.map .i64 [] 0)) { w with heap := w.heap.push (.map #[] 0) } :=
            Tr.alloc (e := ⟨w.heap.size, 0, 0, 0⟩) hr hf rfl rfl ⟨#[], heap_push_new, .nil⟩ rfl rfl rfl
          refine ⟨_, _, .map (some w.heap.size), _, run_v ?_, .inl rfl, .map A.size _ Ren.upd_same, T⟩
          cases r with
          | none => simp only [Instr.makeMap, Option.map_none, run_bind, run_newObj0, run_pure]
          | some r =>
            have hv := hev r (hops r (by simp [Op.operands]))
            simp only [Option.all_some] at hres
            split at hres
            · rename_i kj n hr2
              rw [hr2] at hv
              simp only [Instr.makeMap, Option.map_some, run_bind, run_underlying hu, run_newObj0, run_pure, hv.int_inv, asInt, asIntOf]
            · cases hres
        · cases hq
      · cases hc
    · cases hc
  | mapUpdate t m k x =>
    simp only at hc
    split at hc
    · rename_i kt et hu
      split at hc
      · rename_i kk huk
        cases hc
        obtain ⟨w', h1, h2, h3⟩ := mapPut_sound (P := P) hr hu huk (hev m (hops m (by simp [Op.operands]))) (hev k (hops k (by simp [Op.operands]))) (hev x (hops x (by simp [Op.operands]))) hq
        subst h2
        exact ⟨ρ, _, .tuple #[], w', run_u h1, .inr ⟨rfl, rfl⟩, undef_VR0, h3⟩
      · cases hc
    · cases hc
  | insert t m k x =>
    simp only at hc
    split at hc
    · rename_i kt et hu
      split at hc
      · rename_i kk huk
        cases hc
        obtain ⟨w', h1, h2, h3⟩ := mapPut_sound (P := P) hr hu huk (hev m (hops m (by simp [Op.operands]))) (hev k (hops k (by simp [Op.operands]))) (hev x (hops x (by simp [Op.operands]))) hq
        subst h2
        exact ⟨ρ, _, .tuple #[], w', run_u h1, .inr ⟨rfl, rfl⟩, undef_VR0, h3⟩
      · cases hc
    · cases hc
  | lookup t m k ok =>
    simp only at hc
    split at hc
    · split at hc
      · split at hc
        · split at hc
          · cases hc; exact quiet rfl
          · cases hc
        · cases hc
      · cases hc
    · cases hc
  | _ => cases hc

end
end Go.AS
