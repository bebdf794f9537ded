/- Contracts of stage 21. -/
import Derived.Test.YtiilphienfadmaaPc
import Derived.Test.YtiilphienfadmaaChecked
import Derived.KernelRfl
namespace Go.Proofs.Ytiilphienfadmaa
open Go Go.AS
set_option maxRecDepth 100000
set_option linter.unusedSimpArgs false
set_option linter.unusedVariables false
attribute [local irreducible] Trie.set Trie.get Env.rd
attribute [local simp] wD_cons' wD_nil wC_seq wC_ops wC_opsD_nil wC_cond wC_skip wC_ret wC_exit wC_block wO_cons wO_nil wantedA wV_eq lop qop ev wL wPut envOf rd_set rd_leaf eqA thenC blockC wB endF unwindA resultsA resA tupleA rdCell rdCells wrCells cl fillP lay rep binA unA get_set' AHeap.get_alloc oneCell


attribute [local simp] Nat.add_assoc

theorem yes_ok (A : AHeap) (Q : Value → AHeap → Prop) (hq : Q (.bool true) A) : wF T (.func (.func 7) #[] #[]) [] A Q := by
  refine wF_func (first := []) (captured := []) t7 ⟨rfl, by decide⟩ ?_
  dsimp only [sayYes]; simp [hq]

def strs (l : List ByteArray) : List Value := l.map .string
def u16s (l : List Nat) : List Value := l.map fun (n : Nat) => Value.int .u16 (n : Int)


theorem sliceS_to (s : ByteArray) (k : IntKind) (j : Int) (h0 : 0 ≤ j) (h : j ≤ s.size) : sliceSA (.string s) none (some (.int k j)) = some (.string ⟨⟨s.data.toList.take j.toNat⟩⟩) := by
  have hb : bnd (.int k j) s.size = some j.toNat := by
    simp only [bnd]; rw [if_pos ⟨h0, by omega⟩]
  unfold sliceSA
  delta bndsA
  simp [hb]

/-- One number more at a slice's end. -/
theorem app1 (A : AHeap) (wv : Value) (W : List Int) (x : Int) (h : SliceAt A 1 wv W.length (ints W)) (hn : W.length < 1000000) :
    ∃ a' c' A', appA (A.alloc (.cells [.int .i64 x] false 0)) 1 8 wv (.slice (some ⟨A.size, 0, none⟩) 1 1) = some (.slice a' (W.length + 1) c', A') ∧ SliceAt A' 1 (.slice a' (W.length + 1) c') (W ++ [x]).length (ints (W ++ [x])) ∧ Ext (Own wv) A A' ∧ ∀ j, Own (.slice a' (W.length + 1) c') j → Own wv j ∨ A.size ≤ j := by
  have e : Ext NoB A (A.alloc (.cells [.int .i64 x] false 0)) := Ext.alloc
  obtain ⟨v', A', k1, k2, k3, k4⟩ := (h.ext e fun _ _ q => q).append (x := .slice (some ⟨A.size, 0, none⟩) 1 1) (m := 1) (bytes := 8) (new := [.int .i64 x]) (by decide) rfl (by simp [firstA, rdCells, ENDCAP]) (by simp [oneCell]) rfl (by omega) (by decide) (by simp [isStr])
  obtain ⟨a', c', hv⟩ := k2.read.val
  subst hv
  refine ⟨a', c', A', k1, by simpa [ints] using k2, (e.mono fun _ _ q => q.elim).trans k3, fun j hj => ?_⟩
  rcases k4 j hj with q | q
  · exact .inl q
  · simp at q; exact .inr (by omega)

/-- A row of numbers at a slice's end. -/
theorem appN (A : AHeap) (gv sv : Value) (G t : List Int) (h : SliceAt A 1 gv G.length (ints G)) (hs : SliceAt A 1 sv t.length (ints t)) (hn : G.length < 1000000) (ht : t.length < 1000000) :
    ∃ a' c' A', appA A 1 8 gv sv = some (.slice a' (G.length + t.length) c', A') ∧ SliceAt A' 1 (.slice a' (G.length + t.length) c') (G ++ t).length (ints (G ++ t)) ∧ Ext (Own gv) A A' ∧ ∀ j, Own (.slice a' (G.length + t.length) c') j → Own gv j ∨ A.size ≤ j := by
  have hf := hs.read.firstA (Nat.le_refl _)
  rw [List.take_of_length_le (by rw [hs.read.length]; omega)] at hf
  obtain ⟨v', A', k1, k2, k3, k4⟩ := h.append (x := sv) (m := t.length) (bytes := 8) (new := ints t) (by decide) hs.read.lenA hf (by simp [ints, oneCell]) (by simp [ints]) (by omega) (by decide) (by obtain ⟨a, c, rfl⟩ := hs.read.val; simp [isStr])
  obtain ⟨a', c', hv⟩ := k2.read.val
  subst hv
  exact ⟨a', c', A', k1, by simpa [ints] using k2, k3, k4⟩

/-! ## What is known of the pieces -/
structure OP (ps : List Pc) (W G : List Int) (en un : Int) (i : Nat) : Prop where
  sum : W = G ++ ps.map (·.tag)
  cnt : W.length ≤ i
  lo : 0 ≤ un
  le : un ≤ en
  hi : en ≤ 50 * i
  srt : ps.Pairwise (fun p q => p.fin < q.fin)
  all : ∀ p ∈ ps, un < p.fin ∧ p.fin ≤ en

theorem taken_take (off : Int) (ps : List Pc) : taken off ps = ps.take (taken off ps).length :=
  List.prefix_iff_eq_take.1 (List.takeWhile_prefix _)

theorem taken_rest (off : Int) (ps : List Pc) (h : ps.Pairwise (fun p q => p.fin < q.fin)) : ∀ p ∈ ps.drop (taken off ps).length, off < p.fin := by
  induction ps with
  | nil => intro p hp; simp at hp
  | cons x ps ih =>
    obtain ⟨h1, h2⟩ := List.pairwise_cons.1 h
    by_cases hx : x.fin ≤ off
    · have e : taken off (x :: ps) = x :: taken off ps := by simp [taken, hx]
      rw [e]; exact ih h2
    · have e : taken off (x :: ps) = [] := by simp [taken, hx]
      rw [e]
      intro p hp
      rcases List.mem_cons.1 hp with q | q
      · subst q; omega
      · have := h1 p q; omega

theorem taken_all (off : Int) (ps : List Pc) (h : ∀ p ∈ ps, p.fin ≤ off) : taken off ps = ps := by
  induction ps with
  | nil => rfl
  | cons x ps ih =>
    have hx := h x (by simp)
    have e : taken off (x :: ps) = x :: taken off ps := by simp [taken, hx]
    rw [e, ih fun p hp => h p (by simp [hp])]

theorem OP.ack {ps : List Pc} {W G : List Int} {en un off : Int} {i : Nat} (h : OP ps W G en un i) (h1 : un < off) (h2 : off ≤ en) : OP (ps.drop (taken off ps).length) W (G ++ (taken off ps).map (·.tag)) en off i where
  sum := by
    rw [h.sum, List.append_assoc]
    congr 1
    conv => rhs; lhs; rw [taken_take off ps]
    rw [← List.map_append, List.take_append_drop]
  cnt := h.cnt
  lo := by have := h.lo; omega
  le := h2
  hi := h.hi
  srt := h.srt.sublist (List.drop_sublist _ _)
  all := fun p hp => ⟨taken_rest off ps h.srt p hp, (h.all p (List.mem_of_mem_drop hp)).2⟩

theorem OP.push {ps : List Pc} {W G : List Int} {en un : Int} {i : Nat} (h : OP ps W G en un i) (tag : Int) (x : ByteArray) (hx : 0 < x.size) (hx2 : x.size ≤ 50) (hi : i < 1000) :
    (⟨en, tag, x⟩ : Pc).fin = en + x.size ∧ OP (ps ++ [⟨en, tag, x⟩]) (W ++ [tag]) G (en + x.size) un (i + 1) := by
  have lo := h.lo; have le := h.le; have hh := h.hi
  have e : (⟨en, tag, x⟩ : Pc).fin = en + x.size := IntWalk.i64_in _ (by simp only; omega)
  refine ⟨e, ?_, ?_, lo, by omega, by omega, ?_, ?_⟩
  · rw [h.sum]; simp
  · have := h.cnt; simp; omega
  · rw [List.pairwise_append]
    refine ⟨h.srt, by simp, fun a ha b hb => ?_⟩
    rw [List.mem_singleton] at hb
    subst hb
    rw [e]
    have := (h.all a ha).2; omega
  · intro p hp
    rcases List.mem_append.1 hp with q | q
    · have := h.all p q; omega
    · rw [List.mem_singleton] at q; subst q; rw [e]; omega

theorem OP.none {ps : List Pc} {W G : List Int} {en un : Int} {i : Nat} (h : OP ps W G en un i) : OP ps W G en un (i + 1) :=
  ⟨h.sum, by have := h.cnt; omega, h.lo, h.le, by have := h.hi; omega, h.srt, h.all⟩

theorem OP.fin {ps : List Pc} {W G : List Int} {en un : Int} {i : Nat} (h : OP ps W G en un i) (hu : ¬ un < en) : ps = [] := by
  cases ps with
  | nil => rfl
  | cons p ps => have := h.all p (by simp); omega

theorem OP.small {ps : List Pc} {W G : List Int} {en un : Int} {i : Nat} (h : OP ps W G en un i) (hi : i < 1000) : -9223372036854775808 ≤ en + 2 ∧ en + 2 ≤ 9223372036854775807 := by
  have := h.lo; have := h.le; have := h.hi; omega
theorem OP.ne2 {ps : List Pc} {W G : List Int} {en un : Int} {i : Nat} (h : OP ps W G en un i) : ¬ en + 2 = 0 := by
  have := h.lo; have := h.le; omega

theorem OP.lens {ps : List Pc} {W G : List Int} {en un : Int} {i : Nat} (h : OP ps W G en un i) : G.length + ps.length = W.length ∧ W.length ≤ i := by
  have := congrArg List.length h.sum
  simp only [List.length_append, List.length_map] at this
  exact ⟨this.symm, h.cnt⟩

/-! ## What is known of the memory -/
structure OM (A0 A : AHeap) (b : Nat) (dv wv gv : Value) (ps : List Pc) (W G : List Int) (en un : Int) : Prop where
  eb : A0.size ≤ b
  hb : A.get b = some (.cells [dv, .int .i64 en, .int .i64 un] false 0)
  hd : SliceAt A 3 dv ps.length (pcells ps)
  hw : SliceAt A 1 wv W.length (ints W)
  hg : SliceAt A 1 gv G.length (ints G)
  ext : Ext NoB A0 A
  od : ∀ j, Own dv j → A0.size ≤ j ∧ j ≠ b ∧ ¬ Own wv j ∧ ¬ Own gv j
  ow : ∀ j, Own wv j → A0.size ≤ j ∧ j ≠ b ∧ ¬ Own gv j
  og : ∀ j, Own gv j → A0.size ≤ j ∧ j ≠ b

theorem OM.push {A0 A A' : AHeap} {b : Nat} {dv wv gv dv' : Value} {ps ps' : List Pc} {W G : List Int} {en un en' un' : Int} (h : OM A0 A b dv wv gv ps W G en un)
    (h1 : A'.get b = some (.cells [dv', .int .i64 en', .int .i64 un'] false 0)) (h2 : SliceAt A' 3 dv' ps'.length (pcells ps')) (h3 : ¬ Own dv' b) (h4 : Ext (fun j => j = b ∨ Own dv j) A A') (h5 : ∀ j, Own dv' j → Own dv j ∨ A.size ≤ j) :
    OM A0 A' b dv' wv gv ps' W G en' un' where
  eb := h.eb
  hb := h1
  hd := h2
  hw := h.hw.ext h4 fun j hj q => by
    rcases q with q | q
    · exact (h.ow j hj).2.1 q
    · exact (h.od j q).2.2.1 hj
  hg := h.hg.ext h4 fun j hj q => by
    rcases q with q | q
    · exact (h.og j hj).2 q
    · exact (h.od j q).2.2.2 hj
  ext := h.ext.trans2 h4 fun j hj q => by
    have := h.eb
    rcases q with q | q
    · omega
    · have := (h.od j q).1; omega
  od := fun j hj => by
    have := h.ext.size
    rcases h5 j hj with q | q
    · exact h.od j q
    · exact ⟨by omega, fun e => h3 (e ▸ hj), fun e => by have := h.hw.own_lt e; omega, fun e => by have := h.hg.own_lt e; omega⟩
  ow := h.ow
  og := h.og

theorem OM.want {A0 A A' : AHeap} {b : Nat} {dv wv gv wv' : Value} {ps : List Pc} {W G W' : List Int} {en un : Int} (h : OM A0 A b dv wv gv ps W G en un)
    (h2 : SliceAt A' 1 wv' W'.length (ints W')) (h4 : Ext (Own wv) A A') (h5 : ∀ j, Own wv' j → Own wv j ∨ A.size ≤ j) : OM A0 A' b dv wv' gv ps W' G en un where
  eb := h.eb
  hb := h4.get h.hb fun q => (h.ow b q).2.1 rfl
  hd := h.hd.ext h4 fun j hj q => (h.od j hj).2.2.1 q
  hw := h2
  hg := h.hg.ext h4 fun j hj q => (h.ow j q).2.2 hj
  ext := h.ext.trans2 h4 fun j hj q => by have := (h.ow j q).1; omega
  od := fun j hj => ⟨(h.od j hj).1, (h.od j hj).2.1, fun e => by
    rcases h5 j e with q | q
    · exact (h.od j hj).2.2.1 q
    · have := h.hd.own_lt hj; omega, (h.od j hj).2.2.2⟩
  ow := fun j hj => by
    have := h.ext.size
    rcases h5 j hj with q | q
    · exact h.ow j q
    · exact ⟨by omega, fun e => by have := AHeap.get_lt h.hb; omega, fun e => by have := h.hg.own_lt e; omega⟩
  og := h.og

theorem OM.got {A0 A A' : AHeap} {b : Nat} {dv wv gv gv' : Value} {ps : List Pc} {W G G' : List Int} {en un : Int} (h : OM A0 A b dv wv gv ps W G en un)
    (h2 : SliceAt A' 1 gv' G'.length (ints G')) (h4 : Ext (Own gv) A A') (h5 : ∀ j, Own gv' j → Own gv j ∨ A.size ≤ j) : OM A0 A' b dv wv gv' ps W G' en un where
  eb := h.eb
  hb := h4.get h.hb fun q => (h.og b q).2 rfl
  hd := h.hd.ext h4 fun j hj q => (h.od j hj).2.2.2 q
  hw := h.hw.ext h4 fun j hj q => (h.ow j hj).2.2 q
  hg := h2
  ext := h.ext.trans2 h4 fun j hj q => by have := (h.og j q).1; omega
  od := fun j hj => ⟨(h.od j hj).1, (h.od j hj).2.1, (h.od j hj).2.2.1, fun e => by
    rcases h5 j e with q | q
    · exact (h.od j hj).2.2.2 q
    · have := h.hd.own_lt hj; omega⟩
  ow := fun j hj => ⟨(h.ow j hj).1, (h.ow j hj).2.1, fun e => by
    rcases h5 j e with q | q
    · exact (h.ow j hj).2.2 q
    · have := h.hw.own_lt hj; omega⟩
  og := fun j hj => by
    have := h.ext.size
    rcases h5 j hj with q | q
    · exact h.og j q
    · exact ⟨by omega, fun e => by have := AHeap.get_lt h.hb; omega⟩

theorem OM.same {A0 A A' : AHeap} {b : Nat} {dv wv gv : Value} {ps : List Pc} {W G : List Int} {en un : Int} (h : OM A0 A b dv wv gv ps W G en un) (e : Ext NoB A A') : OM A0 A' b dv wv gv ps W G en un :=
  ⟨h.eb, e.get h.hb fun q => q, h.hd.ext e fun _ _ q => q, h.hw.ext e fun _ _ q => q, h.hg.ext e fun _ _ q => q, h.ext.trans e, h.od, h.ow, h.og⟩

theorem pcells_app (ps : List Pc) (p : Pc) : pcells (ps ++ [p]) = pcells ps ++ [.int .i64 p.at_, .int .i64 p.tag, .string p.text] := by simp [pcells]

end Go.Proofs.Ytiilphienfadmaa
