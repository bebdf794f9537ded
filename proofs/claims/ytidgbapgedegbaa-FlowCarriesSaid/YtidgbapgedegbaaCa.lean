/- FlowCarries: a line in memory. -/
import Derived.Test.YtidgbapgedegbaaGe
import Derived.Test.YtidgbapgedegbaaKi
import Derived.Test.YtidgbapgedegbaaEa
import Derived.KernelRfl
namespace Go.Proofs.Ytidgbapgedegbaa.Fw
open Go Go.AS Ou
set_option maxRecDepth 100000
set_option linter.unusedSimpArgs false
set_option linter.unusedVariables false
attribute [local irreducible] Trie.set Trie.get Env.rd
attribute [local simp] Nat.add_assoc wD_cons'' wD_nil' wC_seq wC_ops wC_opsD_nil wC_cond wC_skip wC_ret wC_exit wC_block wO_cons' wO_nil wantedA wV_eq lop qop ev wL_some wL_none wPut envOf rd_set rd_leaf eqA thenC blockC wB_true wB_false endF unwindA resultsA resA tupleA rdCell rdCells wrCells cl fillP lay rep binA unA get_set' AHeap.get_alloc oneCell beqd bned idxA

structure Ln where
  fa : Fl
  fb : Fl
  ps : List Pc
  un : Int
  tA : IS
  tB : IS
  there : List Sg
  back : List Sg
  pu : List UInt8
  to : List UInt8
  tg : Nat
def upto (n : Nat) : List Int := (List.range n).map fun i : Nat => (i : Int)
theorem upto_len (n : Nat) : (upto n).length = n := by simp [upto]
/-- Whose each block is: 0 none of ours; 1, 2 the flows'; 3, 4 the segments'; 5 the tags'; 6 the line's own. -/
structure Col (C : Nat → Nat) (p z : Nat) (Sa Sb : Nat → Prop) (tv bv gv : Value) : Prop where
  p : C p = 6
  a : ∀ j, Sa j → C j = 1
  b : ∀ j, Sb j → C j = 2
  t : ∀ j, Own tv j → C j = 3
  k : ∀ j, Own bv j → C j = 4
  g : ∀ j, Own gv j → C j = 5
  z : ∀ j, j < z → C j = 0
structure Pt (A : AHeap) (p pa pb z : Nat) (L : Ln) (tv bv gv : Value) (Sa Sb : Nat → Prop) (C : Nat → Nat) : Prop where
  lt : p < A.size
  zz : z ≤ A.size
  a : FlowAt A pa L.fa L.ps L.pu.length L.un (some L.tA) Sa
  b : FlowAt A pb L.fb [] 0 0 (some L.tB) Sb
  t : SliceAt A 12 tv L.there.length (encs sgc L.there)
  k : SliceAt A 12 bv L.back.length (encs sgc L.back)
  g : SliceAt A 1 gv L.tg (ints (upto L.tg))
  c : Col C p z Sa Sb tv bv gv

section
variable {A A' : AHeap} {p pa pb z : Nat} {L : Ln} {tv bv gv : Value} {Sa Sb : Nat → Prop} {C : Nat → Nat}
theorem Pt.ext {U : Nat → Prop} (h : Pt A p pa pb z L tv bv gv Sa Sb C) (e : Ext U A A') (hu : ∀ j, U j → C j = 0 ∨ C j = 6) : Pt A' p pa pb z L tv bv gv Sa Sb C := by
  have hs := e.size
  refine ⟨Nat.lt_of_lt_of_le h.lt hs, Nat.le_trans h.zz hs, h.a.ext e fun j hj q => ?_, h.b.ext e fun j hj q => ?_, h.t.ext e fun j hj q => ?_, h.k.ext e fun j hj q => ?_, h.g.ext e fun j hj q => ?_, h.c⟩
  · have := h.c.a j hj; have := hu j q; omega
  · have := h.c.b j hj; have := hu j q; omega
  · have := h.c.t j hj; have := hu j q; omega
  · have := h.c.k j hj; have := hu j q; omega
  · have := h.c.g j hj; have := hu j q; omega
theorem Pt.extN (h : Pt A p pa pb z L tv bv gv Sa Sb C) (e : Ext NoB A A') : Pt A' p pa pb z L tv bv gv Sa Sb C := h.ext e fun _ q => q.elim
theorem Pt.extP (h : Pt A p pa pb z L tv bv gv Sa Sb C) (e : Ext (fun j => j = p) A A') : Pt A' p pa pb z L tv bv gv Sa Sb C := h.ext e fun j q => .inr (by rw [q]; exact h.c.p)
theorem Pt.setB {fb' : Fl} {tB' : IS} (h : Pt A p pa pb z L tv bv gv Sa Sb C) (e : Ext Sb A A') (hb : FlowAt A' pb fb' [] 0 0 (some tB') Sb) : Pt A' p pa pb z { L with fb := fb', tB := tB' } tv bv gv Sa Sb C := by
  have hs := e.size
  refine ⟨Nat.lt_of_lt_of_le h.lt hs, Nat.le_trans h.zz hs, h.a.ext e fun j hj q => ?_, hb, h.t.ext e fun j hj q => ?_, h.k.ext e fun j hj q => ?_, h.g.ext e fun j hj q => ?_, h.c⟩
  · have := h.c.a j hj; have := h.c.b j q; omega
  · have := h.c.t j hj; have := h.c.b j q; omega
  · have := h.c.k j hj; have := h.c.b j q; omega
  · have := h.c.g j hj; have := h.c.b j q; omega
theorem col_new {c : Nat} (h : Pt A p pa pb z L tv bv gv Sa Sb C) : ∃ C' : Nat → Nat, (∀ j, j < A.size → C' j = C j) ∧ ∀ j, A.size ≤ j → C' j = c :=
  ⟨fun j => if j < A.size then C j else c, fun j hj => if_pos hj, fun j hj => if_neg (by omega)⟩
theorem Pt.setA {fa' : Fl} {ps' : List Pc} {pu' : List UInt8} {un' : Int} {tA' : IS} {Sa' : Nat → Prop} (h : Pt A p pa pb z L tv bv gv Sa Sb C) (e : Ext Sa A A') (ha : FlowAt A' pa fa' ps' pu'.length un' (some tA') Sa') (hS : ∀ j, Sa' j → Sa j ∨ A.size ≤ j) :
    ∃ C', Pt A' p pa pb z { L with fa := fa', ps := ps', pu := pu', un := un', tA := tA' } tv bv gv Sa' Sb C' := by
  have hs := e.size
  obtain ⟨C', c1, c2⟩ := col_new (c := 1) h
  refine ⟨C', Nat.lt_of_lt_of_le h.lt hs, Nat.le_trans h.zz hs, ha, h.b.ext e fun j hj q => ?_, h.t.ext e fun j hj q => ?_, h.k.ext e fun j hj q => ?_, h.g.ext e fun j hj q => ?_, ⟨?_, fun j hj => ?_, fun j hj => ?_, fun j hj => ?_, fun j hj => ?_, fun j hj => ?_, fun j hj => ?_⟩⟩
  · have := h.c.b j hj; have := h.c.a j q; omega
  · have := h.c.t j hj; have := h.c.a j q; omega
  · have := h.c.k j hj; have := h.c.a j q; omega
  · have := h.c.g j hj; have := h.c.a j q; omega
  · rw [c1 _ h.lt]; exact h.c.p
  · rcases hS j hj with q | q
    · rw [c1 _ (h.a.own q)]; exact h.c.a j q
    · exact c2 j q
  · rw [c1 _ (h.b.own hj)]; exact h.c.b j hj
  · rw [c1 _ (h.t.own_lt hj)]; exact h.c.t j hj
  · rw [c1 _ (h.k.own_lt hj)]; exact h.c.k j hj
  · rw [c1 _ (h.g.own_lt hj)]; exact h.c.g j hj
  · rw [c1 _ (by have := h.zz; omega)]; exact h.c.z j hj
theorem Pt.setT {there' : List Sg} {tv' : Value} (h : Pt A p pa pb z L tv bv gv Sa Sb C) (e : Ext (Own tv) A A') (ht : SliceAt A' 12 tv' there'.length (encs sgc there')) (hS : ∀ j, Own tv' j → Own tv j ∨ A.size ≤ j) :
    ∃ C', Pt A' p pa pb z { L with there := there' } tv' bv gv Sa Sb C' := by
  have hs := e.size
  obtain ⟨C', c1, c2⟩ := col_new (c := 3) h
  refine ⟨C', Nat.lt_of_lt_of_le h.lt hs, Nat.le_trans h.zz hs, h.a.ext e fun j hj q => ?_, h.b.ext e fun j hj q => ?_, ht, h.k.ext e fun j hj q => ?_, h.g.ext e fun j hj q => ?_, ⟨?_, fun j hj => ?_, fun j hj => ?_, fun j hj => ?_, fun j hj => ?_, fun j hj => ?_, fun j hj => ?_⟩⟩
  · have := h.c.a j hj; have := h.c.t j q; omega
  · have := h.c.b j hj; have := h.c.t j q; omega
  · have := h.c.k j hj; have := h.c.t j q; omega
  · have := h.c.g j hj; have := h.c.t j q; omega
  · rw [c1 _ h.lt]; exact h.c.p
  · rw [c1 _ (h.a.own hj)]; exact h.c.a j hj
  · rw [c1 _ (h.b.own hj)]; exact h.c.b j hj
  · rcases hS j hj with q | q
    · rw [c1 _ (h.t.own_lt q)]; exact h.c.t j q
    · exact c2 j q
  · rw [c1 _ (h.k.own_lt hj)]; exact h.c.k j hj
  · rw [c1 _ (h.g.own_lt hj)]; exact h.c.g j hj
  · rw [c1 _ (by have := h.zz; omega)]; exact h.c.z j hj
theorem Pt.setK {back' : List Sg} {bv' : Value} (h : Pt A p pa pb z L tv bv gv Sa Sb C) (e : Ext (Own bv) A A') (ht : SliceAt A' 12 bv' back'.length (encs sgc back')) (hS : ∀ j, Own bv' j → Own bv j ∨ A.size ≤ j) :
    ∃ C', Pt A' p pa pb z { L with back := back' } tv bv' gv Sa Sb C' := by
  have hs := e.size
  obtain ⟨C', c1, c2⟩ := col_new (c := 4) h
  refine ⟨C', Nat.lt_of_lt_of_le h.lt hs, Nat.le_trans h.zz hs, h.a.ext e fun j hj q => ?_, h.b.ext e fun j hj q => ?_, h.t.ext e fun j hj q => ?_, ht, h.g.ext e fun j hj q => ?_, ⟨?_, fun j hj => ?_, fun j hj => ?_, fun j hj => ?_, fun j hj => ?_, fun j hj => ?_, fun j hj => ?_⟩⟩
  · have := h.c.a j hj; have := h.c.k j q; omega
  · have := h.c.b j hj; have := h.c.k j q; omega
  · have := h.c.t j hj; have := h.c.k j q; omega
  · have := h.c.g j hj; have := h.c.k j q; omega
  · rw [c1 _ h.lt]; exact h.c.p
  · rw [c1 _ (h.a.own hj)]; exact h.c.a j hj
  · rw [c1 _ (h.b.own hj)]; exact h.c.b j hj
  · rw [c1 _ (h.t.own_lt hj)]; exact h.c.t j hj
  · rcases hS j hj with q | q
    · rw [c1 _ (h.k.own_lt q)]; exact h.c.k j q
    · exact c2 j q
  · rw [c1 _ (h.g.own_lt hj)]; exact h.c.g j hj
  · rw [c1 _ (by have := h.zz; omega)]; exact h.c.z j hj
theorem Pt.setG {tg' : Nat} {gv' : Value} (h : Pt A p pa pb z L tv bv gv Sa Sb C) (e : Ext (Own gv) A A') (ht : SliceAt A' 1 gv' tg' (ints (upto tg'))) (hS : ∀ j, Own gv' j → Own gv j ∨ A.size ≤ j) :
    ∃ C', Pt A' p pa pb z { L with tg := tg' } tv bv gv' Sa Sb C' := by
  have hs := e.size
  obtain ⟨C', c1, c2⟩ := col_new (c := 5) h
  refine ⟨C', Nat.lt_of_lt_of_le h.lt hs, Nat.le_trans h.zz hs, h.a.ext e fun j hj q => ?_, h.b.ext e fun j hj q => ?_, h.t.ext e fun j hj q => ?_, h.k.ext e fun j hj q => ?_, ht, ⟨?_, fun j hj => ?_, fun j hj => ?_, fun j hj => ?_, fun j hj => ?_, fun j hj => ?_, fun j hj => ?_⟩⟩
  · have := h.c.a j hj; have := h.c.g j q; omega
  · have := h.c.b j hj; have := h.c.g j q; omega
  · have := h.c.t j hj; have := h.c.g j q; omega
  · have := h.c.k j hj; have := h.c.g j q; omega
  · rw [c1 _ h.lt]; exact h.c.p
  · rw [c1 _ (h.a.own hj)]; exact h.c.a j hj
  · rw [c1 _ (h.b.own hj)]; exact h.c.b j hj
  · rw [c1 _ (h.t.own_lt hj)]; exact h.c.t j hj
  · rw [c1 _ (h.k.own_lt hj)]; exact h.c.k j hj
  · rcases hS j hj with q | q
    · rw [c1 _ (h.g.own_lt q)]; exact h.c.g j q
    · exact c2 j q
  · rw [c1 _ (by have := h.zz; omega)]; exact h.c.z j hj
end
def lnc (pa pb : Nat) (L : Ln) (many : Int) (tv bv gv : Value) : List Value := [.pointer (some ⟨pa, 0, none⟩), .pointer (some ⟨pb, 0, none⟩), tv, bv, .string ⟨⟨L.pu⟩⟩, .string ⟨⟨L.to⟩⟩, gv, .int .i64 many]
/-- A line in memory, its blocks from z on. -/
def LnAt (A : AHeap) (p pa pb z : Nat) (L : Ln) (many : Int) : Prop := ∃ tv bv gv Sa Sb C, A.get p = some (.cells (lnc pa pb L many tv bv gv) false 0) ∧ Pt A p pa pb z L tv bv gv Sa Sb C
end Go.Proofs.Ytidgbapgedegbaa.Fw
