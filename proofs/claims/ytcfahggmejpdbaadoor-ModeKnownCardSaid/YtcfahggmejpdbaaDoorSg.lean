/- Check, Last, what an error tells. -/
import Derived.Test.YtcfahggmejpdbaaDoorSf
import Derived.KernelRfl
namespace Go.Proofs.YtcfahggmejpdbaaDoor
open Go Go.AS
set_option maxRecDepth 100000
set_option linter.unusedSimpArgs false
set_option linter.unusedVariables false
attribute [local irreducible] Trie.set Trie.get Env.rd
attribute [local simp] Nat.add_assoc wD_cons'' wD_nil' wC_seq wC_ops wC_opsD_nil wC_cond wC_skip wC_ret wC_exit wC_block wO_cons' wO_nil wantedA wV_eq lop qop ev wL_some wL_none wPut envOf rd_set rd_leaf eqA thenC blockC wB_true wB_false endF unwindA resultsA resA tupleA rdCell rdCells wrCells cl fillP lay rep binA unA get_set' AHeap.get_alloc oneCell beqd bned idxA

attribute [local simp] MS.len MS.one MS.take MS.at0 MS.at1 MS.at2 MS.at7 MS.putEn MS.putMd MS.putSo MS.putU0 Tn.len Tn.one Tn.take Tn.at0 Tn.at1 Tn.at2
/-- errors.errorType is what it is. -/
def EH (A : AHeap) : Prop := errT 101 41 (A.get 0) = true
theorem EH.lt {A : AHeap} (h : EH A) : 0 < A.size := by
  unfold EH at h
  cases hg : A.get 0 with
  | none => rw [hg] at h; cases h
  | some x => exact AHeap.get_lt hg
theorem EH.ext {S : Nat → Prop} {A A' : AHeap} (h : EH A) (e : Ext S A A') (hs : ¬ S 0) : EH A' := by
  unfold EH
  rw [e.keep 0 h.lt hs]; exact h
theorem EH.extN {A A' : AHeap} (h : EH A) (e : Ext NoB A A') : EH A' := h.ext e id

theorem asnil_ok (A : AHeap) (y : Value) (Q : Value → AHeap → Prop) (hq : Q (.bool false) A) : wF T (.func (.func 28) #[] #[]) [.nilIface, y] A Q := by
  refine wF_func (first := []) (captured := []) t28 ⟨rfl, by decide⟩ ?_
  dsimp only [specFn]
  simp [specA]
  exact hq
theorem asbrk_ok (A : AHeap) (b q : Nat) (old : Value) (Q : Value → AHeap → Prop) (hE : EH A) (hg : A.get q = some (.cells [old] false 0)) (hq : Q (.bool true) (A.set q (.cells [.pointer (some ⟨b, 0, none⟩)] false 0))) :
    wF T (.func (.func 28) #[] #[]) [.iface 70 (.agg ⟨[.pointer (some ⟨b, 0, none⟩)]⟩), .iface 72 (.pointer (some ⟨q, 0, none⟩))] A Q := by
  refine wF_func (first := []) (captured := []) t28 ⟨rfl, by decide⟩ ?_
  dsimp only [specFn]
  unfold EH at hE
  simp [specA, hE, hg]
  exact hq
theorem asfault_ok (A : AHeap) (b q : Nat) (old : Value) (Q : Value → AHeap → Prop) (hE : EH A) (hg : A.get q = some (.cells [old] false 0)) (hq : Q (.bool true) (A.set q (.cells [.pointer (some ⟨b, 0, none⟩)] false 0))) :
    wF T (.func (.func 28) #[] #[]) [.iface 70 (.agg ⟨[.pointer (some ⟨b, 0, none⟩)]⟩), .iface 80 (.pointer (some ⟨q, 0, none⟩))] A Q := by
  refine wF_func (first := []) (captured := []) t28 ⟨rfl, by decide⟩ ?_
  dsimp only [specFn]
  unfold EH at hE
  simp [specA, hE, hg]
  exact hq

theorem check_ok (A : AHeap) (e : Int) (v : Value) (l : List Tn) (Q : Value → AHeap → Prop) (hl : l.length < 1000000) (hv : ReadAt A 3 v l.length (tcells l))
    (hq : ∀ A' ev, Ext NoB A A' → ErrV A' ev (walkR e l).2 → Q ev A') : wF T (.func (.func 14) #[] #[]) [.int .i64 e, v] A Q := by
  refine wF_func (first := []) (captured := []) t14 ⟨rfl, by decide⟩ ?_
  dsimp only [c14]
  simp
  refine walk_ok A e v l _ hl hv fun A1 ev e1 h1 => ?_
  simp [lay_whole]
  have ex : Ext NoB A1 ((A1.alloc (.cells [.int .i64 0, .int .i64 0, .bool false, .bool false, .bool false, .bool false, .bool false, .bool false, .bool false, .bool false, .bool false, .bool false, .bool false, .bool false, .bool false] false 0)).set A1.size (.cells (walkR e l).1.cells false 0)) := ⟨by simp, fun b hb _ => by simp [show b ≠ A1.size by omega]⟩
  exact hq _ _ (e1.trans ex) (h1.extN ex)

theorem last_ok (A : AHeap) (e : Int) (v : Value) (l : List Tn) (Q : Value → AHeap → Prop) (hE : EH A) (hl : l.length < 1000000) (hv : ReadAt A 3 v l.length (tcells l))
    (hq : ∀ A', Ext NoB A A' → Q (.tuple ⟨[.agg ⟨(walkR e l).1.cells⟩, .bool (walkR e l).2.isNone]⟩) A') : wF T (.func (.func 11) #[] #[]) [.int .i64 e, v] A Q := by
  refine wF_func (first := []) (captured := []) t11 ⟨rfl, by decide⟩ ?_
  dsimp only [c11]
  simp
  generalize hA1 : A.alloc _ = A1
  have e1 : Ext NoB A A1 := by rw [← hA1]; exact Ext.alloc
  have g1 : ∃ z, z.length = 15 ∧ A1.get A.size = some (.cells z false 0) := by rw [← hA1]; exact ⟨[.int .i64 0, .int .i64 0, .bool false, .bool false, .bool false, .bool false, .bool false, .bool false, .bool false, .bool false, .bool false, .bool false, .bool false, .bool false, .bool false], rfl, by simp⟩
  obtain ⟨z, z15, g1⟩ := g1
  clear hA1
  refine walk_ok A1 e v l _ hl (hv.ext e1 fun _ _ => id) fun A2 ev e2 h2 => ?_
  have g2 := e2.get g1 id
  have l2 := AHeap.get_lt g2
  simp [lay_whole]
  refine wC_opsD_chk ?_
  simp
  generalize hA3 : AHeap.alloc (AHeap.set _ _ _) _ = A3
  have e3 : Ext NoB A2 A3 := by rw [← hA3]; exact ⟨by simp, fun b hb _ => by simp [show b ≠ A2.size by omega, show b ≠ A2.size + 1 by omega]⟩
  have g6 : A3.get A2.size = some (.cells (walkR e l).1.cells false 0) := by rw [← hA3]; simp
  have g8 : A3.get (A2.size + 1) = some (.cells [.pointer none] false 0) := by rw [← hA3]; simp
  clear hA3
  have g4 := e3.get g2 id
  have h3 := h2.extN e3
  have l4 := AHeap.get_lt g4
  have e13 := (e1.trans e2).trans e3
  have fin : ∀ A4, Ext (fun b => b = A2.size + 1 ∨ b = A.size) A3 A4 → Ext NoB A A4 := fun A4 e4 => e13.trans2 e4 fun b hb q => by have := e1.size; have := e2.size; omega
  have zz := e2.size
  cases hw : (walkR e l).2 with
  | none =>
    rw [hw] at h3 hq
    have h3' : ev = .nilIface := h3
    subst h3'
    refine asnil_ok A3 _ _ ?_
    simp [g6, g4, l4, z15, lay_whole]
    refine wE_intro ?_ ?_
    · simp only [List.all_cons, List.all_nil, chkOk, List.nil_append, List.cons_append, List.getElem?_cons_succ, List.getElem?_cons_zero]
      simp [Bx, g6, vbeq, vb_self]
    simp [g4, l4]
    have := hq (A3.set A.size (.cells (walkR e l).1.cells false 0)) (fin _ (Ext.set (.inr rfl)))
    simpa using this
  | some f =>
    rw [hw] at h3 hq
    obtain ⟨b, hev, hb⟩ := h3
    subst hev
    refine asbrk_ok A3 b _ _ _ (hE.extN e13) g8 ?_
    have l8 := AHeap.get_lt g8
    simp [g6, g4, l4, z15, lay_whole, l8, show A.size ≠ A2.size + 1 by omega, show A2.size + 1 ≠ A.size by omega]
    refine wE_intro ?_ ?_
    · simp only [List.all_cons, List.all_nil, chkOk, List.nil_append, List.cons_append, List.getElem?_cons_succ, List.getElem?_cons_zero]
      simp [Bx, g6, vbeq, vb_self]
    simp [g4, l4]
    have := hq ((A3.set (A2.size + 1) (.cells [.pointer (some ⟨b, 0, none⟩)] false 0)).set A.size (.cells (walkR e l).1.cells false 0)) (fin _ ((Ext.set (.inl rfl)).trans (Ext.set (.inr rfl))))
    simpa using this

/-- A fault. -/
def fcells (f : Option (Int × Int)) : List Value := match f with | none => [.int .i64 0, .int .i64 0] | some f => [.int .i64 f.1, .int .i64 f.2]
theorem told_ok (A : AHeap) (ev : Value) (f : Option (Int × Int)) (Q : Value → AHeap → Prop) (hE : EH A) (h : ErrV A ev f) (hq : ∀ A', Ext NoB A A' → Q (.agg ⟨fcells f⟩) A') : wF T (.func (.func 19) #[] #[]) [ev] A Q := by
  refine wF_func (first := []) (captured := []) t19 ⟨rfl, by decide⟩ ?_
  dsimp only [c19]
  simp
  cases f with
  | none =>
    have h3' : ev = .nilIface := h
    subst h3'
    refine asnil_ok _ _ _ ?_
    simp [undef]
    refine asnil_ok _ _ _ ?_
    simp
    have ex : ∀ x y z u, Ext NoB A ((((A.alloc x).alloc y).alloc z).set A.size u) := fun x y z u => ⟨by simp, fun b hb _ => by simp [show b ≠ A.size by omega, show b ≠ A.size + 1 by omega, show b ≠ A.size + 2 by omega]⟩
    exact hq _ (ex _ _ _ _)
  | some f =>
    obtain ⟨b, hev, hb⟩ := h
    subst hev
    have lb := AHeap.get_lt hb
    have ex : ∀ x y z u, Ext NoB A ((((A.alloc x).alloc y).set (A.size + 1) z).set A.size u) := fun x y z u => ⟨by simp, fun b hb _ => by simp [show b ≠ A.size by omega, show b ≠ A.size + 1 by omega]⟩
    refine asfault_ok _ b _ (.pointer none) _ ((hE.extN Ext.alloc).extN Ext.alloc) (by simp) ?_
    simp [hb, show b ≠ A.size + 1 by omega, show b ≠ A.size by omega]
    exact hq _ (ex _ _ _ _)
end Go.Proofs.YtcfahggmejpdbaaDoor
