/- A flow, as one thing. -/
import Derived.Test.YtidgbapgedegbaaFd
import Derived.KernelRfl
namespace Go.Proofs.Ytidgbapgedegbaa.Fw
open Go Go.AS Ou
set_option maxRecDepth 100000
set_option linter.unusedSimpArgs false
set_option linter.unusedVariables false
attribute [local irreducible] Trie.set Trie.get Env.rd
attribute [local simp] Nat.add_assoc wD_cons'' wD_nil' wC_seq wC_ops wC_opsD_nil wC_cond wC_skip wC_ret wC_exit wC_block wO_cons' wO_nil wantedA wV_eq lop qop ev wL_some wL_none wPut envOf rd_set rd_leaf eqA thenC blockC wB_true wB_false endF unwindA resultsA resA tupleA rdCell rdCells wrCells cl fillP lay rep binA unA get_set' AHeap.get_alloc oneCell beqd bned idxA

/-- A flow in memory; S: its own blocks. -/
def FlowAt (A : AHeap) (p : Nat) (f : Fl) (ps : List Pc) (en un : Int) (inl : Option IS) (S : Nat → Prop) : Prop :=
  ∃ o So Si, A.get p = some (.cells f.cells false 0) ∧ f.o = .pointer (some ⟨o, 0, none⟩) ∧ OutAt A o ps en un So ∧ (match inl with | none => f.i = .pointer none | some t => ∃ i, f.i = .pointer (some ⟨i, 0, none⟩) ∧ InAt A i t Si) ∧
    (S p ∧ (∀ j, So j → S j) ∧ ∀ j, Si j → S j) ∧ (¬ So p ∧ ¬ Si p ∧ ∀ j, So j → ¬ Si j) ∧ ∀ j, S j → j < A.size
structure FlOk (ps : List Pc) (en un : Int) : Prop where
  u0 : 0 ≤ un
  ue : un ≤ en
  big : en < 1000000000
  few : ps.length < 1000
/-- Where its inlet is. -/
def inlN : Option IS → Int
  | none => 0
  | some t => t.base

theorem FlowAt.ext {A A' : AHeap} {p : Nat} {f : Fl} {ps : List Pc} {en un : Int} {inl : Option IS} {S U : Nat → Prop} (h : FlowAt A p f ps en un inl S) (e : Ext U A A') (hs : ∀ j, S j → ¬ U j) : FlowAt A' p f ps en un inl S := by
  obtain ⟨o, So, Si, h1, h2, h3, h4, h5, h6, h7⟩ := h
  refine ⟨o, So, Si, e.get h1 (hs _ h5.1), h2, h3.ext e fun j hj => hs _ (h5.2.1 j hj), ?_, h5, h6, fun j hj => Nat.lt_of_lt_of_le (h7 j hj) e.size⟩
  cases inl with
  | none => exact h4
  | some t => obtain ⟨i, k1, k2⟩ := h4; exact ⟨i, k1, k2.ext e fun j hj => hs _ (h5.2.2 j hj)⟩
theorem FlowAt.extN {A A' : AHeap} {p : Nat} {f : Fl} {ps : List Pc} {en un : Int} {inl : Option IS} {S : Nat → Prop} (h : FlowAt A p f ps en un inl S) (e : Ext NoB A A') : FlowAt A' p f ps en un inl S := h.ext e fun _ _ q => q
theorem FlowAt.lt {A : AHeap} {p : Nat} {f : Fl} {ps : List Pc} {en un : Int} {inl : Option IS} {S : Nat → Prop} (h : FlowAt A p f ps en un inl S) : p < A.size := by
  obtain ⟨o, So, Si, h1, _⟩ := h; exact AHeap.get_lt h1
theorem FlowAt.cells {A : AHeap} {p : Nat} {f : Fl} {ps : List Pc} {en un : Int} {inl : Option IS} {S : Nat → Prop} (h : FlowAt A p f ps en un inl S) : A.get p = some (.cells f.cells false 0) := by
  obtain ⟨o, So, Si, h1, _⟩ := h; exact h1
/-- The cell alone is another one. -/
theorem FlowAt.cell {A A' : AHeap} {p : Nat} {f f' : Fl} {ps : List Pc} {en un : Int} {inl : Option IS} {S : Nat → Prop} (h : FlowAt A p f ps en un inl S) (e : Ext (fun j => j = p) A A') (g : A'.get p = some (.cells f'.cells false 0)) (ho : f'.o = f.o) (hi : f'.i = f.i) : FlowAt A' p f' ps en un inl S := by
  obtain ⟨o, So, Si, h1, h2, h3, h4, h5, h6, h7⟩ := h
  refine ⟨o, So, Si, g, by rw [ho]; exact h2, h3.ext e fun j hj q => h6.1 (q ▸ hj), ?_, h5, h6, fun j hj => Nat.lt_of_lt_of_le (h7 j hj) e.size⟩
  cases inl with
  | none => rw [hi]; exact h4
  | some t => obtain ⟨i, k1, k2⟩ := h4; exact ⟨i, by rw [hi]; exact k1, k2.ext e fun j hj q => h6.2.1 (q ▸ hj)⟩
/-- The inlet's own words. -/
theorem FlowAt.inN {A : AHeap} {p : Nat} {f : Fl} {ps : List Pc} {en un : Int} {inl : Option IS} {S : Nat → Prop} (h : FlowAt A p f ps en un inl S) : ∀ A' Q', Ext NoB A A' → Q' (.int .i64 (inlN inl)) A' → wF T (.func (.func 35) #[] #[]) [f.i] A' Q' := by
  obtain ⟨o, So, Si, h1, h2, h3, h4, h5, h6, h7⟩ := h
  intro A' Q' e hq
  cases inl with
  | none => simp only at h4; rw [h4]; exact iN_nil A' Q' hq
  | some t => obtain ⟨i, k1, k2⟩ := h4; rw [k1]; exact iN_ok A' i t Si Q' (k2.extN e) hq

section
variable {A : AHeap} {p : Nat} {f : Fl} {ps : List Pc} {en un : Int} {inl : Option IS} {S : Nat → Prop} {Q : Value → AHeap → Prop}

theorem finished_ok (h : FlowAt A p f ps en un inl S) (hq : Q (.bool f.fin) A) : wF T (.func (.func 47) #[] #[]) [.pointer (some ⟨p, 0, none⟩)] A Q := by
  refine wF_func (first := []) (captured := []) t47 ⟨rfl, by decide⟩ ?_
  dsimp only [c47]; simp [h.cells, Fl.cells]
  exact hq
theorem finAcked_ok (h : FlowAt A p f ps en un inl S) (hq : Q (.bool f.fa) A) : wF T (.func (.func 48) #[] #[]) [.pointer (some ⟨p, 0, none⟩)] A Q := by
  refine wF_func (first := []) (captured := []) t48 ⟨rfl, by decide⟩ ?_
  dsimp only [c48]; simp [h.cells, Fl.cells]
  exact hq
theorem flIn_ok (h : FlowAt A p f ps en un inl S) (hq : Q f.i A) : wF T (.func (.func 50) #[] #[]) [.pointer (some ⟨p, 0, none⟩)] A Q := by
  refine wF_func (first := []) (captured := []) t50 ⟨rfl, by decide⟩ ?_
  dsimp only [c50]; simp [h.cells, Fl.cells]
  exact hq
theorem finish_ok (h : FlowAt A p f ps en un inl S) (hq : ∀ A' w, FlowAt A' p { f with fin := true } ps en un inl S → Ext S A A' → Q w A') : wF T (.func (.func 45) #[] #[]) [.pointer (some ⟨p, 0, none⟩)] A Q := by
  refine wF_func (first := []) (captured := []) t45 ⟨rfl, by decide⟩ ?_
  have lt := h.lt
  have sp : S p := by obtain ⟨_, _, _, _, _, _, _, h5, _, _⟩ := h; exact h5.1
  dsimp only [c45]; simp [h.cells, Fl.cells, lt]
  generalize hA2 : AHeap.set A p _ = A2
  obtain ⟨g2, e2, z2⟩ := Ou.set_facts lt hA2
  exact hq A2 _ (h.cell (f' := { f with fin := true }) e2 (by rw [g2]; rfl) rfl rfl) (e2.mono fun j _ q => q ▸ sp)
theorem takeFin_ok (h : FlowAt A p f ps en un inl S) (hq : ∀ A' w, FlowAt A' p { f with ft := true } ps en un inl S → Ext S A A' → Q w A') : wF T (.func (.func 53) #[] #[]) [.pointer (some ⟨p, 0, none⟩)] A Q := by
  refine wF_func (first := []) (captured := []) t53 ⟨rfl, by decide⟩ ?_
  have lt := h.lt
  have sp : S p := by obtain ⟨_, _, _, _, _, _, _, h5, _, _⟩ := h; exact h5.1
  dsimp only [c53]; simp [h.cells, Fl.cells, lt]
  generalize hA2 : AHeap.set A p _ = A2
  obtain ⟨g2, e2, z2⟩ := Ou.set_facts lt hA2
  exact hq A2 _ (h.cell (f' := { f with ft := true }) e2 (by rw [g2]; rfl) rfl rfl) (e2.mono fun j _ q => q ▸ sp)
theorem flight_ok' (h : FlowAt A p f ps en un inl S) (hq : Q (.int .i64 (ps.length : Nat)) A) : wF T (.func (.func 57) #[] #[]) [.pointer (some ⟨p, 0, none⟩)] A Q := by
  obtain ⟨o, So, Si, h1, h2, h3, h4, h5, h6, h7⟩ := h
  refine wF_func (first := []) (captured := []) t57 ⟨rfl, by decide⟩ ?_
  dsimp only [c57]; simp [h1, Fl.cells, h2]
  refine aflight_ok A o ps en un So _ h3 ?_
  simp
  exact hq
theorem push_ok' (l : List UInt8) (tag : Int) (h : FlowAt A p f ps en un inl S) (ok : FlOk ps en un)
    (hq0 : f.fin = true → Q (.int .i64 (-1)) A)
    (hq : f.fin = false → ∀ A' S', FlowAt A' p f (if l = [] then ps else ps ++ [⟨en, tag, ⟨⟨l⟩⟩⟩]) (IntKind.i64.wrap (en + l.length)) un inl S' → Ext S A A' → (∀ j, S' j → S j ∨ (A.size ≤ j ∧ j < A'.size)) → Q (.int .i64 en) A') :
    wF T (.func (.func 42) #[] #[]) [.pointer (some ⟨p, 0, none⟩), .string ⟨⟨l⟩⟩, .int .i64 tag] A Q := by
  have lt := h.lt
  obtain ⟨o, So, Si, h1, h2, h3, h4, h5, h6, h7⟩ := h
  refine wF_func (first := []) (captured := []) t42 ⟨rfl, by decide⟩ ?_
  dsimp only [c42]
  cases hf : f.fin with
  | true => simp [h1, Fl.cells, hf]; exact hq0 hf
  | false =>
    simp [h1, Fl.cells, hf, h2]
    refine apush_ok A o ps en un tag So l _ h3 ok.few fun A' S' ho e ow => ?_
    simp
    have lo := h3.lt
    refine hq hf A' (fun j => S j ∨ (A.size ≤ j ∧ j < A'.size)) ⟨o, S', Si, e.get h1 h6.1, h2, ho, ?_, ⟨.inl h5.1, fun j hj => (ow j hj).imp (h5.2.1 j) id, fun j hj => .inl (h5.2.2 j hj)⟩, ⟨fun q => ?_, h6.2.1, fun j hj hj2 => ?_⟩, fun j hj => ?_⟩ (e.mono fun j _ q => h5.2.1 j q) fun j hj => hj
    · cases inl with
      | none => exact h4
      | some t => obtain ⟨i, k1, k2⟩ := h4; exact ⟨i, k1, k2.ext e fun j hj q => h6.2.2 j q hj⟩
    · rcases ow p q with q | q
      · exact h6.1 q
      · omega
    · rcases ow j hj with q | q
      · exact h6.2.2 j q hj2
      · have := h7 j (h5.2.2 j hj2); omega
    · have := e.size
      rcases hj with q | q
      · have := h7 j q; omega
      · exact q.2
end
end Go.Proofs.Ytidgbapgedegbaa.Fw
