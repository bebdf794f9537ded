/- An outlet, as one thing. -/
import Derived.Test.YtidgbapgedegbaaOb
import Derived.KernelRfl
namespace Go.Proofs.Ytidgbapgedegbaa.Ou
open Go Go.AS
set_option maxRecDepth 100000
set_option linter.unusedSimpArgs false
set_option linter.unusedVariables false
attribute [local irreducible] Trie.set Trie.get Env.rd
attribute [local simp] Nat.add_assoc wD_cons'' wD_nil' wC_seq wC_ops wC_opsD_nil wC_cond wC_skip wC_ret wC_exit wC_block wO_cons' wO_nil wantedA wV_eq lop qop ev wL_some wL_none wPut envOf rd_set rd_leaf eqA thenC blockC wB_true wB_false endF unwindA resultsA resA tupleA rdCell rdCells wrCells cl fillP lay rep binA unA get_set' AHeap.get_alloc oneCell beqd bned idxA

/-- An outlet in memory; S: its own blocks. -/
def OutAt (A : AHeap) (o : Nat) (ps : List Pc) (en un : Int) (S : Nat → Prop) : Prop :=
  ∃ v, A.get o = some (.cells [v, .int .i64 en, .int .i64 un] false 0) ∧ SliceAt A 3 v ps.length (pcells ps) ∧ S o ∧ ¬ Own v o ∧ ∀ j, Own v j → S j

theorem OutAt.ext {A A' : AHeap} {o : Nat} {ps : List Pc} {en un : Int} {S U : Nat → Prop} (h : OutAt A o ps en un S) (e : Ext U A A') (hs : ∀ j, S j → ¬ U j) : OutAt A' o ps en un S := by
  obtain ⟨v, h1, h2, h3, h4, h5⟩ := h
  exact ⟨v, e.get h1 (hs _ h3), h2.ext e fun j hj => hs _ (h5 j hj), h3, h4, h5⟩
theorem OutAt.lt {A : AHeap} {o : Nat} {ps : List Pc} {en un : Int} {S : Nat → Prop} (h : OutAt A o ps en un S) : o < A.size := by
  obtain ⟨v, h1, _⟩ := h; exact AHeap.get_lt h1

theorem aend_ok (A : AHeap) (o : Nat) (ps : List Pc) (en un : Int) (S : Nat → Prop) (Q : Value → AHeap → Prop) (h : OutAt A o ps en un S) (hq : Q (.int .i64 en) A) : wF T (.func (.func 106) #[] #[]) [.pointer (some ⟨o, 0, none⟩)] A Q := by
  obtain ⟨v, h1, _⟩ := h; exact end_ok o v _ _ A Q h1 hq
theorem auna_ok (A : AHeap) (o : Nat) (ps : List Pc) (en un : Int) (S : Nat → Prop) (Q : Value → AHeap → Prop) (h : OutAt A o ps en un S) (hq : Q (.int .i64 un) A) : wF T (.func (.func 135) #[] #[]) [.pointer (some ⟨o, 0, none⟩)] A Q := by
  obtain ⟨v, h1, _⟩ := h; exact una_ok o v _ _ A Q h1 hq
theorem aflight_ok (A : AHeap) (o : Nat) (ps : List Pc) (en un : Int) (S : Nat → Prop) (Q : Value → AHeap → Prop) (h : OutAt A o ps en un S) (hq : Q (.int .i64 (ps.length : Nat)) A) : wF T (.func (.func 110) #[] #[]) [.pointer (some ⟨o, 0, none⟩)] A Q := by
  obtain ⟨v, h1, h2, _⟩ := h
  obtain ⟨a, c, rfl⟩ := h2.read.val
  exact flight_ok o a ps.length c _ _ A Q h1 hq
theorem anew_ok (A : AHeap) (Q : Value → AHeap → Prop) (hq : ∀ A', Ext NoB A A' → OutAt A' A.size [] 0 0 (fun j => j = A.size) → Q (.pointer (some ⟨A.size, 0, none⟩)) A') : wF T (.func (.func 160) #[] #[]) [] A Q := by
  refine new_ok A Q (hq _ Ext.alloc ⟨.slice none 0 0, by simp, SliceAt.nil, rfl, ?_, ?_⟩)
  · rintro ⟨_, _, _, q⟩; cases q
  · rintro j ⟨_, _, _, q⟩; cases q
theorem adue_ok (A : AHeap) (o : Nat) (ps : List Pc) (en un : Int) (S : Nat → Prop) (Q : Value → AHeap → Prop) (h : OutAt A o ps en un S) (hn : ps.length < 1000) (hq : ∀ A' v', SliceAt A' 3 v' ps.length (pcells ps) → Ext NoB A A' → (∀ j, Own v' j → A.size ≤ j) → Q v' A') : wF T (.func (.func 105) #[] #[]) [.pointer (some ⟨o, 0, none⟩)] A Q := by
  obtain ⟨v, h1, h2, _⟩ := h
  refine due_ok o v _ _ ps.length (pcells ps) A Q h1 h2 ?_ hn ?_
  · have : ∀ l : List Pc, (pcells l).all oneCell = true := by
      intro l; induction l with
      | nil => rfl
      | cons p l ih => simp only [pcells, List.flatMap_cons, List.all_append, List.all_cons, List.all_nil, oneCell, Bool.and_self, Bool.true_and] at ih ⊢; exact ih
    exact this ps
  · intro A' v' s e ow
    exact hq A' v' s e ow
theorem apush_ok (A : AHeap) (o : Nat) (ps : List Pc) (en un tag : Int) (S : Nat → Prop) (l : List UInt8) (Q : Value → AHeap → Prop) (h : OutAt A o ps en un S) (hn : ps.length < 1000)
    (hq : ∀ A' S', OutAt A' o (if l = [] then ps else ps ++ [⟨en, tag, ⟨⟨l⟩⟩⟩]) (IntKind.i64.wrap (en + l.length)) un S' → Ext S A A' → (∀ j, S' j → S j ∨ (A.size ≤ j ∧ j < A'.size)) → Q (.int .i64 en) A') :
    wF T (.func (.func 100) #[] #[]) [.pointer (some ⟨o, 0, none⟩), .string ⟨⟨l⟩⟩, .int .i64 tag] A Q := by
  obtain ⟨v, h1, h2, h3, h4, h5⟩ := h
  refine push_ok o v ps.length (pcells ps) en un tag ⟨⟨l⟩⟩ A Q h1 h2 h4 hn fun A' v' n' cs' hc g1 s2 no ex ow => ?_
  refine hq A' (fun j => S j ∨ (A.size ≤ j ∧ j < A'.size)) ⟨v', g1, ?_, .inl h3, no, fun j hj => (ow j hj).imp (h5 j) fun q => ⟨q, s2.own_lt hj⟩⟩ (ex.mono fun j _ q => q.elim (fun q => q ▸ h3) (h5 j)) fun j hj => hj
  rcases hc with ⟨k1, k2, k3⟩ | ⟨k1, k2, k3⟩
  · have : l = [] := by simpa using congrArg Array.toList k1
    subst this; subst k2; subst k3
    simpa using s2
  · have : l ≠ [] := fun q => k1 (by rw [q])
    rw [if_neg this, List.length_append, List.length_singleton]
    subst k2; subst k3
    have e : pcells (ps ++ [⟨en, tag, ⟨⟨l⟩⟩⟩]) = pcells ps ++ [.int .i64 en, .int .i64 tag, .string ⟨⟨l⟩⟩] := by simp [pcells]
    rw [e]; exact s2
theorem aack_ok (A : AHeap) (o : Nat) (ps : List Pc) (en un off : Int) (S : Nat → Prop) (Q : Value → AHeap → Prop) (h : OutAt A o ps en un S) (hn : ps.length < 1000)
    (hq0 : off ≤ un ∨ en < off → ∀ A', Ext NoB A A' → Q (.slice none 0 0) A')
    (hq : un < off → off ≤ en → ∀ A' sv, OutAt A' o (ps.drop (taken off ps).length) en off S → SliceAt A' 1 sv (taken off ps).length (ints ((taken off ps).map (·.tag))) → Ext S A A' → (∀ j, Own sv j → A.size ≤ j) → Q sv A') :
    wF T (.func (.func 108) #[] #[]) [.pointer (some ⟨o, 0, none⟩), .int .i64 off] A Q := by
  obtain ⟨v, h1, h2, h3, h4, h5⟩ := h
  refine ack_ok o ps.length v ps en un off A Q h1 h2 h4 hn hq0 fun a1 a2 A' sv v' g1 s2 no s3 ex ow ow2 => ?_
  refine hq a1 a2 A' sv ⟨v', g1, ?_, h3, no, fun j hj => h5 j (ow2 j hj)⟩ s3 (ex.mono fun j _ q => q ▸ h3) ow
  rw [List.length_drop]; exact s2
end Go.Proofs.Ytidgbapgedegbaa.Ou
