/- An inlet with a spoilt chunk: the calls. -/
import Derived.Test.YtidgbapgedegbaaDs
import Derived.Test.YtidgbapgedegbaaKr
import Derived.KernelRfl
namespace Go.Proofs.Ytidgbapgedegbaa
open Go Go.AS
set_option maxRecDepth 100000
set_option linter.unusedSimpArgs false
set_option linter.unusedVariables false
attribute [local irreducible] Trie.set Trie.get Env.rd
attribute [local simp ↓] wV_b2s
attribute [local simp] Nat.add_assoc wD_cons'' wD_nil' wC_seq wC_ops wC_opsD_nil wC_cond wC_skip wC_ret wC_exit wC_block wO_cons' wO_nil wantedA wV_eq lop qop ev wL_some wL_none wPut envOf rd_set rd_leaf eqA thenC blockC wB_true wB_false endF unwindA resultsA resA tupleA rdCell rdCells wrCells cl fillP lay rep binA unA get_set' AHeap.get_alloc oneCell beqd bned idxA

def SpF (A1 : AHeap) (S1 : Nat → Prop) (i : Nat) (cs : List Ck) (tx : List (List UInt8)) (pr : Nat → Bool) (sums : Bool) (idsn : Int) (k j jm : Nat) (A : AHeap) : Prop :=
  ∃ s S, InAt A i s S ∧ Sp cs tx pr k j jm s ∧ (s.room = 2048 ∧ s.sums = sums ∧ s.idsn = idsn) ∧ (∀ j, S j → S1 j ∨ A1.size ≤ j) ∧ Ext S1 A1 A
section
variable {A1 : AHeap} {S1 : Nat → Prop} {i : Nat} {cs : List Ck} {tx : List (List UInt8)} {pr : Nat → Bool} {sums : Bool} {idsn : Int} {A : AHeap} {Q : Value → AHeap → Prop}
theorem SpF.ex {k j jm : Nat} (h : SpF A1 S1 i cs tx pr sums idsn k j jm A) : Ext S1 A1 A := by obtain ⟨s, S, _, _, _, _, e⟩ := h; exact e
theorem SpF.ext {k j jm : Nat} (h : SpF A1 S1 i cs tx pr sums idsn k j jm A) {A' : AHeap} (e : Ext NoB A A') : SpF A1 S1 i cs tx pr sums idsn k j jm A' := by
  obtain ⟨s, S, h1, h2, h3, h4, h5⟩ := h
  exact ⟨s, S, h1.extN e, h2, h3, h4, h5.trans (e.mono fun _ _ q => q.elim)⟩
theorem spf_map {j : Nat} (h : SpF A1 S1 i cs tx pr sums idsn 0 j j A) (seg : Segs sums idsn 0 cs) (hcs : pos cs cs.length ≤ 2048) (hj : j < cs.length) (hpr : pr j = true) (hq : ∀ A', SpF A1 S1 i cs tx pr sums idsn 0 j (j + 1) A' → Q (.bool true) A') : wF T (.func (.func 32) #[] #[]) [.pointer (some ⟨i, 0, none⟩), .agg ⟨mpc cs[j].m⟩] A Q := by
  obtain ⟨s, S, h1, h2, h3, h4, h5⟩ := h
  have ck := segs_at seg hj
  have hs := pos_succ hj
  have hle := pos_le (cs := cs) (show j + 1 ≤ cs.length by omega)
  have hb := h2.base
  have hp0 : pos cs 0 = 0 := by simp [pos, size]
  obtain ⟨a1, a2, a3, a4, a5, a6, a7⟩ := ck
  have may : MayPut s.room s.base cs[j].m := ⟨by omega, by omega, a5, by omega, by omega⟩
  have fn : findM s.ms cs[j].m.at_ = none := by rw [a1]; exact h2.hasnt seg hj (.inl (Nat.le_refl _))
  refine imap_ok A i s S _ cs[j].m (by omega) h1 (fun A' hno _ => absurd ⟨may, fn⟩ hno) fun A' p S' _ _ _ h1' e hS => ?_
  have sz := h5.size
  refine hq A' ⟨_, S', h1', h2.map hj hpr, h3, fun x hx => ?_, h5.trans2 e fun b hb q => (h4 b q).elim id fun z => by omega⟩
  rcases hS x hx with q | q
  · exact h4 x q
  · exact .inr (by omega)
theorem spf_nomap {j : Nat} (h : SpF A1 S1 i cs tx pr sums idsn 0 j j A) (hpr : pr j = false) : SpF A1 S1 i cs tx pr sums idsn 0 j (j + 1) A := by
  obtain ⟨s, S, h1, h2, h3⟩ := h
  exact ⟨s, S, h1, h2.nomap hpr, h3⟩
theorem spf_put {j : Nat} (h : SpF A1 S1 i cs tx pr sums idsn 0 j (j + 1) A) (seg : Segs sums idsn 0 cs) (X : Tx cs tx) (hcs : pos cs cs.length ≤ 2048) (hj : j < cs.length) {t : List UInt8} (ht : t = tx[j]'(by rw [X.len]; exact hj)) {at_ : Int} (hat : at_ = ((pos cs j : Nat) : Int)) (hq : ∀ v A', SpF A1 S1 i cs tx pr sums idsn 0 (j + 1) (j + 1) A' → Q v A') : wF T (.func (.func 31) #[] #[]) [.pointer (some ⟨i, 0, none⟩), .int .i64 at_, .string ⟨⟨t⟩⟩] A Q := by
  obtain ⟨s, S, h1, h2, h3, h4, h5⟩ := h
  have hs := pos_succ hj
  have hle := pos_le (cs := cs) (show j + 1 ≤ cs.length by omega)
  have htl : t.length = (cs[j]).t.length := by rw [ht]; exact X.at_ j hj
  subst hat
  refine iput_ok A i s S _ _ t (by omega) (by omega) h1 fun A' h1' e => ?_
  subst ht
  exact hq _ A' ⟨_, S, h1', h2.put X hj (by omega), h3, h4, h5.trans2 e fun b hb q => (h4 b q).elim id fun z => by omega⟩
theorem spf_next {k j jm : Nat} (h : SpF A1 S1 i cs tx pr sums idsn k j jm A) (seg : Segs sums idsn 0 cs) {kind : Int} {m : Mp} {t : List UInt8} (hv : ∀ s, Sp cs tx pr k j jm s → s.sums = sums → s.idsn = idsn → nextV s (rtF s.idsn) = (kind, m, t)) (hq : ∀ A', SpF A1 S1 i cs tx pr sums idsn k j jm A' → Q (.bool true) A') : wF T (.func (.func 33) #[] #[]) [.pointer (some ⟨i, 0, none⟩), .int .i64 kind, .agg ⟨mpc m⟩, .string ⟨⟨t⟩⟩] A Q := by
  have h0 := h
  obtain ⟨s, S, h1, h2, h3, h4, h5⟩ := h
  refine lnext_ok A i s S (rtF s.idsn) kind m t _ h1 (h2.right seg) fun A' e => ?_
  rw [hv s h2 h3.2.1 h3.2.2]
  simp only [mp_beq, decide_true, Bool.and_self]
  exact hq A' (h0.ext e)
theorem spf_skip {k jm : Nat} (h : SpF A1 S1 i cs tx pr sums idsn k cs.length jm A) (seg : Segs sums idsn 0 cs) (hcs : pos cs cs.length ≤ 2048) (hk : k < cs.length) {n : Int} (hn : n = (cs[k]).t.length) (hq : ∀ v A', SpF A1 S1 i cs tx pr sums idsn (k + 1) cs.length jm A' → Q v A') : wF T (.func (.func 38) #[] #[]) [.pointer (some ⟨i, 0, none⟩), .int .i64 n] A Q := by
  obtain ⟨s, S, h1, h2, h3, h4, h5⟩ := h
  have hs := pos_succ hk
  have hle := pos_le (cs := cs) (show k + 1 ≤ cs.length by omega)
  have hb := h2.base
  refine iskip_ok A i s S _ n h1 fun A' w to hto h1' e => ?_
  exact hq w A' ⟨_, S, h1', h2.skip seg hk (by omega), h3, h4, h5.trans2 e fun b hb q => (h4 b q).elim id fun z => by omega⟩
theorem spf_raw {k jm : Nat} (h : SpF A1 S1 i cs tx pr sums idsn k cs.length jm A) (X : Tx cs tx) (hk : k < cs.length) {n : Int} (hn : n = (cs[k]).t.length) (hq : ∀ A', SpF A1 S1 i cs tx pr sums idsn k cs.length jm A' → Q (.string ⟨⟨tx[k]'(by rw [X.len]; exact hk)⟩⟩) A') : wF T (.func (.func 34) #[] #[]) [.pointer (some ⟨i, 0, none⟩), .int .i64 n] A Q := by
  have h0 := h
  obtain ⟨s, S, h1, h2, h3, h4, h5⟩ := h
  subst hn
  refine iraw_ok A i s S _ _ h1 fun A' l e q1 q2 => ?_
  have := h2.raw X hk q1 q2
  subst this
  exact hq A' (h0.ext e)
theorem spf_N {k j jm : Nat} (h : SpF A1 S1 i cs tx pr sums idsn k j jm A) (hq : Q (.int .i64 (pos cs k : Nat)) A) : wF T (.func (.func 35) #[] #[]) [.pointer (some ⟨i, 0, none⟩)] A Q := by
  obtain ⟨s, S, h1, h2, h3, h4, h5⟩ := h
  refine iN_ok A i s S _ h1 ?_
  rw [h2.base]
  exact hq
end
end Go.Proofs.Ytidgbapgedegbaa
