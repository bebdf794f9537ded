/- Contracts of an outlet. -/
import Derived.Test.YtidgbapgedegbaaKe
import Derived.Test.YtidgbapgedegbaaM3
import Derived.KernelRfl
namespace Go.Proofs.Ytidgbapgedegbaa.Ou
open Go Go.AS
set_option maxRecDepth 100000
set_option linter.unusedSimpArgs false
set_option linter.unusedVariables false
theorem beqd (a b : Int) : (a == b) = decide (a = b) := by
  rw [Bool.eq_iff_iff]; simp
theorem bned (a b : Int) : (a != b) = !decide (a = b) := by
  rw [bne, beqd]
attribute [local irreducible] Trie.set Trie.get Env.rd
attribute [local simp] Nat.add_assoc wD_cons'' wD_nil' wC_seq wC_ops wC_opsD_nil wC_cond wC_skip wC_ret wC_exit wC_block wO_cons' wO_nil wantedA wV_eq lop qop ev wL_some wL_none wPut envOf rd_set rd_leaf eqA thenC blockC wB_true wB_false endF unwindA resultsA resA tupleA rdCell rdCells wrCells cl fillP lay rep binA unA get_set' AHeap.get_alloc oneCell beqd bned idxA
theorem end_ok (b : Nat) (due en un : Value) (A : AHeap) (Q : Value → AHeap → Prop) (h : A.get b = some (.cells [due, en, un] false 0)) (hq : Q en A) : wF T (.func (.func 106) #[] #[]) [.pointer (some ⟨b, 0, none⟩)] A Q := by
  refine wF_func (first := []) (captured := []) t106 ⟨rfl, by decide⟩ ?_
  dsimp only [c106]; simp [h, hq]
theorem una_ok (b : Nat) (due en un : Value) (A : AHeap) (Q : Value → AHeap → Prop) (h : A.get b = some (.cells [due, en, un] false 0)) (hq : Q un A) : wF T (.func (.func 135) #[] #[]) [.pointer (some ⟨b, 0, none⟩)] A Q := by
  refine wF_func (first := []) (captured := []) t135 ⟨rfl, by decide⟩ ?_
  dsimp only [c135]; simp [h, hq]
theorem flight_ok (b : Nat) (a : Option Addr) (n c : Nat) (en un : Value) (A : AHeap) (Q : Value → AHeap → Prop) (h : A.get b = some (.cells [.slice a n c, en, un] false 0)) (hq : Q (.int .i64 n) A) : wF T (.func (.func 110) #[] #[]) [.pointer (some ⟨b, 0, none⟩)] A Q := by
  refine wF_func (first := []) (captured := []) t110 ⟨rfl, by decide⟩ ?_
  dsimp only [c110]; simp [h, hq]
theorem new_ok (A : AHeap) (Q : Value → AHeap → Prop) (hq : Q (.pointer (some ⟨A.size, 0, none⟩)) (A.alloc (.cells [.slice none 0 0, .int .i64 0, .int .i64 0] false 0))) : wF T (.func (.func 160) #[] #[]) [] A Q := by
  refine wF_func (first := []) (captured := []) t160 ⟨rfl, by decide⟩ ?_
  dsimp only [c160]; simp [hq]

theorem set_facts {A A2 : AHeap} {p : Nat} {x : ABlk} (lt : p < A.size) (h : A.set p x = A2) : A2.get p = some x ∧ Ext (fun j => j = p) A A2 ∧ A2.size = A.size := by
  subst h; exact ⟨by simp [lt], Ext.set rfl, rfl⟩
def ints (l : List Int) : List Value := l.map (.int .i64 ·)

theorem wrap_nat (n : Nat) (h : n < 9000000000000000000) : IntKind.i64.wrap (n : Int) = n := IntWalk.i64_in _ (by omega)
theorem wrap_succ (n : Nat) (h : n < 9000000000000000000) : IntKind.i64.wrap ((n : Int) + 1) = ((n + 1 : Nat) : Int) := by
  rw [show ((n : Int) + 1) = ((n + 1 : Nat) : Int) by omega]; exact IntWalk.i64_in _ (by omega)

def IntsI (a1 a2 : Option Addr) (n1 c1 c2 : Nat) (l1 l2 : List Int) (A : AHeap) (m : Nat) (st : St) : Prop := ∃ i, m + i = n1 ∧ l1.take i = l2.take i ∧ st.n = 26 ∧ st.dfs = [] ∧ st.A = A ∧ st.env.rd 0 = .slice a1 n1 c1 ∧ st.env.rd 1 = .slice a2 n1 c2 ∧ st.env.rd 5 = .int .i64 (i : Nat)
theorem ints_ok (v1 v2 : Value) (n1 n2 : Nat) (l1 l2 : List Int) (A : AHeap) (Q : Value → AHeap → Prop) (h1 : ReadAt A 1 v1 n1 (ints l1)) (h2 : ReadAt A 1 v2 n2 (ints l2)) (hb : n1 < 1000000) (hq : Q (.bool (decide (l1 = l2))) A) : wF T (.func (.func 99) #[] #[]) [v1, v2] A Q := by
  obtain ⟨a1, c1, rfl⟩ := h1.val
  obtain ⟨a2, c2, rfl⟩ := h2.val
  have e1 : n1 = l1.length := by have := h1.length; simpa [ints] using this.symm
  have e2 : n2 = l2.length := by have := h2.length; simpa [ints] using this.symm
  refine wF_func (first := []) (captured := []) t99 ⟨rfl, by decide⟩ ?_
  by_cases hn : n1 = n2
  · subst hn
    dsimp only [c99]; simp
    refine wC_loop_inv (IntsI a1 a2 n1 c1 c2 l1 l2 A) ?_ n1 _ ⟨0, rfl, rfl, rfl, rfl, rfl, by simp, by simp, by simp⟩
    rintro m ⟨env, n, dfs, A'⟩ ⟨i, k1, k2, k3, k4, k5, k6, k7, k8⟩
    simp only at k3 k4 k5 k6 k7 k8
    subst k3; subst k4; subst k5
    by_cases hi : i < n1
    · obtain ⟨d1, o1, q1, b1, ro1, op1, r1, r2, r3⟩ := h1.cell hi
      obtain ⟨d2, o2, q2, b2, ro2, op2, s1, s2, s3⟩ := h2.cell hi
      cases r1; cases s1
      have x1 : (ints l1)[i]? = some (.int .i64 l1[i]) := by simp [ints]
      have x2 : (ints l2)[i]? = some (.int .i64 l2[i]) := by simp [ints]
      rw [x1] at r3; rw [x2] at s3
      simp [k6, k7, k8, hi, idxA, r2, r3, s2, s3]
      by_cases he : l1[i] = l2[i]
      · simp [he, k8]
        refine ⟨m - 1, by omega, i + 1, by omega, ?_, rfl, rfl, rfl, by simp [k6], by simp [k7], by simpa using wrap_succ i (by omega)⟩
        rw [List.take_add_one, List.take_add_one, k2, List.getElem?_eq_getElem (by omega), List.getElem?_eq_getElem (by omega), he]
      · have hl : l1 ≠ l2 := fun q => he (by subst q; rfl)
        simp [he]
        simpa [hl] using hq
    · have hl : l1 = l2 := by
        have := k2
        rwa [List.take_of_length_le (by omega), List.take_of_length_le (by omega)] at this
      simp [k6, k7, k8, hi]
      simpa [hl] using hq
  · have hne : l1 ≠ l2 := fun q => hn (by rw [e1, e2, q])
    have hn' : ¬ ((n1 : Int) = n2) := by omega
    dsimp only [c99]; simp [hn']
    simpa [hne] using hq

/-- Due: a copy. -/
theorem due_ok (b : Nat) (due en un : Value) (n : Nat) (cs : List Value) (A : AHeap) (Q : Value → AHeap → Prop) (h : A.get b = some (.cells [due, en, un] false 0)) (hd : SliceAt A 3 due n cs) (hone : cs.all oneCell = true) (hn : n < 1000)
    (hq : ∀ A' v, SliceAt A' 3 v n cs → Ext NoB A A' → (∀ j, Own v j → A.size ≤ j) → Q v A') : wF T (.func (.func 105) #[] #[]) [.pointer (some ⟨b, 0, none⟩)] A Q := by
  have hf : firstA A 3 n due = some cs := by
    rw [hd.read.firstA (Nat.le_refl n), List.take_of_length_le (by rw [hd.read.length]; omega)]
  obtain ⟨v, A', k1, k2, k3, k4⟩ := (SliceAt.nil (A := A) (sz := 3)).append (x := due) (bytes := 32) (by decide) hd.read.lenA hf hone hd.read.length (by omega) (by decide) (by obtain ⟨a, c, rfl⟩ := hd.read.val; simp [isStr])
  have no : ∀ j, ¬ Own (.slice none 0 0) j := fun j ⟨o, n, c, q⟩ => by cases q
  refine wF_func (first := []) (captured := []) t105 ⟨rfl, by decide⟩ ?_
  dsimp only [c105]; simp [h, k1]
  refine hq _ _ (by simpa using k2) (k3.mono fun j _ q => no j q) fun j hj => (k4 j hj).resolve_left (no j)

theorem over_ok (b : Nat) (off : Int) (A : AHeap) (Q : Value → AHeap → Prop)
    (hq : Q (.func (.func 162) ⟨[]⟩ ⟨[.pointer (some ⟨A.size, 0, none⟩), .pointer (some ⟨A.size + 1, 0, none⟩)]⟩) ((A.alloc (.cells [.pointer (some ⟨b, 0, none⟩)] false 0)).alloc (.cells [.int .i64 off] false 0))) : wF T (.func (.func 137) #[] #[]) [.pointer (some ⟨b, 0, none⟩), .int .i64 off] A Q := by
  refine wF_func (first := []) (captured := []) t137 ⟨rfl, by decide⟩ ?_
  dsimp only [c137]; simp [hq]

theorem pend_ok (a t : Int) (s : ByteArray) (A : AHeap) (Q : Value → AHeap → Prop) (hq : ∀ A', Ext NoB A A' → Q (.int .i64 (IntKind.i64.wrap (a + s.size))) A') : wF T (.func (.func 133) #[] #[]) [.agg ⟨[.int .i64 a, .int .i64 t, .string s]⟩] A Q := by
  refine wF_func (first := []) (captured := []) t133 ⟨rfl, by decide⟩ ?_
  dsimp only [c133]; simp
  exact hq _ Ext.alloc

/-- Push. -/
theorem push_ok (b : Nat) (due : Value) (n : Nat) (cs : List Value) (en un tag : Int) (text : ByteArray) (A : AHeap) (Q : Value → AHeap → Prop) (h : A.get b = some (.cells [due, .int .i64 en, .int .i64 un] false 0)) (hd : SliceAt A 3 due n cs) (hdb : ¬ Own due b) (hn : n < 1000)
    (hq : ∀ A' due' n' cs', (text.data = #[] ∧ n' = n ∧ cs' = cs ∨ text.data ≠ #[] ∧ n' = n + 1 ∧ cs' = cs ++ [.int .i64 en, .int .i64 tag, .string text]) → A'.get b = some (.cells [due', .int .i64 (IntKind.i64.wrap (en + text.size)), .int .i64 un] false 0) → SliceAt A' 3 due' n' cs' → ¬ Own due' b →
      Ext (fun j => j = b ∨ Own due j) A A' → (∀ j, Own due' j → Own due j ∨ A.size ≤ j) → Q (.int .i64 en) A') : wF T (.func (.func 100) #[] #[]) [.pointer (some ⟨b, 0, none⟩), .string text, .int .i64 tag] A Q := by
  have hb := AHeap.get_lt h
  have hne : b ≠ A.size := by omega
  refine wF_func (first := []) (captured := []) t100 ⟨rfl, by decide⟩ ?_
  dsimp only [c100]; simp [h, hne, hne.symm, hb]
  refine pend_ok _ _ _ _ _ fun A1 hA1 => ?_
  have g1 : A1.get b = some (.cells [due, .int .i64 en, .int .i64 un] false 0) := hA1.get (by simp [hne, h]) (fun q => q)
  have g2 : A1.get A.size = some (.cells [.int .i64 en, .int .i64 tag, .string text] false 0) := hA1.get (by simp) (fun q => q)
  have hb1 := AHeap.get_lt g1
  have e2 : Ext NoB A A1 := ⟨by have := hA1.size; simp at this; omega, fun j hj _ => by rw [hA1.keep j (by simp; omega) (fun q => q), get_set', if_neg (by omega), AHeap.get_alloc, if_neg (by omega)]⟩
  have d1 : SliceAt A1 3 due n cs := hd.ext e2 (fun _ _ q => q)
  simp [g1, g2, hb1]
  by_cases ht : text.data = #[]
  · simp [ht, hne.symm, g2]
    refine hq _ due n cs (.inl ⟨ht, rfl, rfl⟩) ?_ ?_ hdb ?_ (fun j hj => .inl hj)
    · simp [hb1]
    · exact d1.ext (S := fun j => j = b) (Ext.set rfl) (fun j hj q => hdb (q ▸ hj))
    · exact (e2.mono fun _ _ q => q.elim).trans (Ext.set (.inl rfl))
  · have hem : text.data.isEmpty = false := by simpa using ht
    simp [ht, hem, hne.symm, hb1, g2]
    generalize hA2 : A1.set b (.cells [due, .int .i64 (IntKind.i64.wrap (en + text.size)), .int .i64 un] false 0) = A2
    have f2 : A2.size = A1.size := by rw [← hA2]; rfl
    have e3 : Ext (fun j => j = b) A1 A2 := by rw [← hA2]; exact Ext.set rfl
    have g3 : A2.get b = some (.cells [due, .int .i64 (IntKind.i64.wrap (en + text.size)), .int .i64 un] false 0) := by rw [← hA2]; simp [hb1]
    have d2 : SliceAt A2 3 due n cs := d1.ext e3 (fun j hj q => hdb (q ▸ hj))
    generalize hA3 : A2.alloc (.cells [.int .i64 en, .int .i64 tag, .string text] false 0) = A3
    have e4 : Ext NoB A2 A3 := by rw [← hA3]; exact Ext.alloc
    have g4 : A3.get b = some (.cells [due, .int .i64 (IntKind.i64.wrap (en + text.size)), .int .i64 un] false 0) := e4.get g3 (fun q => q)
    have g5 : A3.get A1.size = some (.cells [.int .i64 en, .int .i64 tag, .string text] false 0) := by rw [← hA3, ← f2, AHeap.get_alloc, if_pos rfl]
    have d3 : SliceAt A3 3 due n cs := d2.ext e4 (fun _ _ q => q)
    obtain ⟨v', A4, k1, k2, k3, k4⟩ := d3.append (x := .slice (some ⟨A1.size, 0, none⟩) 1 1) (m := 1) (bytes := 32) (new := [.int .i64 en, .int .i64 tag, .string text]) (by decide) rfl (by simp [firstA, rdCells, g5, ENDCAP]) (by simp [oneCell]) rfl (by omega) (by decide) (by simp [isStr])
    have g6 : A4.get b = some (.cells [due, .int .i64 (IntKind.i64.wrap (en + text.size)), .int .i64 un] false 0) := k3.get g4 hdb
    obtain ⟨a', c', hv'⟩ := k2.read.val
    subst hv'
    have hb4 := AHeap.get_lt g6
    have o1 : ¬ Own due A.size := fun q => by have := hd.own_lt q; omega
    have g7 : A4.get A.size = some (.cells [.int .i64 en, .int .i64 tag, .string text] false 0) := k3.get (e4.get (e3.get g2 hne.symm) (fun q => q)) o1
    have s3 : A.size ≤ A3.size := Nat.le_trans e2.size (Nat.le_trans e3.size e4.size)
    have o2 : ¬ Own (.slice a' (n + 1) c') b := fun q => by
      rcases k4 b q with q | q
      · exact hdb q
      · omega
    simp [k1, g6, hb4, hne.symm, g7]
    generalize hA5 : AHeap.set A4 b _ = A5
    obtain ⟨g8, e8, z8⟩ := set_facts hb4 hA5
    refine hq A5 (.slice a' (n + 1) c') (n + 1) _ (.inr ⟨ht, rfl, rfl⟩) g8 (k2.ext e8 (fun j hj q => o2 (q ▸ hj))) o2 ?_ ?_
    · exact (((e2.mono fun _ _ q => q.elim).trans (e3.mono fun _ _ q => .inl q)).trans (e4.mono fun _ _ q => q.elim)).trans ((k3.mono fun _ _ q => .inr q).trans (e8.mono fun _ _ q => .inl q))
    · intro j hj
      rcases k4 j hj with q | q
      · exact .inl q
      · exact .inr (by omega)
def c9a : ACode := (.ops [⟨some 5, none, .alloc 163 [.int .i64 (0), .int .i64 (0), .string ⟨⟨[]⟩⟩]⟩,
         ⟨none, none, .store 3 (.tmp 5) (.tmp 27)⟩])
def c9b : ACode := (.block 1
        (.ops [⟨some 28, none, .load1 (.tmp 4)⟩,
          ⟨some 29, none, .faddr 1 (.tmp 5)⟩,
          ⟨some 30, none, .load1 (.tmp 29)⟩,
          ⟨some 31, none, .bslice 3 1 [.int .i64 (0)] [(0, 1, (.tmp 30))]⟩,
          ⟨some 32, none, .append 3 1 8 (.tmp 28) (.tmp 31)⟩,
          ⟨none, none, .store 1 (.tmp 4) (.tmp 32)⟩]))

theorem ackyield_ok (l t d : Nat) (e : Env) (sv : Value) (k : Nat) (tags : List Int) (a g : Int) (x : ByteArray) (A : AHeap) (Q : Value → AHeap → Prop) (hl : A.get l = some (.loop .ready none 108 58 e [27] c9a c9b d)) (he : e.rd 4 = .pointer (some ⟨t, 0, none⟩)) (ht : A.get t = some (.cells [sv] false 0)) (hs : SliceAt A 1 sv k (ints tags)) (hk : k < 1000) (hlt : l ≠ t) (hol : ¬ Own sv l) (hot : ¬ Own sv t)
    (hq : ∀ A' sv', A'.get l = some (.loop .ready none 108 58 e [27] c9a c9b d) → A'.get t = some (.cells [sv'] false 0) → SliceAt A' 1 sv' (k + 1) (ints (tags ++ [g])) → Ext (fun j => j = t ∨ j = l ∨ Own sv j) A A' → (∀ j, Own sv' j → Own sv j ∨ A.size ≤ j) → Q (.bool true) A') :
    wF T (.func (.yield l) #[] #[]) [.agg ⟨[.int .i64 a, .int .i64 g, .string x]⟩] A Q := by
  have b1 := AHeap.get_lt hl
  have b2 := AHeap.get_lt ht
  have n1 : l ≠ A.size := by omega
  have n2 : t ≠ A.size := by omega
  refine wF_yield hl rfl (by decide) ?_
  dsimp only [c9a, c9b]; simp [midY, hl, b1, n1, n1.symm, he, ht, n2, n2.symm, hlt, hlt.symm]
  generalize hA3 : ((((A.alloc (.cells [.int .i64 0, .int .i64 0, .string ⟨⟨[]⟩⟩] false 0)).set A.size (.cells [.int .i64 a, .int .i64 g, .string x] false 0)).set l _).alloc (.cells [.int .i64 g] false 0)) = A3
  have z3 : A3.size = A.size + 2 := by rw [← hA3]; rfl
  have e3 : Ext (fun j => j = l) A A3 := ⟨by omega, fun j hj hs => by rw [← hA3]; simp [show j ≠ A.size by omega, show j ≠ A.size + 1 by omega, show ¬ j = l from hs]⟩
  have g1 : A3.get l = some (.loop .busy none 108 58 e [27] c9a c9b d) := by rw [← hA3]; simp [show l ≠ A.size + 1 by omega, show l < A.size + 1 by omega, c9a, c9b]
  have g2 : A3.get t = some (.cells [sv] false 0) := e3.get ht hlt.symm
  have g5 : A3.get (A.size + 1) = some (.cells [.int .i64 g] false 0) := by rw [← hA3]; simp
  have d3 : SliceAt A3 1 sv k (ints tags) := hs.ext e3 (fun j hj q => hol (q ▸ hj))
  obtain ⟨v', A4, k1, k2, k3, k4⟩ := d3.append (x := .slice (some ⟨A.size + 1, 0, none⟩) 1 1) (m := 1) (bytes := 8) (new := [.int .i64 g]) (by decide) rfl (by simp [firstA, rdCells, g5, ENDCAP]) (by simp [oneCell]) rfl (by omega) (by decide) (by simp [isStr])
  have g6 := k3.get g2 hot
  have g7 := k3.get g1 hol
  have b4 := AHeap.get_lt g6
  have b5 := AHeap.get_lt g7
  obtain ⟨a', c', hv'⟩ := k2.read.val
  subst hv'
  simp [k1, g6, g7, b4, b5, hlt, hlt.symm, endY, jumpOf, he]
  have s3 : A.size ≤ A3.size := by omega
  have o1 : ¬ Own (.slice a' (k + 1) c') t := fun q => by rcases k4 t q with q | q; exact hot q; omega
  have o2 : ¬ Own (.slice a' (k + 1) c') l := fun q => by rcases k4 l q with q | q; exact hol q; omega
  have f : Ext (fun j => j = t ∨ j = l) A4 ((A4.set t (.cells [.slice a' (k + 1) c'] false 0)).set l (.loop .ready none 108 58 e [27] c9a c9b d)) := (Ext.set (.inl rfl)).trans (Ext.set (.inr rfl))
  refine hq _ (.slice a' (k + 1) c') (by simp [b5]) (by simp [b4, hlt.symm]) (SliceAt.ext (by simpa [ints] using k2) f fun j hj q => ?_) (((e3.mono fun _ _ q => .inr (.inl q)).trans (k3.mono fun _ _ q => .inr (.inr q))).trans (f.mono fun _ _ q => q.imp id .inl)) fun j hj => (k4 j hj).imp id fun q => by omega
  rcases q with q | q
  · exact o1 (q ▸ hj)
  · exact o2 (q ▸ hj)

end Go.Proofs.Ytidgbapgedegbaa.Ou
