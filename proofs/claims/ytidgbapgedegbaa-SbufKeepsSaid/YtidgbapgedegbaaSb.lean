/- Sorting spans: the insertion sort. -/
import Derived.Test.YtidgbapgedegbaaKa
import Derived.Test.YtidgbapgedegbaaAsZH
import Derived.KernelRfl
namespace Go.Proofs.Ytidgbapgedegbaa
open Go Go.AS
set_option maxRecDepth 100000
set_option linter.unusedSimpArgs false
set_option linter.unusedVariables false
theorem beqd (a b : Int) : (a == b) = decide (a = b) := by
  rw [Bool.eq_iff_iff]; simp
theorem bned (a b : Int) : (a != b) = !decide (a = b) := by
  rw [bne, beqd]
attribute [local irreducible] Trie.set Trie.get Env.rd
attribute [local simp] Nat.add_assoc wD_cons'' wD_nil' wC_seq wC_ops wC_opsD_nil wC_cond wC_skip wC_ret wC_exit wC_block wO_cons' wO_nil wantedA wV_eq lop qop ev wL_some wL_none wPut envOf rd_set rd_leaf eqA thenC blockC wB_true wB_false endF unwindA resultsA resA tupleA rdCell cl fillP rep binA unA get_set' AHeap.get_alloc oneCell beqd bned idxA

abbrev Spn := Int × Int
def spn (s : Spn) : List Value := [.int .i64 s.1, .int .i64 s.2]
theorem spnz (s : Spn) : (spn s).length = 2 := rfl
theorem spno (s : Spn) : (spn s).all oneCell = true := rfl
def SOk (s : Spn) : Prop := -4611686018427387904 ≤ s.1 ∧ s.1 < 4611686018427387904
def cmpv : Value := .func (.func 61) #[] #[]

theorem cmp_ok (x y : Spn) (hx : SOk x) (hy : SOk y) (A : AHeap) (Q : Value → AHeap → Prop) (hq : ∀ A', Ext NoB A A' → Q (.int .i64 (x.1 - y.1)) A') : wF T cmpv [.agg ⟨spn x⟩, .agg ⟨spn y⟩] A Q := by
  refine wF_func (first := []) (captured := []) t61 ⟨rfl, by decide⟩ ?_
  dsimp only [c61]
  obtain ⟨h1, h2⟩ := hx
  obtain ⟨h3, h4⟩ := hy
  have w : IntKind.i64.wrap (x.1 - y.1) = x.1 - y.1 := IntWalk.i64_in _ (by omega)
  simp [spn, w]
  exact hq _ ((Ext.alloc).trans Ext.alloc)

def Srt (l : List Spn) : Prop := l.Pairwise fun x y => x.1 ≤ y.1

def IOut (d o c n bl opn : Nat) (p m s : List Spn) (A0 : AHeap) (k : Nat) (st : St) : Prop := ∃ u w, k = w.length ∧ st.n = 53 ∧ st.dfs = [] ∧ st.env.rd 0 = .slice (some ⟨d, o, none⟩) n c ∧ st.env.rd 1 = .int .i64 (p.length : Nat) ∧ st.env.rd 2 = .int .i64 ((p.length + m.length : Nat) : Int) ∧ st.env.rd 3 = cmpv ∧ st.env.rd 8 = .int .i64 ((p.length + u.length : Nat) : Int) ∧
  (u ++ w).Perm m ∧ Srt u ∧ DataAt spn st.A d o bl opn (p ++ (u ++ (w ++ s))) ∧ Ext (fun j => j = d) A0 st.A

def IIn (d o c n bl opn : Nat) (p m s u : List Spn) (x : Spn) (w : List Spn) (A0 : AHeap) (k : Nat) (st : St) : Prop := ∃ u1 w1, k = u1.length ∧ st.n = 53 ∧ st.dfs = [] ∧ st.env.rd 0 = .slice (some ⟨d, o, none⟩) n c ∧ st.env.rd 1 = .int .i64 (p.length : Nat) ∧ st.env.rd 2 = .int .i64 ((p.length + m.length : Nat) : Int) ∧ st.env.rd 3 = cmpv ∧ st.env.rd 8 = .int .i64 ((p.length + u.length : Nat) : Int) ∧ st.env.rd 9 = .int .i64 ((p.length + u1.length : Nat) : Int) ∧
  u1 ++ w1 = u ∧ (∀ y ∈ w1, x.1 ≤ y.1) ∧ DataAt spn st.A d o bl opn (p ++ (u1 ++ (x :: (w1 ++ (w ++ s))))) ∧ Ext (fun j => j = d) A0 st.A

theorem isort_ok (d o c n bl opn : Nat) (p m s : List Spn) (A : AHeap) (Q : Value → AHeap → Prop) (hn : n = (p ++ (m ++ s)).length) (hsm : n < 1000000) (h : DataAt spn A d o bl opn (p ++ (m ++ s))) (hok : ∀ x ∈ m, SOk x)
    (hq : ∀ A' m' w, m'.Perm m → Srt m' → DataAt spn A' d o bl opn (p ++ (m' ++ s)) → Ext (fun j => j = d) A A' → Q w A') :
    wF T (.func (.func 138) #[] #[]) [.slice (some ⟨d, o, none⟩) n c, .int .i64 (p.length : Nat), .int .i64 ((p.length + m.length : Nat) : Int), cmpv] A Q := by
  have hnl : n = p.length + (m.length + s.length) := by rw [hn]; simp
  refine wF_func (first := []) (captured := []) t138 ⟨rfl, by decide⟩ ?_
  dsimp only [c138]
  have ws : IntKind.i64.wrap ((p.length : Int) + 1) = ((p.length + 1 : Nat) : Int) := by rw [IntWalk.i64_in _ (by omega)]; omega
  cases m with
  | nil =>
    simp [ws]
    refine wC_loop ?_
    have g : ¬ ((p.length : Int) + 1 < (p.length : Int)) := by omega
    simp [g]
    exact hq _ [] _ .rfl .nil h Ext.refl
  | cons x0 m0 =>
    simp [ws]
    refine wC_loop_inv (IOut d o c n bl opn p (x0 :: m0) s A) ?_ m0.length _ ⟨[x0], m0, rfl, rfl, rfl, by simp, by simp, by simp, by simp, by simp, .rfl, List.pairwise_singleton _ _, by simpa using h, Ext.refl⟩
    rintro k ⟨env, nn, dfs, A1⟩ ⟨u, w, k0, k1, k2, r0, r1, r2, r3, r8, pm, su, dat, ext⟩
    simp only at k1 k2 r0 r1 r2 r3 r8 dat ext
    subst k1; subst k2; subst k0
    have pl := pm.length_eq
    simp only [List.length_append] at pl
    cases w with
    | nil =>
      have g : ¬ ((p.length : Int) + (u.length : Int) < (p.length : Int) + ((x0 :: m0).length : Int)) := by simp only [List.length_nil] at pl; omega
      simp only [List.length_cons] at g
      simp [r0, r1, r2, r3, r8]
      simp at g
      simp [show ¬ ((u.length : Int) < (m0.length : Int) + 1) by omega]
      refine hq _ u _ (by simpa using pm) su (by simpa using dat) ext
    | cons x w =>
      have xin : SOk x := hok x (pm.subset (by simp))
      have g : (u.length : Int) < (m0.length : Int) + 1 := by simp only [List.length_cons] at pl; omega
      simp [r0, r1, r2, r3, r8, g]
      refine wC_loop_inv (IIn d o c n bl opn p (x0 :: m0) s u x w A) ?_ u.length _ ⟨u, [], rfl, rfl, rfl, by simp [r0], by simp [r1], by simp [r2], by simp [r3], by simp [r8], by simp, by simp, by simp, by simpa using dat, ext⟩
      clear dat ext r0 r1 r2 r3 r8
      rintro k ⟨env, nn, dfs, A2⟩ ⟨u1, w1, k0, k1, k2, r0, r1, r2, r3, r8, r9, hu, hw, dat, ext⟩
      simp only at k1 k2 r0 r1 r2 r3 r8 r9 dat ext
      subst k1; subst k2; subst k0; subst hu
      have fin : ∀ (e : Env), Srt (u1 ++ x :: w1) → e.rd 0 = .slice (some ⟨d, o, none⟩) n c → e.rd 1 = .int .i64 (p.length : Nat) → e.rd 2 = .int .i64 ((p.length + (x0 :: m0).length : Nat) : Int) → e.rd 3 = cmpv → ∀ z, e.rd 8 = .int .i64 (IntKind.i64.wrap z) → z = ((p.length + (u1 ++ w1).length + 1 : Nat) : Int) → ∀ A3, DataAt spn A3 d o bl opn (p ++ (u1 ++ (x :: (w1 ++ (w ++ s))))) → Ext (fun j => j = d) A A3 →
          ∃ m', m' < (x :: w).length ∧ IOut d o c n bl opn p (x0 :: m0) s A m' { env := e, n := 53, dfs := [], A := A3 } := by
        intro e hs e0 e1 e2 e3 z e8 ez A3 dt ex
        refine ⟨w.length, by simp, u1 ++ x :: w1, w, rfl, rfl, rfl, e0, e1, e2, e3, ?_, ?_, hs, by simpa using dt, ex⟩
        · rw [e8, IntWalk.i64_in _ (by simp only [List.length_append, List.length_cons] at pl ez hnl; omega), ez]; congr 1; simp only [List.length_append, List.length_cons]; omega
        · refine List.Perm.trans ?_ pm
          simp only [List.append_assoc]
          exact List.Perm.append_left _ (by simpa using List.perm_middle.symm)
      rcases List.eq_nil_or_concat u1 with q | ⟨u2, y, q⟩
      · subst q
        have g : ¬ ((p.length : Int) + ((([] : List Spn).length : Nat) : Int) > (p.length : Int)) := by simp
        simp [r0, r1, r2, r3, r8, r9]
        refine fin _ ?_ (by simp [r0]) (by simp [r1]) (by simp [r2]) (by simp [r3]) _ (by simp; rfl) (by simp; omega) _ (by simpa using dat) ext
        exact List.pairwise_cons.2 ⟨hw, show Srt w1 by simpa using su⟩
      · rw [List.concat_eq_append] at q
        subst q
        have yin : SOk y := hok y (pm.subset (by simp))
        have j1 : (p ++ u2).length = p.length + u2.length := List.length_append
        have d1 : DataAt spn A2 d o bl opn ((p ++ u2) ++ y :: (x :: (w1 ++ (w ++ s)))) := by simpa using dat
        have d2 : DataAt spn A2 d o bl opn ((p ++ u2 ++ [y]) ++ x :: (w1 ++ (w ++ s))) := by simpa using dat
        have l1 := d1.get spnz (i := p.length + u2.length) (by simp)
        have l2 := d2.get spnz (i := p.length + (u2.length + 1)) (by simp)
        have bnd1 : p.length + (u2.length + 1) < n := by
          simp only [List.length_append, List.length_cons, List.length_nil] at pl hnl
          omega
        have bnd0 : p.length + u2.length < n := by omega
        have w2 : IntKind.i64.wrap ((p.length : Int) + ((u2.length : Int) + 1) - 1) = ((p.length + u2.length : Nat) : Int) := by rw [IntWalk.i64_in _ (by omega)]; omega
        have t1 : ((p.length : Int) + ((u2.length : Int) + 1)).toNat = p.length + (u2.length + 1) := by omega
        have t0 : ((p.length : Int) + (u2.length : Int)).toNat = p.length + u2.length := by omega
        have b1 : (0 : Int) ≤ (p.length : Int) + ((u2.length : Int) + 1) := by omega
        have b2 : (p.length : Int) + ((u2.length : Int) + 1) < (n : Int) := by omega
        have b3 : (0 : Int) ≤ (p.length : Int) + (u2.length : Int) := by omega
        have b4 : (p.length : Int) + (u2.length : Int) < (n : Int) := by omega
        have b5 : (p.length : Int) < (p.length : Int) + ((u2.length : Int) + 1) := by omega
        simp [r0, r1, r2, r3, r8, r9, w2, b1, b2, b3, b4, b5, t1, t0, l1, l2]
        refine cmp_ok x y xin yin A2 _ fun A3 e3 => ?_
        by_cases hlt : x.1 < y.1
        · have d1 := d1.ext e3 id
          have d2 := d2.ext e3 id
          have l1 := d1.get spnz (i := p.length + u2.length) (by simp)
          have l2 := d2.get spnz (i := p.length + (u2.length + 1)) (by simp)
          obtain ⟨A4, s1, d3, e4, z4⟩ := d2.put spnz spno (i := p.length + (u2.length + 1)) (by simp) y
          have d4 : DataAt spn A4 d o bl opn ((p ++ u2) ++ y :: (y :: (w1 ++ (w ++ s)))) := by simpa using d3
          obtain ⟨A5, s2, d5, e5, z5⟩ := d4.put spnz spno (i := p.length + u2.length) (by simp) x
          have g : x.1 - y.1 < 0 := by omega
          simp [r0, r1, r2, r3, r8, r9, g, w2, b1, b2, b3, b4, b5, t1, t0, l1, l2]
          simp [s1, s2, z4, z5, r0, r9, b1, b2, b3, b4, w2, t0, t1, spnz]
          refine ⟨u2.length, by simp, u2, y :: w1, rfl, rfl, rfl, by simp [r0], by simp [r1], by simp [r2], by simp [r3], by simp [r8], by simp [w2], by simp, ?_, by simpa using d5, (ext.trans (e3.mono fun _ _ q => q.elim)).trans (e4.trans e5)⟩
          intro y' hy'
          rcases List.mem_cons.1 hy' with q | q
          · subst q; omega
          · exact hw y' q
        · have g : ¬ (x.1 - y.1 < 0) := by omega
          simp [r0, r1, r2, r3, r8, r9, g]
          refine fin _ ?_ (by simp [r0]) (by simp [r1]) (by simp [r2]) (by simp [r3]) _ (by simp; rfl) (by simp; omega) _ (dat.ext e3 id) (ext.trans (e3.mono fun _ _ q => q.elim))
          have su' := List.pairwise_append.1 su
          have su2 := List.pairwise_append.1 su'.1
          refine List.pairwise_append.2 ⟨su'.1, List.pairwise_cons.2 ⟨hw, su'.2.1⟩, fun a ha b hb => ?_⟩
          rcases List.mem_cons.1 hb with q | q
          · subst q
            rcases List.mem_append.1 ha with k | k
            · have := su2.2.2 a k y (by simp); omega
            · rw [List.mem_singleton] at k; subst k; omega
          · exact su'.2.2 a ha b q
end Go.Proofs.Ytidgbapgedegbaa
