/- FlowEnds: the whole. -/
import Derived.Test.YtidgbapgedegbaaEd
import Derived.Test.YtidgbapgedegbaaYes
import Derived.KernelRfl
namespace Go.Proofs.Ytidgbapgedegbaa.Fw
open Go Go.AS Ou
set_option maxRecDepth 100000
set_option linter.unusedSimpArgs false
set_option linter.unusedVariables false
attribute [local irreducible] Trie.set Trie.get Env.rd
attribute [local simp] Nat.add_assoc wD_cons'' wD_nil' wC_seq wC_ops wC_opsD_nil wC_cond wC_skip wC_ret wC_exit wC_block wO_cons' wO_nil wantedA wV_eq lop qop ev wL_some wL_none wPut envOf rd_set rd_leaf eqA thenC blockC wB_true wB_false endF unwindA resultsA resA tupleA rdCell rdCells wrCells cl fillP lay rep binA unA get_set' AHeap.get_alloc oneCell beqd bned idxA

def strs (l : List ByteArray) : List Value := l.map .string
def EsI (A0 : AHeap) (n : Nat) (bx by_ : Nat) (pa pb : Nat) (fa fb : Fl) (lv : Value) (k : Nat) (st : St) : Prop := ∃ i all ps Sa Sb, i + k = 8 ∧ st.n = 272 ∧ st.dfs = [] ∧
  (st.env.rd 1 = lv ∧ st.env.rd 2 = .int .u8 (by_ : Nat) ∧ st.env.rd 3 = .pointer (some ⟨bx, 0, none⟩) ∧ st.env.rd 7 = .pointer (some ⟨pa, 0, none⟩) ∧ st.env.rd 8 = .pointer (some ⟨pb, 0, none⟩)) ∧
  st.env.rd 9 = .string ⟨⟨all⟩⟩ ∧ st.env.rd 10 = .int .i64 (i : Nat) ∧
  FlowAt st.A pa fa ps all.length 0 (some (inl0 2048)) Sa ∧ FlowAt st.A pb fb [] 0 0 (some (inl0 2048)) Sb ∧ (∀ j, Sa j → A0.size ≤ j) ∧ (∀ j, Sa j → ¬ Sb j) ∧ Ext NoB A0 st.A ∧ Chain 0 ps all ∧ all.length ≤ 40 * i ∧ ps.length ≤ i

theorem ends_ok (xa xb : Int) (ss : List ByteArray) (by_ : Nat) (hby : by_ < 256) (v : Value) (A : AHeap) (hxa : 0 ≤ xa ∧ xa < 4294967296) (hxb : 0 ≤ xb ∧ xb < 4294967296) (hs : ReadAt A 1 v ss.length (strs ss)) (hl : ∀ j, Own v j → j < A.size) :
    wF T (.func (.func 12) #[] #[]) [.agg ⟨[.int .u32 xa, .int .u32 xb]⟩, v, .int .u8 (by_ : Nat)] A (fun v _ => v = .bool true) := by
  refine wF_func (first := []) (captured := []) t12 ⟨rfl, by decide⟩ ?_
  dsimp only [c12]
  simp
  generalize hA1 : A.alloc _ = A1
  obtain ⟨g1, e1, z1⟩ := alloc_facts hA1
  refine yes_ok _ _ ?_
  have l1 := AHeap.get_lt g1
  simp [g1, l1]
  refine pair_ok 0 xa xb 2048 (by decide) (by decide) (by decide) (by decide) hxa hxb fun A2 pa pb fa fb Sa Sb ha hb e2 sa sb dj ua ub => ?_
  have g2 := e2.get g1 id
  simp
  have e12 := e1.trans e2
  obtain ⟨v1, v2, hv⟩ := hs.val
  subst hv
  refine wC_loop_inv (EsI A1 ss.length A.size by_ pa pb fa fb (.slice v1 ss.length v2)) ?_ 8 _ ⟨0, [], [], Sa, Sb, rfl, rfl, rfl, ⟨by simp, by simp, by simp, by simp, by simp⟩, by simp, by simp, ha, hb, sa, dj, e2, rfl, by simp, by simp⟩
  rintro k ⟨env', nn, dfs, A3⟩ ⟨i, all, ps, Sa, Sb, hk, s1, s2, ⟨q1, q2, q3, q7, q8⟩, q9, q10, ha, hb, hSa, dj, ex, ch, al, pl⟩
  simp only at s1 s2 q1 q2 q3 q7 q8 q9 q10 ha hb ex
  subst s1; subst s2
  have go : ∀ e : Env, e.rd 2 = .int .u8 (by_ : Nat) → e.rd 3 = .pointer (some ⟨A.size, 0, none⟩) → e.rd 7 = .pointer (some ⟨pa, 0, none⟩) → e.rd 8 = .pointer (some ⟨pb, 0, none⟩) → e.rd 9 = .string ⟨⟨all⟩⟩ → wC T 12 none c12p { env := e, n := 272, dfs := [], A := A3 } (endF [.inl 6] fun v _ => v = .bool true) := fun e z2 z3 z7 z8 z9 => ends_p all (by omega) A3 e by_ hby pa pb A.size xa xb _ _ _ _ fa fb ps Sa Sb ha hb ch (by omega) dj ua ub (ex.get g1 id) z2 z3 z7 z8 z9
  by_cases hi : i < ss.length
  case' neg =>
    simp [q1, q10, hi]
    exact go _ (by simp [q2]) (by simp [q3]) (by simp [q7]) (by simp [q8]) (by simp [q9])
  case' pos =>
    by_cases h8 : i < 8
    case' neg =>
      have h8' : ¬ (i : Int) < 8 := by omega
      simp [q1, q10, hi, h8']
      exact go _ (by simp [q2]) (by simp [q3]) (by simp [q7]) (by simp [q8]) (by simp [q9])
    case pos =>
      have h8' : (i : Int) < 8 := by omega
      obtain ⟨d1, p1, cc1, bs1, ro1, opn1, y1, y2, y3⟩ := (hs.ext (e1.trans ex) fun _ _ => id).cell hi
      have x1 : (strs ss)[i]? = some (.string ss[i]) := by simp [strs, hi]
      rw [x1] at y3
      cases y1
      obtain ⟨⟨⟨tl⟩⟩, htl⟩ : ∃ t, ss[i] = t := ⟨_, rfl⟩
      rw [htl] at y3
      have m1 : foldV minV (.int .i64 (tl.length : Int)) [.int .i64 40] = some (.int .i64 ((min tl.length 40 : Nat) : Int)) := by
        simp only [foldV, minV]; congr 2; omega
      have zs := sl_to tl .i64 (min tl.length 40) (by omega)
      simp [q1, q10, hi, h8', idxA, y2, y3, m1, zs]
      rw [q7]
      obtain ⟨tk, htk⟩ : ∃ t, tl.take (min tl.length 40) = t := ⟨_, rfl⟩
      have tk40 : tk.length ≤ 40 := by rw [← htk, List.length_take]; omega
      rw [htk]
      have w1 : IntKind.i64.wrap ((all.length : Int) + tk.length) = ((all ++ tk).length : Nat) := by rw [List.length_append, IntWalk.i64_in _ (by omega)]; omega
      have w2 : IntKind.i64.wrap ((i : Int) + 1) = ((i + 1 : Nat) : Int) := IntWalk.i64_in _ (by omega)
      refine push_ok' tk i ha ⟨by omega, by omega, by omega, by omega⟩ (fun q => by rw [ua.fin] at q; cases q) fun _ A4 Sa4 ha4 e4 hS4 => ?_
      rw [w1] at ha4
      have hb4 := hb.ext e4 fun j hj q => dj j q hj
      have mx : ¬ (9223372036854775807 : Int) < (all.length : Int) + tk.length := by omega
      have mx2 : ¬ 9223372036854775807 < all.length + tk.length := by omega
      simp [q9, q10, mx, mx2]
      refine ⟨k - 1, by omega, i + 1, all ++ tk, _, Sa4, Sb, by omega, rfl, rfl, ⟨by simp [q1], by simp [q2], by simp [q3], by simp [q7], by simp [q8]⟩, by simp, by simpa using w2, ha4, hb4, fun j hj => ?_, fun j hj q => ?_, ex.trans2 e4 fun j hj q => ?_, ?_, by rw [List.length_append]; omega, ?_⟩
      · rcases hS4 j hj with q | q
        · exact hSa j q
        · have := ex.size; omega
      · rcases hS4 j hj with z | z
        · exact dj j z q
        · have := hb.own q; omega
      · have := hSa j q; omega
      · split
        · rename_i q; subst q; simpa using ch
        · rename_i q
          have := Chain.snoc tk q i ps 0 all ch
          simpa using this
      · split
        · omega
        · simp; omega
end Go.Proofs.Ytidgbapgedegbaa.Fw
