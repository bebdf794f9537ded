/- SchedAgain of stage 25: the law. -/
import Derived.Test.YtbhhmnokddkhmaaTh
import Derived.Test.YtbhhmnokddkhmaaAsZG
import Derived.KernelRfl
namespace Go.Proofs.Ytbhhmnokddkhmaa
open Go Go.AS
set_option maxRecDepth 100000
set_option linter.unusedSimpArgs false
set_option linter.unusedVariables false
attribute [local irreducible] Trie.set Trie.get Env.rd
attribute [local simp] Nat.add_assoc wD_cons'' wD_nil' wC_seq wC_ops wC_opsD_nil wC_cond wC_skip wC_ret wC_exit wC_block wO_cons' wO_nil wantedA wV_eq lop qop ev wL_some wL_none wPut envOf rd_set rd_leaf eqA thenC blockC wB_true wB_false endF unwindA resultsA resA tupleA rdCell rdCells wrCells cl fillP lay rep binA unA get_set' AHeap.get_alloc oneCell

def KI (A0 : AHeap) (L : List La) (cb : List Bool) (ago limit : Int) (lv bv : Value) (m : Nat) (st : St) : Prop := ∃ i wv, m + i = L.length ∧ st.n = 126 ∧ st.dfs = [] ∧ st.env.rd 0 = lv ∧ st.env.rd 1 = bv ∧ st.env.rd 2 = .int .i64 ago ∧ st.env.rd 3 = .int .i64 limit ∧ st.env.rd 9 = wv ∧ st.env.rd 10 = .bool (alv L cb i) ∧ st.env.rd 11 = .int .i64 (i : Nat) ∧ Ext NoB A0 st.A ∧ SliceAt st.A 4 lv L.length (lcells (pth L i)) ∧ SliceAt st.A 1 wv (crow cb i).length (ints (crow cb i)) ∧ (∀ j, Own wv j → A0.size ≤ j ∧ ¬ Own lv j)

theorem again_law (ls : List La) (cb : List Bool) (ago limit : Int) (lv bv : Value) (A0 : AHeap) (h : ReadAt A0 4 lv ls.length (lcells ls)) (hv : ArgV lv ls.length) (hb : ReadAt A0 1 bv cb.length (cb.map .bool)) (hbo : ∀ j, Own bv j → j < A0.size) : wF T (.func (.func 4) #[] #[]) [lv, bv, .int .i64 ago, .int .i64 limit] A0 (fun v _ => v = .bool true) := by
  have m1 : ∃ z : Nat, z ≤ ls.length ∧ z ≤ 20 ∧ (if (20 : Int) < ls.length then 20 else (ls.length : Int)) = (z : Int) := by
    split
    · exact ⟨20, by omega, by omega, rfl⟩
    · exact ⟨ls.length, by omega, by omega, rfl⟩
  obtain ⟨z, z0, z1, z3⟩ := m1
  obtain ⟨v', f1, f2, f3⟩ := hv.front (k2 := .i64) (h.ext (S := NoB) (A' := A0.alloc (.cells [] false 0)) Ext.alloc fun _ _ q => q) z0
  have fl : (ls.take z).length = z := by rw [List.length_take]; omega
  rw [lcells_take] at f2
  obtain ⟨a2, c2, A2, g1, g2, g3, g4⟩ := copyL A0 v' (ls.take z) (by rw [fl]; exact f2) (by omega)
  generalize ls.take z = L at *
  subst fl
  obtain ⟨a1, c1, rfl⟩ := h.val
  obtain ⟨ab, cb', rfl⟩ := hb.val
  refine wF_func (first := []) (captured := []) t4 ⟨rfl, by decide⟩ ?_
  dsimp only [c4]; simp
  refine yes_ok _ _ ?_
  simp [foldV, minV, z3, f1, g1]
  refine wC_loop_inv (KI A0 L cb ago limit (.slice a2 L.length c2) (.slice ab cb.length cb')) ?_ L.length _ ⟨0, .slice none 0 0, by omega, rfl, rfl, by simp, by simp, by simp, by simp, by simp, by simp [alv], by simp, g3, by rw [pth_zero]; exact g2, by simpa [crow, ints] using SliceAt.nil, fun j ⟨_, _, _, q⟩ => by cases q⟩
  rintro m ⟨env, nn, dfs, A⟩ ⟨i, wv, k0, k1, k2, r0, r1, r2, r3, r9, r10, r11, e1, s1, s2, ow⟩
  simp only at k1 k2 r0 r1 r2 r3 r9 r10 r11 e1 s1 s2
  subst k1; subst k2
  have cl := crow_len cb i
  by_cases hi : i < L.length
  · obtain ⟨d, o, c, bs, opn, q1, q2, q3, q4, q5⟩ := cellsOf s1 (by omega)
    cases q1
    have hip : i < (pth L i).length := by rw [pth_len]; exact hi
    have qe : (bs.drop (o + i * 4)).take 4 = [.int .i64 (at0 L i).path, .bool (at0 L i).up, .bool (at0 L i).backup, .int .i64 (at0 L i).flight] := by
      rw [show at0 L i = (pth L i)[i] by rw [pth_get, if_neg (by omega)], ← lcells_at (pth L i) i hip, q4, List.drop_take, List.take_take, List.drop_drop]
      congr 1; omega
    have q6 := lcells_set (pth L i) i hip (2 * (i : Int))
    rw [pth_succ] at q6
    obtain ⟨b0, b1, b2, b3⟩ := take4 qe
    rw [Nat.add_assoc] at b1 b2 b3
    have q7 := q5 (i * 4) (.int .i64 (2 * (i : Int))) (by omega)
    rw [q6] at q7
    have q8 : o + (i * 4 + 1) ≤ bs.length := by omega
    have c1' : (bs.set (o + i * 4) (.int .i64 (2 * (i : Int))))[o + (i * 4 + 1)]? = some (.bool (at0 L i).up) := by rw [List.getElem?_set_ne (by omega)]; exact b1
    have zd := AHeap.get_lt q2
    have od : A0.size ≤ d := g4 d ⟨o, _, _, rfl⟩
    have ws := wrap_succ i (by omega)
    have w2 : IntKind.i64.wrap (2 * (i : Int)) = 2 * (i : Int) := IntWalk.i64_in _ (by omega)
    have cs := crow_succ cb i
    have av := alv_succ L cb i
    have eA : Ext (fun j => j = d) A (A.set d (.cells (bs.set (o + i * 4) (.int .i64 (2 * (i : Int)))) false opn)) := Ext.set rfl
    have gA : (A.set d (.cells (bs.set (o + i * 4) (.int .i64 (2 * (i : Int)))) false opn)).get d = some (.cells (bs.set (o + i * 4) (.int .i64 (2 * (i : Int)))) false opn) := by simp [zd]
    have bd : ∀ j, Own (.slice ab cb.length cb') j → ¬ j = d := fun j hj => by have := hbo j hj; omega
    have wd : ∀ j, Own wv j → ¬ j = d := fun j hj q => (ow j hj).2 ⟨o, L.length, c2, by rw [q]⟩
    have hb1 := (hb.ext e1 fun _ _ q => q).ext eA bd
    have s2' := s2.ext eA wd
    have e2 : Ext NoB A0 (A.set d (.cells (bs.set (o + i * 4) (.int .i64 (2 * (i : Int)))) false opn)) := e1.trans2 eA fun j hj q => by omega
    have zH : A.size = (A.set d (.cells (bs.set (o + i * 4) (.int .i64 (2 * (i : Int)))) false opn)).size := rfl
    simp [r0, r1, r2, r3, r9, r10, r11, hi, idxA, w2, q2, q8, zd]
    generalize A.set d (.cells (bs.set (o + i * 4) (.int .i64 (2 * (i : Int)))) false opn) = H at *
    generalize bs.set (o + i * 4) (.int .i64 (2 * (i : Int))) = bs' at *
    have carry : (i < cb.length ∧ ∃ d o c bs ro opn, (.slice ab cb.length cb' : Value) = .slice (some ⟨d, o, none⟩) cb.length c ∧ H.get d = some (.cells bs ro opn) ∧ bs[o + i]? = some (.bool (cb.getD i false))) ∨ (¬ i < cb.length ∧ cb.getD i false = false) := by
      by_cases hc : i < cb.length
      · exact .inl ⟨hc, bcell hb1 hc⟩
      · exact .inr ⟨hc, by rw [List.getD_eq_getElem?_getD, List.getElem?_eq_none (by omega)]; rfl⟩
    generalize hC : cb.getD i false = cc at carry cs av
    generalize alv L cb i = V at *
    have hd : A.size = H.size ∧ H.get d = some (.cells bs' false opn) := ⟨zH, gA⟩
    have fin : ∀ (env' : Env) (H' : AHeap) (wv' : Value) (W : Bool), W = alv L cb (i + 1) → Env.rd env' 0 = .slice (some ⟨d, o, none⟩) L.length c2 → Env.rd env' 1 = .slice ab cb.length cb' → Env.rd env' 2 = .int .i64 ago → Env.rd env' 3 = .int .i64 limit → Env.rd env' 9 = wv' → Env.rd env' 10 = .bool W → Env.rd env' 11 = .int .i64 ((i + 1 : Nat) : Int) → Ext (Own wv) H H' → SliceAt H' 1 wv' (crow cb (i + 1)).length (ints (crow cb (i + 1))) → (∀ j, Own wv' j → Own wv j ∨ H.size ≤ j) → ∃ m', m' < m ∧ KI A0 L cb ago limit (.slice (some ⟨d, o, none⟩) L.length c2) (.slice ab cb.length cb') m' ⟨env', 126, [], H'⟩ := by
      intro env' H' wv' W hW t0 t1 t2 t3 t9 t10 t11 eH sH oH
      refine ⟨m - 1, by omega, i + 1, wv', by omega, rfl, rfl, t0, t1, t2, t3, t9, by rw [t10, hW], t11, e2.trans2 eH fun j hj q => by have := (ow j q).1; omega, q7.ext eH fun j hj q => (ow j q).2 hj, sH, fun j hj => ?_⟩
      rcases oH j hj with q | q
      · exact ow j q
      · exact ⟨by have := e2.size; omega, fun ⟨o', n', c', e⟩ => by cases e; have := AHeap.get_lt gA; omega⟩
    have skip : ∀ env' : Env, cc = false → Env.rd env' 0 = .slice (some ⟨d, o, none⟩) L.length c2 → Env.rd env' 1 = .slice ab cb.length cb' → Env.rd env' 2 = .int .i64 ago → Env.rd env' 3 = .int .i64 limit → Env.rd env' 9 = wv → Env.rd env' 10 = .bool V → Env.rd env' 11 = .int .i64 ((i + 1 : Nat) : Int) → ∃ m', m' < m ∧ KI A0 L cb ago limit (.slice (some ⟨d, o, none⟩) L.length c2) (.slice ab cb.length cb') m' ⟨env', 126, [], H⟩ := by
      intro env' hcc t0 t1 t2 t3 t9 t10 t11
      refine fin env' H wv V (by rw [av, hcc]; simp) t0 t1 t2 t3 t9 t10 t11 Ext.refl (by rw [cs, hcc]; exact s2') fun j hj => .inl hj
    rcases carry with ⟨hc, db, ob, cx, bb, rb, opb, p1, p2, p3⟩ | ⟨hc, hcc⟩
    · cases p1
      cases cc
      · simp [r0, r1, r2, r3, r9, r10, r11, hi, hc, idxA, p2, p3, undef]
        refine skip _ rfl ?_ ?_ ?_ ?_ ?_ ?_ ?_ <;> simp [r0, r1, r2, r3, r9, r10, r11, ws]
      · obtain ⟨a', c', H', y1, y2, y3, y4⟩ := app1 H wv (crow cb i) (2 * (i : Int)) s2' (by omega)
        have gd := y3.get gA fun q => (ow d q).2 ⟨o, _, _, rfl⟩
        rw [if_pos rfl] at cs
        obtain ⟨aw, cw, rfl⟩ := s2'.read.val
        cases V
        · simp [r0, r1, r2, r3, r9, r10, r11, hi, hc, idxA, p2, p3, w2, y1, gd, c1', undef]
          refine fin _ H' (.slice a' ((crow cb i).length + 1) c') ((at0 L i).up) (by rw [av]; simp) ?_ ?_ ?_ ?_ ?_ ?_ ?_ y3 (by rw [cs]; simpa using y2) y4 <;> simp [r0, r1, r2, r3, r9, r10, r11, ws]
        · simp [r0, r1, r2, r3, r9, r10, r11, hi, hc, idxA, p2, p3, w2, y1, undef]
          refine fin _ H' (.slice a' ((crow cb i).length + 1) c') (true) (by rw [av]; simp) ?_ ?_ ?_ ?_ ?_ ?_ ?_ y3 (by rw [cs]; simpa using y2) y4 <;> simp [r0, r1, r2, r3, r9, r10, r11, ws]
    · simp [r0, r1, r2, r3, r9, r10, r11, hi, hc, idxA, undef]
      refine skip _ hcc ?_ ?_ ?_ ?_ ?_ ?_ ?_ <;> simp [r0, r1, r2, r3, r9, r10, r11, ws]
  · have hie : i = L.length := by omega
    subst hie
    simp [r0, r1, r2, r3, r9, r10, r11]
    exact l2_ok L cb ago limit a2 ab c2 cb' wv ⟨_, 126, [], A⟩ rfl rfl (by simp [r0]) (by simp [r1]) (by simp [r2]) (by simp [r3]) (by simp [r9]) (by simp [r10]) z1 s1.read (hb.ext e1 fun _ _ q => q) s2.read (fun j hj => s1.own_lt hj) (fun j hj => s2.own_lt hj)
end Go.Proofs.Ytbhhmnokddkhmaa
