/- SchedBest of stage 25: the law. -/
import Derived.Test.YtbhhmnokddkhmaaSg
import Derived.Test.YtbhhmnokddkhmaaAsZG
import Derived.KernelRfl
namespace Go.Proofs.Ytbhhmnokddkhmaa
open Go Go.AS
set_option maxRecDepth 100000
set_option linter.unusedSimpArgs false
set_option linter.unusedVariables false
attribute [local irreducible] Trie.set Trie.get Env.rd
attribute [local simp] Nat.add_assoc wD_cons'' wD_nil' wC_seq wC_ops wC_opsD_nil wC_cond wC_skip wC_ret wC_exit wC_block wO_cons' wO_nil wantedA wV_eq lop qop ev wL_some wL_none wPut envOf rd_set rd_leaf eqA thenC blockC wB_true wB_false endF unwindA resultsA resA tupleA rdCell rdCells wrCells cl fillP lay rep binA unA get_set' AHeap.get_alloc oneCell

theorem t_ok (st : St) (a : Option Addr) (z c : Nat) (limit : Int) (f : Bool) (cur : List La) (n0 : st.n = 158) (n1 : st.dfs = []) (r0 : st.env.rd 0 = .slice a z c) (r1 : st.env.rd 1 = .int .i64 limit) (r5 : st.env.rd 5 = .bool f) (hz : cur.length = z) (hz2 : z ≤ 20)
    (hs : SliceAt st.A 4 (.slice a z c) z (lcells cur)) (hf : f = first limit cur) (hp : ∀ (i : Nat) (hi : i < cur.length), cur[i].path = (i : Int)) : wC T 3 none c3t st Yes := by
  obtain ⟨env, nn, dfs, A⟩ := st
  simp only at n0 n1 r0 r1 r5 hs
  subst n0; subst n1
  have hs' := hs
  rw [← hz] at hs'
  unfold c3t
  simp [r0, r1]
  rw [← hz]
  refine pick_ok cur limit _ A _ hs'.read (fun j hj => hs'.own_lt hj) (by omega) fun A1 e1 => ?_
  have hs1 := hs.ext e1 fun _ _ q => q
  have hk := pick_pk limit cur hp
  generalize pickR limit cur = r at hk
  rw [hz]
  rcases id hk with ⟨hr1, hr2⟩ | ⟨j, hj, hr1, hm, hr2⟩
  · have g1 : ¬ (z : Int) ≤ -1 := by omega
    simp [r0, r1, r5, hr1, g1, undef]
    rw [hr1] at hk
    exact w_ok ⟨_, 158, [], A1⟩ a z c limit (-1) f cur rfl rfl (by simp [r0]) (by simp [r1]) (by simp [r5]) (by simp) hz hz2 hs1 hf hk
  · obtain ⟨u1, u2, u3⟩ := may_true hf hm
    have hjz : j < z := by omega
    obtain ⟨d, o, cc, bs, ro, opn, q1, q2, q3, q4⟩ := hs1.read.elem2 hjz
    cases q1
    rw [lcells_at cur j hj] at q4
    obtain ⟨b0, b1, b2, b3⟩ := take4 q4
    rw [Nat.add_assoc] at b1 b2 b3
    rw [u1] at b1
    subst hr1
    have g1 : ¬ (j : Int) < -1 := by omega
    have g2 : ¬ (z : Int) ≤ (j : Int) := by omega
    have g3 : (0 : Int) ≤ (j : Int) := by omega
    have g4 : ¬ limit ≤ cur[j].flight := by omega
    rcases u3 with u3 | ⟨u3, u4⟩
    · rw [u3] at r5 hf
      simp [r0, r1, r5, g1, g2, g3, g4, hjz, idxA, q2, b1, b2, b3, undef]
      exact w_ok ⟨_, 158, [], A1⟩ _ z c limit (j : Int) false cur rfl rfl (by simp [r0]) (by simp [r1]) (by simp [r5]) (by simp) hz hz2 hs1 hf hk
    · rw [u3] at r5 hf
      rw [u4] at b2
      simp [r0, r1, r5, g1, g2, g3, g4, hjz, idxA, q2, b1, b2, b3, undef]
      exact w_ok ⟨_, 158, [], A1⟩ _ z c limit (j : Int) true cur rfl rfl (by simp [r0]) (by simp [r1]) (by simp [r5]) (by simp) hz hz2 hs1 hf hk

/-- A slice's cells, to be written. -/
theorem cellsOf {A : AHeap} {sz n : Nat} {v : Value} {cs : List Value} (h : SliceAt A sz v n cs) (hn : 0 < n) :
    ∃ d o c bs opn, v = .slice (some ⟨d, o, none⟩) n c ∧ A.get d = some (.cells bs false opn) ∧ o + n * sz ≤ bs.length ∧ cs = (bs.drop o).take (n * sz) ∧
      ∀ (q : Nat) (x : Value), q < n * sz → SliceAt (A.set d (.cells (bs.set (o + q) x) false opn)) sz v n (cs.set q x) := by
  rcases h with ⟨_, h2, _⟩ | ⟨d, o, c, bs, opn, h1, h2, h3, h4, h5⟩
  · omega
  · refine ⟨d, o, c, bs, opn, h1, h2, h3, h4, fun q x hq => ?_⟩
    refine .inr ⟨d, o, c, bs.set (o + q) x, opn, h1, ?_, ?_, ?_, ?_⟩
    · rw [get_set', if_pos rfl, if_pos (AHeap.get_lt h2)]
    · rw [List.length_set]; exact h3
    · rw [h4, ← List.set_drop, List.take_set]
    · rw [List.length_set]; exact h5

/-- A row copied. -/
theorem copyL (A : AHeap) (x : Value) (l : List La) (hx' : ReadAt (A.alloc (.cells [] false 0)) 4 x l.length (lcells l)) (hn : l.length < 1000000) :
    ∃ a c A', appA (A.alloc (.cells [] false 0)) 4 24 (.slice (some ⟨A.size, 0, none⟩) 0 0) x = some (.slice a l.length c, A') ∧ SliceAt A' 4 (.slice a l.length c) l.length (lcells l) ∧ Ext NoB A A' ∧ ∀ j, Own (.slice a l.length c) j → A.size ≤ j := by
  have e : Ext NoB A (A.alloc (.cells [] false 0)) := Ext.alloc
  have hf := hx'.firstA (Nat.le_refl _)
  rw [List.take_of_length_le (by rw [hx'.length]; omega)] at hf
  have s0 : SliceAt (A.alloc (.cells [] false 0)) 4 (.slice (some ⟨A.size, 0, none⟩) 0 0) 0 [] := .inr ⟨A.size, 0, 0, [], 0, rfl, by rw [AHeap.get_alloc, if_pos rfl], by simp, by simp, .inr (.inl ⟨rfl, by decide⟩)⟩
  obtain ⟨v', A', k1, k2, k3, k4⟩ := s0.append (x := x) (m := l.length) (bytes := 24) (new := lcells l) (by decide) hx'.lenA hf (lcells_one l) (lcells_len l) (by omega) (by decide) (by obtain ⟨a, c, rfl⟩ := hx'.val; simp [isStr])
  obtain ⟨a', c', hv⟩ := k2.read.val
  subst hv
  rw [Nat.zero_add] at k1 k2 k4
  refine ⟨a', c', A', k1, by simpa using k2, e.trans2 (S' := Own (.slice (some ⟨A.size, 0, none⟩) 0 0)) k3 ?_, fun j hj => ?_⟩
  · rintro j hj ⟨o, n, c, q⟩; cases q; omega
  · rcases k4 j hj with ⟨o, n, c, q⟩ | q
    · cases q; exact Nat.le_refl _
    · simp at q; omega

def p1 (limit : Int) (x : La) : Bool := x.up && !x.backup && decide (x.flight < limit)

def JI (A0 : AHeap) (lv : Value) (z : Nat) (limit : Int) (m : Nat) (st : St) : Prop := ∃ i cur, m + i = z ∧ st.n = 158 ∧ st.dfs = [] ∧ st.env.rd 0 = lv ∧ st.env.rd 1 = .int .i64 limit ∧ st.env.rd 5 = .bool ((cur.take i).any (p1 limit)) ∧ st.env.rd 6 = .int .i64 (i : Nat) ∧ Ext NoB A0 st.A ∧ SliceAt st.A 4 lv z (lcells cur) ∧ cur.length = z ∧ ∀ (k : Nat) (hk : k < cur.length), k < i → cur[k].path = (k : Int)

theorem best_law (ls : List La) (limit : Int) (lv : Value) (A0 : AHeap) (h : ReadAt A0 4 lv ls.length (lcells ls)) (hv : ArgV lv ls.length) : wF T (.func (.func 3) #[] #[]) [lv, .int .i64 limit] A0 (fun v _ => v = .bool true) := by
  have m1 : ∃ z : Nat, z ≤ ls.length ∧ z ≤ 20 ∧ (if (20 : Int) < ls.length then 20 else (ls.length : Int)) = (z : Int) := by
    split
    · exact ⟨20, by omega, by omega, rfl⟩
    · exact ⟨ls.length, by omega, by omega, rfl⟩
  obtain ⟨z, z0, z1, z3⟩ := m1
  obtain ⟨v', f1, f2, f3⟩ := hv.front (k2 := .i64) (h.ext (S := NoB) (A' := A0.alloc (.cells [] false 0)) Ext.alloc fun _ _ q => q) z0
  have fl : (ls.take z).length = z := by rw [List.length_take]; omega
  rw [lcells_take] at f2
  obtain ⟨a2, c2, A2, g1, g2, g3, g4⟩ := copyL A0 v' (ls.take z) (by rw [fl]; exact f2) (by omega)
  rw [fl] at g1 g2 g4
  obtain ⟨a1, c1, rfl⟩ := h.val
  refine wF_func (first := []) (captured := []) t3 ⟨rfl, by decide⟩ ?_
  dsimp only [c3]; simp
  refine yes_ok _ _ ?_
  simp [foldV, minV, z3, f1, g1]
  refine wC_loop_inv (JI A0 (.slice a2 z c2) z limit) ?_ z _ ⟨0, ls.take z, by omega, rfl, rfl, by simp, by simp, by simp, by simp, g3, g2, fl, fun k _ hk => by omega⟩
  rintro m ⟨env, nn, dfs, A⟩ ⟨i, cur, k0, k1, k2, r0, r1, r5, r6, e1, s1, hc, hp⟩
  simp only at k1 k2 r0 r1 r5 r6 e1 s1
  subst k1; subst k2
  by_cases hi : i < z
  · obtain ⟨d, o, c, bs, opn, q1, q2, q3, q4, q5⟩ := cellsOf s1 (by omega)
    cases q1
    have hic : i < cur.length := by omega
    have qe : (bs.drop (o + i * 4)).take 4 = [.int .i64 cur[i].path, .bool cur[i].up, .bool cur[i].backup, .int .i64 cur[i].flight] := by
      rw [← lcells_at cur i hic, q4, List.drop_take, List.take_take, List.drop_drop]
      congr 1; omega
    have q6 := lcells_set cur i hic (i : Int)
    obtain ⟨b0, b1, b2, b3⟩ := take4 qe
    rw [Nat.add_assoc] at b1 b2 b3
    have q7 := q5 (i * 4) (.int .i64 (i : Int)) (by omega)
    rw [q6] at q7
    have q8 : o + (i * 4 + 1) ≤ bs.length := by omega
    have c1' : (bs.set (o + i * 4) (.int .i64 (i : Int)))[o + (i * 4 + 1)]? = some (.bool cur[i].up) := by rw [List.getElem?_set_ne (by omega)]; exact b1
    have c2' : (bs.set (o + i * 4) (.int .i64 (i : Int)))[o + (i * 4 + 2)]? = some (.bool cur[i].backup) := by rw [List.getElem?_set_ne (by omega)]; exact b2
    have c3' : (bs.set (o + i * 4) (.int .i64 (i : Int)))[o + (i * 4 + 3)]? = some (.int .i64 cur[i].flight) := by rw [List.getElem?_set_ne (by omega)]; exact b3
    have zd := AHeap.get_lt q2
    have od : A0.size ≤ d := g4 d ⟨o, z, c2, rfl⟩
    have ws := wrap_succ i (by omega)
    have hset : ∀ (k : Nat) (hk : k < (cur.set i { cur[i] with path := (i : Int) }).length), k < i + 1 → ((cur.set i { cur[i] with path := (i : Int) })[k]).path = (k : Int) := by
      intro k hk hki
      rw [List.getElem_set]
      split
      · rename_i w; subst w; rfl
      · exact hp k (by simpa using hk) (by omega)
    have htake : (cur.set i { cur[i] with path := (i : Int) }).take (i + 1) = cur.take i ++ [{ cur[i] with path := (i : Int) }] := by
      rw [List.take_add_one, List.take_set_of_le (Nat.le_refl _), List.getElem?_set_self hic]; rfl
    have hany : ((cur.set i { cur[i] with path := (i : Int) }).take (i + 1)).any (p1 limit) = ((cur.take i).any (p1 limit) || (cur[i].up && !cur[i].backup && decide (cur[i].flight < limit))) := by
      rw [htake]; simp [p1]
    generalize hP : (cur.take i).any (p1 limit) = P at r5 hany
    generalize hX : cur.set i { cur[i] with path := (i : Int) } = cur' at q7 hset hany
    have hc' : cur'.length = z := by rw [← hX]; simp [hc]
    have go : ∀ env' Pn, Pn = (P || (cur[i].up && !cur[i].backup && decide (cur[i].flight < limit))) → Env.rd env' 0 = .slice (some ⟨d, o, none⟩) z c2 → Env.rd env' 1 = .int .i64 limit → Env.rd env' 5 = .bool Pn → Env.rd env' 6 = .int .i64 (IntKind.i64.wrap ((i : Int) + 1)) → ∃ m', m' < m ∧ JI A0 (.slice (some ⟨d, o, none⟩) z c2) z limit m' ⟨env', 158, [], A.set d (.cells (bs.set (o + i * 4) (.int .i64 (i : Int))) false opn)⟩ := by
      intro env' Pn hPn t0 t1 t5 t6
      exact ⟨m - 1, by omega, i + 1, cur', by omega, rfl, rfl, t0, t1, by rw [t5, hPn, hany], by rw [t6, ws], e1.trans2 (Ext.set (S := fun j => j = d) rfl) (fun j hj q => by omega), q7, hc', hset⟩
    generalize cur[i].up = u at c1' go
    generalize cur[i].backup = bk at c2' go
    generalize cur[i].flight = fl at c3' go
    cases P
    · cases u
      · simp [r0, r1, r5, r6, hi, idxA, q2, q8, zd, c1', undef]
        refine go _ false (by simp) ?_ ?_ ?_ ?_ <;> simp [r0, r1, r5, r6]
      · cases bk
        · by_cases hl : fl < limit
          · simp [r0, r1, r5, r6, hi, idxA, q2, q8, zd, c1', c2', c3', hl, undef]
            refine go _ true (by simp [hl]) ?_ ?_ ?_ ?_ <;> simp [r0, r1, r5, r6]
          · simp [r0, r1, r5, r6, hi, idxA, q2, q8, zd, c1', c2', c3', hl, undef]
            refine go _ false (by simp [hl]) ?_ ?_ ?_ ?_ <;> simp [r0, r1, r5, r6]
        · simp [r0, r1, r5, r6, hi, idxA, q2, q8, zd, c1', c2', undef]
          refine go _ false (by simp) ?_ ?_ ?_ ?_ <;> simp [r0, r1, r5, r6]
    · simp [r0, r1, r5, r6, hi, idxA, q2, q8, zd, undef]
      refine go _ true (by simp) ?_ ?_ ?_ ?_ <;> simp [r0, r1, r5, r6]
  · have hci : cur.take i = cur := List.take_of_length_le (by omega)
    rw [hci] at r5
    simp [r0, r1, r5, r6, hi]
    exact t_ok ⟨_, 158, [], A⟩ a2 z c2 limit (first limit cur) cur rfl rfl (by simp [r0]) (by simp [r1]) (by simp [r5]; rfl) hc z1 s1 rfl fun k hk => hp k hk (by omega)
end Go.Proofs.Ytbhhmnokddkhmaa
