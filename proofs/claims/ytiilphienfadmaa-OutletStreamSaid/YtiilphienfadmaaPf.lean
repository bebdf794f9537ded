/- OutletStream of stage 21. -/
import Derived.Test.YtiilphienfadmaaPd
import Derived.Test.YtiilphienfadmaaChecked
import Derived.KernelRfl
namespace Go.Proofs.Ytiilphienfadmaa
open Go Go.AS
set_option maxRecDepth 100000
set_option linter.unusedSimpArgs false
set_option linter.unusedVariables false
attribute [local irreducible] Trie.set Trie.get Env.rd
attribute [local simp] wD_cons' wD_nil wC_seq wC_ops wC_opsD_nil wC_cond wC_skip wC_ret wC_exit wC_block wO_cons wO_nil wantedA wV_eq lop qop ev wL wPut envOf rd_set rd_leaf eqA thenC blockC wB endF unwindA resultsA resA tupleA rdCell rdCells wrCells cl fillP lay rep binA unA get_set' AHeap.get_alloc oneCell


attribute [local simp] Nat.add_assoc



theorem size_mk (l : List UInt8) : (⟨⟨l⟩⟩ : ByteArray).size = l.length := rfl

theorem take3 {bs : List Value} {k : Nat} {a b c : Value} (h : (bs.drop k).take 3 = [a, b, c]) : bs[k]? = some a ∧ bs[k + 1]? = some b ∧ bs[k + 2]? = some c := by
  have f : ∀ i, i < 3 → bs[k + i]? = [a, b, c][i]? := fun i hi => by
    rw [← h, List.getElem?_take_of_lt hi, List.getElem?_drop]
  exact ⟨f 0 (by decide), f 1 (by decide), f 2 (by decide)⟩

/-- Pieces one behind the other, from s on, of such bytes. -/
def Ch : Int → List Pc → List UInt8 → Prop
  | _, [], l => l = []
  | s, p :: ps, l => p.at_ = s ∧ p.fin = s + p.text.size ∧ 0 < p.text.size ∧ ∃ r, l = p.text.data.toList ++ r ∧ Ch (s + p.text.size) ps r

theorem Ch.snoc {x : ByteArray} (hx : 0 < x.size) (tag : Int) : ∀ {s : Int} {ps : List Pc} {l : List UInt8} {e : Int}, Ch s ps l → e = s + l.length → (⟨e, tag, x⟩ : Pc).fin = e + x.size → Ch s (ps ++ [⟨e, tag, x⟩]) (l ++ x.data.toList)
  | s, [], l, e, h, he, hf => by
    have h : l = [] := h
    subst h
    simp at he
    subst he
    exact ⟨rfl, hf, hx, [], by simp, rfl⟩
  | s, p :: ps, l, e, h, he, hf => by
    obtain ⟨h1, h2, h3, r, h4, h5⟩ := h
    refine ⟨h1, h2, h3, r ++ x.data.toList, by rw [h4, List.append_assoc], Ch.snoc hx tag h5 ?_ hf⟩
    rw [he, h4, List.length_append]
    have : p.text.data.toList.length = p.text.size := rfl
    rw [this]; push_cast; omega

theorem Ch.cut (off : Int) : ∀ {s : Int} {ps : List Pc} {l : List UInt8}, Ch s ps l → s ≤ off → ∃ k : Nat, k ≤ l.length ∧ s + k ≤ off ∧ Ch (s + k) (ps.drop (taken off ps).length) (l.drop k) ∧ ∀ p ps', ps.drop (taken off ps).length = p :: ps' → off < p.fin
  | s, [], l, h, hs => ⟨0, by omega, by omega, by simpa using h, by simp⟩
  | s, p :: ps, l, h, hs => by
    by_cases hp : p.fin ≤ off
    · have e : taken off (p :: ps) = p :: taken off ps := by simp [taken, hp]
      obtain ⟨h1, h2, h3, r, h4, h5⟩ := h
      obtain ⟨k, k1, k2, k3, k4⟩ := Ch.cut off h5 (by omega)
      have hl : l.length = p.text.size + r.length := by rw [h4, List.length_append]; rfl
      rw [e]
      refine ⟨p.text.size + k, by omega, by omega, ?_, k4⟩
      have hd : l.drop (p.text.size + k) = r.drop k := by
        rw [h4, ← List.drop_drop]
        congr 1
        exact List.drop_left' rfl
      rw [hd, show s + ((p.text.size + k : Nat) : Int) = s + p.text.size + k by omega]
      exact k3
    · have e : taken off (p :: ps) = [] := by simp [taken, hp]
      rw [e]
      exact ⟨0, by omega, by omega, by simpa using h, fun q ps' hq => by simp at hq; rw [← hq.1]; omega⟩

theorem Ch.len : ∀ {s : Int} {ps : List Pc} {l : List UInt8}, Ch s ps l → ps.length ≤ l.length
  | s, [], l, h => by simp
  | s, p :: ps, l, h => by
    obtain ⟨h1, h2, h3, r, h4, h5⟩ := h
    have := Ch.len h5
    have hl : l.length = p.text.size + r.length := by rw [h4, List.length_append]; rfl
    simp; omega

theorem sliceS_from (s : ByteArray) (k : IntKind) (j : Nat) (h : j ≤ s.size) : sliceSA (.string s) (some (.int k (j : Int))) none = some (.string ⟨⟨s.data.toList.drop j⟩⟩) := by
  have hb : bnd (.int k (j : Int)) s.size = some j := bnd_nat k j s.size h
  unfold sliceSA
  delta bndsA
  simp [hb]
  rw [List.take_of_length_le (by rw [List.length_drop]; exact Nat.le_refl _)]

theorem Ch.taken0 {ps : List Pc} {l : List UInt8} {off : Int} (h : Ch 0 ps l) (ho : off ≤ 0) : taken off ps = [] := by
  cases ps with
  | nil => rfl
  | cons p ps =>
    obtain ⟨h1, h2, h3, r, h4, h5⟩ := h
    have : ¬ p.fin ≤ off := by omega
    simp [taken, this]

theorem pcells_one (ps : List Pc) : (pcells ps).all oneCell = true := by
  induction ps with
  | nil => rfl
  | cons p ps ih => simp only [pcells, List.flatMap_cons, List.all_append] at ih ⊢; rw [ih]; rfl

structure SI (ps : List Pc) (l : List UInt8) (en : Int) (i : Nat) : Prop where
  ch : Ch 0 ps l
  en : en = l.length
  hi : l.length ≤ 50 * i
  cnt : ps.length ≤ i

def SL (A0 : AHeap) (b : Nat) (lv kv : Value) (m : Nat) (st : St) : Prop := ∃ i dv ps l en, m + i = 40 ∧ st.n = 147 ∧ st.dfs = [] ∧ st.env.rd 0 = lv ∧ st.env.rd 1 = kv ∧ st.env.rd 5 = .pointer (some ⟨b, 0, none⟩) ∧ st.env.rd 6 = .string ⟨⟨l⟩⟩ ∧ st.env.rd 7 = .int .i64 (i : Nat) ∧
  OM A0 st.A b dv (.slice none 0 0) (.slice none 0 0) ps [] [] en 0 ∧ SI ps l en i

def Yes : AExit → St → Prop := endF [.inl 4] (fun v _ => v = .bool true)

theorem v_ok (st : St) (b : Nat) (dv : Value) (en off : Int) (a6 : Option Addr) (n c6 : Nat) (q : Pc) (ps : List Pc) (l : List UInt8) (kk : Nat) (n0 : st.n = 147) (n1 : st.dfs = []) (k5 : st.env.rd 5 = .pointer (some ⟨b, 0, none⟩)) (k6 : st.env.rd 6 = .string ⟨⟨l⟩⟩) (k9 : st.env.rd 9 = .int .i64 off) (k10 : st.env.rd 10 = .slice a6 n c6) (k11 : st.env.rd 11 = .string ⟨⟨l.drop kk⟩⟩)
    (hn : n = (q :: ps).length) (hb : st.A.get b = some (.cells [dv, .int .i64 en, .int .i64 off] false 0)) (hs : SliceAt st.A 3 (.slice a6 n c6) n (pcells (q :: ps))) (hq : q.at_ = kk) (hkk : kk ≤ l.length) : wC T 4 none c4v st Yes := by
  obtain ⟨env, nn, dfs, A⟩ := st
  simp only at n0 n1 k5 k6 k9 k10 k11 hb hs
  subst n0; subst n1; subst hn
  obtain ⟨d6, p6, cc6, bs6, ro6, opn6, r0, r1, r2, r3⟩ := hs.read.elem2 (i := 0) (by simp)
  cases r0
  have r3' : (bs6.drop p6).take 3 = [.int .i64 q.at_, .int .i64 q.tag, .string q.text] := by
    rw [Nat.zero_mul, Nat.add_zero] at r3
    rw [r3]; simp [pcells]
  obtain ⟨b1, _, b3⟩ := take3 r3'
  rw [hq] at b1
  have zs := sliceS_from ⟨⟨l⟩⟩ .i64 kk hkk
  unfold c4v Yes
  simp [k5, k6, k9, k10, k11, r1, b1, idxA, zs]
  refine una_ok _ _ _ _ _ _ hb ?_
  simp [k5, k6, k9, k10, k11]

def UL (st0 : St) (a6 : Option Addr) (n c6 b : Nat) (off : Int) (l : List UInt8) (kk : Nat) (ps : List Pc) (m : Nat) (st : St) : Prop := ∃ j dn rm, m + j = n ∧ st.n = 147 ∧ st.dfs = [] ∧ st.A = st0.A ∧ st.env.rd 5 = .pointer (some ⟨b, 0, none⟩) ∧ st.env.rd 6 = .string ⟨⟨l⟩⟩ ∧ st.env.rd 9 = .int .i64 off ∧ st.env.rd 10 = .slice a6 n c6 ∧ st.env.rd 11 = .string ⟨⟨dn⟩⟩ ∧ st.env.rd 12 = .int .i64 (j : Nat) ∧
  l.drop kk = dn ++ rm ∧ Ch ((kk : Int) + dn.length) (ps.drop j) rm

theorem u_ok (st : St) (b : Nat) (dv : Value) (en off : Int) (a6 : Option Addr) (n c6 : Nat) (p : Pc) (ps : List Pc) (l : List UInt8) (kk : Nat) (n0 : st.n = 147) (n1 : st.dfs = []) (k5 : st.env.rd 5 = .pointer (some ⟨b, 0, none⟩)) (k6 : st.env.rd 6 = .string ⟨⟨l⟩⟩) (k9 : st.env.rd 9 = .int .i64 off) (k10 : st.env.rd 10 = .slice a6 n c6)
    (hn : n = (p :: ps).length) (hb : st.A.get b = some (.cells [dv, .int .i64 en, .int .i64 off] false 0)) (hs : SliceAt st.A 3 (.slice a6 n c6) n (pcells (p :: ps))) (hc : Ch kk (p :: ps) (l.drop kk)) (hkk : kk ≤ l.length) (hko : (kk : Int) ≤ off) (hof : off < p.fin) (hl : l.length ≤ 2000) : wC T 4 none c4u st Yes := by
  have st0 := st
  have hb0 := hb
  have hs0 := hs
  obtain ⟨h1, h2, h3, r, h4, h5⟩ := id hc
  have h6 := congrArg List.length h4
  have ld : (l.drop kk).length = l.length - kk := List.length_drop
  rw [List.length_append] at h6
  have h7 : p.text.data.toList.length = p.text.size := rfl
  have g1 : IntKind.i64.wrap ((kk : Int) + p.text.size) = (kk : Int) + p.text.size := IntWalk.i64_in _ (by omega)
  have g2 : ¬ off < (kk : Int) := by omega
  have g3 : ¬ (kk : Int) + p.text.size ≤ off := by omega
  have hnl : n ≤ 2000 := by have := hc.len; omega
  have hnp : 0 < n := by rw [hn]; simp
  have hn0 : ¬ n = 0 := by omega
  obtain ⟨d6, p6, cc6, bs6, ro6, opn6, r0, r1, r2, r3⟩ := hs.read.elem2 (i := 0) hnp
  cases r0
  have r3' : (bs6.drop p6).take 3 = [.int .i64 p.at_, .int .i64 p.tag, .string p.text] := by
    rw [Nat.zero_mul, Nat.add_zero] at r3
    rw [r3]; simp [pcells]
  obtain ⟨b1, _, b3⟩ := take3 r3'
  rw [h1] at b1
  obtain ⟨env, nn, dfs, A⟩ := st
  simp only at n0 n1 k5 k6 k9 k10 hb hs r1
  subst n0; subst n1
  unfold c4u
  simp [k5, k6, k9, k10, size_mk, r1, b1, b3, g1, g2, g3, idxA, hnp, hn0]
  refine wC_loop_inv (UL ⟨env, 147, [], A⟩ (some ⟨d6, p6, none⟩) n c6 b off l kk (p :: ps)) ?_ n _ ⟨0, [], l.drop kk, by omega, rfl, rfl, rfl, by simp [k5], by simp [k6], by simp [k9], by simp [k10], by simp, by simp, by simp, by simpa using hc⟩
  rintro m ⟨env, nn, dfs, A'⟩ ⟨j, dn, rm, q0, q1, q2, q3, q5, q6, q9, q10, q11, q12, e1, e2⟩
  simp only at q1 q2 q3 q5 q6 q9 q10 q11 q12
  subst q1; subst q2; subst q3
  have e3 := congrArg List.length e1
  rw [List.length_append] at e3
  by_cases hj : j < n
  · have hj' : j < (p :: ps).length := by omega
    rw [List.drop_eq_getElem_cons hj'] at e2
    obtain ⟨f1, f2, f3, rr, f4, f5⟩ := e2
    obtain ⟨d7, p7, cc7, bs7, ro7, opn7, s0, s1, s2, s3⟩ := hs.read.elem2 hj
    cases s0
    rw [r1] at s1
    cases s1
    rw [pcells_at (p :: ps) j hj'] at s3
    obtain ⟨b4, _, b6⟩ := take3 s3
    rw [Nat.add_assoc] at b6
    generalize (p :: ps)[j] = q at f1 f2 f3 f4 f5 b4 b6
    rw [f1] at b4
    have f6 := congrArg List.length f4
    rw [List.length_append] at f6
    have f7 : q.text.data.toList.length = q.text.size := rfl
    have w1 : IntKind.i64.wrap ((kk : Int) + dn.length) = (kk : Int) + dn.length := IntWalk.i64_in _ (by omega)
    have w2 : ¬ (9223372036854775807 : Int) < (dn.length : Int) + q.text.size := by omega
    have ws := wrap_succ j (by omega)
    have ne : ¬ q.text.data = #[] := fun z => by
      have : q.text.size = 0 := by show q.text.data.size = 0; rw [z]; rfl
      omega
    simp [q5, q6, q9, q10, q11, q12, r1, b1, b3, b4, b6, idxA, hj, hnp, w1, w2, ne, size_mk]
    refine ⟨m - 1, by omega, j + 1, dn ++ q.text.data.toList, rr, by omega, rfl, rfl, rfl, by simp [q5], by simp [q6], by simp [q9], by simp [q10], by simp, by simpa using ws, ?_, ?_⟩
    · rw [e1, f4, List.append_assoc]
    · rw [List.length_append, f7]
      have : ((dn.length + q.text.size : Nat) : Int) = (dn.length : Int) + q.text.size := by push_cast; rfl
      rw [this, ← Int.add_assoc]; exact f5
  · have hj0 : j = n := by omega
    rw [hj0, hn, List.drop_length] at e2
    have e2 : rm = [] := e2
    rw [e2, List.append_nil] at e1
    simp [q5, q6, q9, q10, q11, q12, hj]
    exact v_ok ⟨_, 147, [], _⟩ b dv en off _ n _ p ps l kk rfl rfl (by simp [q5]) (by simp [q6]) (by simp [q9]) (by simp [q10]) (by simp [q11, e1]) hn hb hs h1 hkk

theorem t_ok (k : Nat) (hk : k < 65536) (st : St) (A0 : AHeap) (b : Nat) (dv : Value) (ps : List Pc) (l : List UInt8) (en : Int) (i : Nat) (n0 : st.n = 147) (n1 : st.dfs = []) (k4 : st.env.rd 1 = .int .u16 (k : Int)) (k5 : st.env.rd 5 = .pointer (some ⟨b, 0, none⟩)) (k6 : st.env.rd 6 = .string ⟨⟨l⟩⟩) (hi : i ≤ 40)
    (M : OM A0 st.A b dv (.slice none 0 0) (.slice none 0 0) ps [] [] en 0) (P : SI ps l en i) : wC T 4 none c4t st Yes := by
  obtain ⟨env, nn, dfs, A⟩ := st
  simp only at n0 n1 k4 k5 k6 M
  subst n0; subst n1
  have hen := P.en; have hhi := P.hi; have hcn := P.cnt
  have w1 : IntKind.i64.wrap ((l.length : Int) + 1) = (l.length : Int) + 1 := IntWalk.i64_in _ (by omega)
  have w2 : ¬ (l.length : Int) + 1 = 0 := by omega
  have w3 : IntKind.i64.wrap (k : Int) = (k : Int) := IntWalk.i64_in _ (by omega)
  unfold c4t
  simp [k4, k5, k6, w1, w2, w3, size_mk]
  have f0 : 0 ≤ (k : Int).tmod ((l.length : Int) + 1) := Int.tmod_nonneg _ (by omega)
  have f1 : (k : Int).tmod ((l.length : Int) + 1) < (l.length : Int) + 1 := Int.tmod_lt_of_pos _ (by omega)
  generalize (k : Int).tmod ((l.length : Int) + 1) = off at f0 f1 ⊢
  refine ack_ok _ ps.length _ ps en 0 _ _ _ M.hb M.hd (fun q => (M.od _ q).2.1 rfl) (by omega) (fun hc A4 e3 => ?_) (fun hc1 hc2 A4 sv dv3 t1 t2 t3 t4 t5 t6 t7 => ?_)
  case' refine_1 =>
    have e0 : ps.drop (taken off ps).length = ps := by rw [P.ch.taken0 (by omega)]; rfl
    have M4 : OM A0 A4 b dv (.slice none 0 0) (.slice none 0 0) (ps.drop (taken off ps).length) [] [] en off := by
      rw [e0, show off = 0 by omega]; exact M.same e3
  case' refine_2 =>
    have M4 := M.push (ps' := ps.drop (taken off ps).length) t1 (by rw [List.length_drop]; exact t2) t3 (t5.mono fun _ _ q => .inl q) (fun j hj => .inl (t7 j hj))
  all_goals
    obtain ⟨kk, c1, c2, c3, c4⟩ := P.ch.cut off f0
    rw [Int.zero_add] at c2 c3
    have c5 : (ps.drop (taken off ps).length).length ≤ ps.length := by simp
    generalize ps.drop (taken off ps).length = ps4 at M4 c3 c4 c5
    simp [k4, k5, k6]
    refine due_ok _ _ _ _ ps4.length (pcells ps4) _ _ M4.hb M4.hd (pcells_one ps4) (by omega) fun A5 v5 u1 u2 u3 => ?_
    obtain ⟨a6, c6, hv⟩ := u1.read.val
    subst hv
    have M5 := M4.same u2
    have ld : (l.drop kk).length = l.length - kk := List.length_drop
    by_cases hoff : off = (l.length : Int)
    · have hz : ps4 = [] := by
        cases ps4 with
        | nil => rfl
        | cons p ps' =>
          obtain ⟨h1, h2, h3, r, h4, h5⟩ := c3
          have := c4 p ps' rfl
          have h6 := congrArg List.length h4
          rw [List.length_append] at h6
          have : p.text.data.toList.length = p.text.size := rfl
          omega
      subst hz
      unfold Yes
      simp [hoff, k4, k5, k6, size_mk]
      refine una_ok _ _ _ _ _ _ M5.hb ?_
      simp [hoff]
    · cases ps4 with
      | nil =>
        exfalso
        have c3 : l.drop kk = [] := c3
        rw [c3] at ld
        simp at ld
        omega
      | cons p ps' =>
        simp [hoff, k4, k5, k6, size_mk]
        exact u_ok ⟨_, 147, [], A5⟩ b _ en off a6 (p :: ps').length c6 p ps' l kk rfl rfl (by simp [k5]) (by simp [k6]) (by simp) (by simp) rfl M5.hb u1 c3 c1 c2 (c4 p ps' rfl) (by omega)

theorem stream_ok (ss : List ByteArray) (k : Nat) (hk : k < 65536) (lv : Value) (A0 : AHeap) (h1 : ReadAt A0 1 lv ss.length (strs ss)) (o1 : ∀ j, Own lv j → j < A0.size) : wF T (.func (.func 4) #[] #[]) [lv, .int .u16 (k : Int)] A0 (fun v _ => v = .bool true) := by
  obtain ⟨a1, c1, rfl⟩ := h1.val
  refine wF_func (first := []) (captured := []) t4 ⟨rfl, by decide⟩ ?_
  dsimp only [c4]; simp
  refine new_ok _ _ ?_
  simp
  refine yes_ok _ _ ?_
  simp
  refine wC_loop_inv (SL A0 A0.size (.slice a1 ss.length c1) (.int .u16 (k : Int))) ?_ 40 _ ?_
  · rintro m ⟨env, nn, dfs, A⟩ ⟨i, dv, ps, l, en, k0, k1, k2, k3, k4, k5, k6, k7, M, P⟩
    simp only at k1 k2 k3 k4 k5 k6 k7 M
    subst k1; subst k2
    have hen := P.en; have hhi := P.hi; have hcn := P.cnt
    by_cases hi : i < ss.length
    case' neg => simp [k3, k4, k5, k6, k7, hi]
    case' pos =>
      by_cases h40 : i < 40
      case' neg =>
        have h40' : ¬ (i : Int) < 40 := by omega
        simp [k3, k4, k5, k6, k7, hi, h40']
      case pos =>
        obtain ⟨d1, p1, cc1, bs1, ro1, opn1, q1, q2, q3⟩ := (h1.ext M.ext fun _ _ q => q).cell hi
        have x1 : (strs ss)[i]? = some (.string ss[i]) := by simp [strs, hi]
        rw [x1] at q3
        cases q1
        have m1 : ∃ z : Int, 0 ≤ z ∧ z ≤ ss[i].size ∧ z ≤ 50 ∧ (if (50 : Int) < ss[i].size then 50 else (ss[i].size : Int)) = z := by
          split
          · exact ⟨50, by omega, by omega, by omega, rfl⟩
          · exact ⟨_, by omega, by omega, by omega, rfl⟩
        obtain ⟨z, z0, z1, z2, z3⟩ := m1
        have h40' : (i : Int) < 40 := by omega
        have zs := sliceS_to ss[i] .i64 z z0 z1
        simp [k3, k4, k5, k6, k7, hi, h40', idxA, q2, q3, foldV, minV, z3, zs]
        generalize hx : (⟨⟨ss[i].data.toList.take z.toNat⟩⟩ : ByteArray) = x
        have xs : x.size ≤ 50 := by
          rw [← hx]
          show (ss[i].data.toList.take z.toNat).length ≤ 50
          rw [List.length_take]; omega
        have wr : IntKind.i64.wrap (en + x.size) = en + x.size := IntWalk.i64_in _ (by omega)
        have ws := wrap_succ i (by omega)
        refine push_ok _ _ ps.length _ en 0 _ x A _ M.hb M.hd (fun q => (M.od _ q).2.1 rfl) (by omega) fun A1 dv1 n1 cs1 r1 r2 r3 r4 r5 r6 => ?_
        rw [wr] at r2
        have hadd : ¬ (9223372036854775807 : Int) < (l.length : Int) + x.size := by omega
        simp [k3, k4, k5, k6, k7, hi, h40', size_mk, hen, hadd]
        by_cases hx0 : x.data = #[]
        case' pos =>
          have r1 : n1 = ps.length ∧ cs1 = pcells ps := by
            rcases r1 with ⟨_, e1, e2⟩ | ⟨e0, _⟩
            · exact ⟨e1, e2⟩
            · exact absurd hx0 e0
          obtain ⟨e1, e2⟩ := r1
          subst e1; subst e2
          have x0 : x.size = 0 := by show x.data.size = 0; rw [hx0]; rfl
          have M2 := M.push r2 r3 r4 r5 r6
          have P2 : SI ps (l ++ x.data.toList) (en + x.size) (i + 1) := by
            rw [hx0]
            simp only [List.append_nil]
            exact ⟨P.ch, by rw [x0]; simpa using hen, by omega, by omega⟩
        case' neg =>
          have r1 : n1 = ps.length + 1 ∧ cs1 = pcells (ps ++ [⟨en, 0, x⟩]) := by
            rcases r1 with ⟨e0, _⟩ | ⟨_, e1, e2⟩
            · exact absurd e0 hx0
            · exact ⟨e1, by rw [pcells_app]; exact e2⟩
          obtain ⟨e1, e2⟩ := r1
          subst e1; subst e2
          have x0 : 0 < x.size := by
            rcases Nat.eq_zero_or_pos x.size with q | q
            · exact absurd (Array.eq_empty_of_size_eq_zero q) hx0
            · exact q
          have M2 := M.push (ps' := ps ++ [⟨en, 0, x⟩]) r2 (by simpa using r3) r4 r5 r6
          have xl : x.data.toList.length = x.size := rfl
          have P2 : SI (ps ++ [⟨en, 0, x⟩]) (l ++ x.data.toList) (en + x.size) (i + 1) :=
            ⟨P.ch.snoc x0 0 (by omega) wr, by rw [List.length_append, xl]; omega, by rw [List.length_append, xl]; omega, by simp; omega⟩
        all_goals
          refine ⟨m - 1, by omega, i + 1, _, _, _, _, by omega, rfl, rfl, ?_, ?_, ?_, ?_, ?_, M2, P2⟩
          · simp [k3]
          · simp [k4]
          · simp [k5]
          · simp [k6]
          · simpa using ws
    all_goals
      exact t_ok k hk ⟨_, 147, [], A⟩ A0 _ dv ps l en i rfl rfl (by simp [k4]) (by simp [k5]) (by simp [k6]) (by omega) M P
  · refine ⟨0, .slice none 0 0, [], [], 0, rfl, rfl, rfl, ?_, ?_, ?_, ?_, ?_, ⟨Nat.le_refl _, ?_, .nil, .nil, .nil, ?_, ?_, ?_, ?_⟩, ⟨rfl, by simp, by simp, by simp⟩⟩
    all_goals simp [Own, Ext.alloc]
end Go.Proofs.Ytiilphienfadmaa
