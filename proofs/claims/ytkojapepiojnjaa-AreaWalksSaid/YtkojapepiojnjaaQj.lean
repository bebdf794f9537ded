/- AreaAlike of stage 4. -/
import Derived.Test.YtkojapepiojnjaaQi
import Derived.KernelRfl
namespace Go.Proofs.Ytkojapepiojnjaa
open Go Go.AS
set_option maxRecDepth 100000
set_option linter.unusedSimpArgs false
set_option linter.unusedVariables false
attribute [local irreducible] Trie.set Trie.get Env.rd
attribute [local simp] Nat.add_assoc wD_cons'' wD_nil' wC_seq wC_ops wC_opsD_nil wC_cond wC_skip wC_ret wC_exit wC_block wO_cons' wO_nil wantedA wV_eq lop qop ev wL_some wL_none wPut envOf rd_set rd_leaf eqA thenC blockC wB_true wB_false endF unwindA resultsA resA tupleA rdCell rdCells wrCells cl fillP lay rep binA unA get_set' AHeap.get_alloc oneCell

theorem walkR_front (its : List It) (r : List UInt8) (h : ∀ x ∈ its, x.ok) (hl : (raw its ++ 0 :: r).length ≤ 40) (h4 : (raw its ++ 0 :: r).length % 4 = 0) : walkR (raw its ++ 0 :: r) = (its, 0) := by
  have e : walkL (raw its ++ 0 :: r) = (its, 0) := by rw [walk_raw _ its h, walkL_zero]; simp
  unfold walkR
  rw [if_neg (by omega), if_neg (by omega), if_pos (by rw [e]), e]

theorem pad_inj (x y : List It) (hx : ∀ z ∈ x, z.ok) (hy : ∀ z ∈ y, z.ok) (nx : (raw x).length ≤ 40) (ny : (raw y).length ≤ 40) (h : pad (raw x) = pad (raw y)) : x = y := by
  have h1 := walkR_pad x hx nx
  rw [h, walkR_pad y hy ny] at h1
  exact (congrArg Prod.fst h1).symm

def AI (A : AHeap) (lv : Value) (sp bh : ByteArray) (its : List It) (m : Nat) (st : St) : Prop := ∃ i, m + i = its.length ∧ st.n = 94 ∧ st.dfs = [] ∧ st.A = A ∧ st.env.rd 2 = .string bh ∧ st.env.rd 7 = lv ∧ st.env.rd 9 = .string sp ∧ st.env.rd 13 = .int .i64 ((raw (its.take i)).length : Nat) ∧ st.env.rd 14 = .int .i64 (i : Nat)

def BI (A : AHeap) (lv : Value) (its : List It) (m : Nat) (st : St) : Prop := ∃ r, m = (4 - (raw its ++ 0 :: r).length % 4) % 4 ∧ st.n = 94 ∧ st.dfs = [] ∧ st.A = A ∧ st.env.rd 7 = lv ∧ st.env.rd 15 = .string ⟨⟨raw its ++ 0 :: r⟩⟩ ∧ (raw its ++ 0 :: r).length ≤ 40

theorem alike_ok (d1 d2 : List Dr) (bh : ByteArray) (hbh : bh.size < 9000000000000000000) (v1 v2 : Value) (A0 : AHeap) (h1 : ReadAt A0 2 v1 d1.length (dcells d1)) (h2 : ReadAt A0 2 v2 d2.length (dcells d2)) (hk1 : ∀ x ∈ d1, x.kind < 256) (hk2 : ∀ x ∈ d2, x.kind < 256) : wF T (.func (.func 7) #[] #[]) [v1, v2, .string bh] A0 (fun v _ => v = .bool true) := by
  refine wF_func (first := []) (captured := []) t7 ⟨rfl, by decide⟩ ?_
  dsimp only [c7]; simp
  refine yes_ok _ _ ?_
  simp
  refine items_ok d1 _ A0 _ h1 hk1 fun A1 w1 x n e1 s1 o1 hp => ?_
  simp
  refine items_ok d2 _ A1 _ (h2.ext e1 fun _ _ q => q) hk2 fun A2 w2 y ny e2 s2 o2 hpy => ?_
  have s1 := s1.ext e2 fun _ _ q => q
  obtain ⟨av, cv, hv⟩ := s1.read.val
  subst hv
  obtain ⟨p1, p2, p3, p4⟩ := id hp
  obtain ⟨y1, y2, y3, y4⟩ := id hpy
  have plx := pad_len (raw x)
  have hRx := layR_ok x n hp
  have hRy := layR_ok y ny hpy
  simp
  refine lay_ok x _ A2 _ s1.read (by omega) fun A3 e3 => ?_
  rw [hRx]
  simp
  have s1 := s1.ext e3 fun _ _ q => q
  have s2 := s2.ext e3 fun _ _ q => q
  refine lay_ok y _ A3 _ s2.read (by omega) fun A4 e4 => ?_
  rw [hRy]
  have s1 := s1.ext e4 fun _ _ q => q
  have s2 := s2.ext e4 fun _ _ q => q
  have heq : (pad (raw x) == pad (raw y)) = decide (x = y) := by
    by_cases q : x = y
    · subst q; simp
    · have : pad (raw x) ≠ pad (raw y) := fun z => q (pad_inj x y p1 y1 (by omega) (by omega) z)
      simp [q, this]
  simp [heq]
  refine same_ok _ _ x y A4 _ s1.read s2.read (by omega) ?_
  simp
  refine wC_loop_inv (AI A4 (.slice av x.length cv) ⟨⟨pad (raw x)⟩⟩ bh x) ?_ x.length _ ⟨0, by omega, rfl, rfl, rfl, by simp, by simp, by simp, by simp [raw], by simp⟩
  rintro m ⟨env, nn, dfs, A⟩ ⟨i, k0, k1, k2, k3, r2, r7, r9, r13, r14⟩
  simp only at k1 k2 k3 r2 r7 r9 r13 r14
  subst k1; subst k2; subst k3
  have hrl := raw_take_le x i
  by_cases hi : i < x.length
  · obtain ⟨b1', x1, cc1, bs1, ro1, opn1, z1, z2, z3, z4⟩ := s1.read.elem2 hi
    cases z1
    rw [icells_at x i hi] at z4
    obtain ⟨b1, b2⟩ := take2 z4
    rw [Nat.add_assoc] at b2
    have hrs := raw_take_succ x i hi
    have hrl2 := raw_take_le x (i + 1)
    have ws := wrap_succ i (by omega)
    generalize x[i]'hi = u at b1 b2 hrs
    have w5 : IntKind.i64.wrap (((raw (x.take i)).length : Int) + 2) = ((raw (x.take i)).length : Int) + 2 := IntWalk.i64_in _ (by omega)
    have w6 : IntKind.i64.wrap (((raw (x.take i)).length : Int) + 2 + (u.body.size : Int)) = ((raw (x.take (i + 1))).length : Nat) := by rw [IntWalk.i64_in _ (by omega)]; omega
    simp [r2, r7, r9, r13, r14, hi, idxA, z2, b1, b2, w5, w6]
    exact ⟨m - 1, by omega, i + 1, by omega, rfl, rfl, rfl, by simp [r2], by simp [r7], by simp [r9], by simp, by simpa using ws⟩
  · have hxi : x.take i = x := List.take_of_length_le (by omega)
    rw [hxi] at r13 hrl
    by_cases g1 : (40 : Int) ≤ ((raw x).length : Int)
    · simp [r2, r7, r9, r13, r14, hi, g1]
    · have g2 : ¬ ((pad (raw x)).length : Int) < ((raw x).length : Int) := by omega
      have zz := sliceS_to ⟨⟨pad (raw x)⟩⟩ .i64 ((raw x).length : Nat) (by omega) (by rw [size_mk]; omega)
      have tk : (pad (raw x)).take (raw x).length = raw x := by unfold pad; exact List.take_left
      simp only [Int.toNat_natCast, tk] at zz
      have m1 : ∃ z : Int, 0 ≤ z ∧ z ≤ bh.size ∧ z ≤ 40 ∧ (if (40 : Int) < bh.size then 40 else (bh.size : Int)) = z := by
        split
        · exact ⟨40, by omega, by omega, by omega, rfl⟩
        · exact ⟨_, by omega, by omega, by omega, rfl⟩
      obtain ⟨z, z0, z1, z2, z3⟩ := m1
      have zs := sliceS_to bh .i64 z z0 z1
      have bl : (bh.data.toList.take z.toNat).length ≤ 40 := by rw [List.length_take]; omega
      generalize bh.data.toList.take z.toNat = bq at zs bl
      have i1 : ¬ (9223372036854775807 : Int) < ((raw x).length : Int) + 1 := by omega
      have i2 : ¬ (9223372036854775807 : Int) < ((raw x).length : Int) + (1 + (bq.length : Int)) := by omega
      have m2 : ∃ z : Int, 0 ≤ z ∧ z ≤ (raw x ++ 0 :: bq).length ∧ z ≤ 40 ∧ ((raw x).length : Int) + 1 ≤ z ∧ (if (40 : Int) < ((raw x).length : Int) + ((bq.length : Int) + 1) then 40 else ((raw x).length : Int) + ((bq.length : Int) + 1)) = z := by
        simp only [List.length_append, List.length_cons]
        split
        · exact ⟨40, by omega, by omega, by omega, by omega, rfl⟩
        · exact ⟨_, by omega, by omega, by omega, by omega, rfl⟩
      obtain ⟨q, q0, q1, q2, q3, q4⟩ := m2
      have zq := sliceS_to ⟨⟨raw x ++ 0 :: bq⟩⟩ .i64 q q0 (by rw [size_mk]; exact q1)
      have tq : (raw x ++ 0 :: bq).take q.toNat = raw x ++ 0 :: bq.take (q.toNat - (raw x).length - 1) := by
        rw [List.take_append, List.take_of_length_le (by omega)]
        congr 1
        rw [show q.toNat - (raw x).length = (q.toNat - (raw x).length - 1) + 1 by omega, List.take_succ_cons]
        simp
      simp only [tq] at zq
      have lq : (raw x ++ 0 :: bq.take (q.toNat - (raw x).length - 1)).length ≤ 40 := by
        rw [← tq, List.length_take]; omega
      simp [r2, r7, r9, r13, r14, hi, g1, g2, size_mk, zz, foldV, minV, z3, zs, i1, i2, q4, zq]
      refine wC_loop_inv (BI A (.slice av x.length cv) x) ?_ _ _ ⟨bq.take (q.toNat - (raw x).length - 1), rfl, rfl, rfl, rfl, by simp [r7], by simp, lq⟩
      rintro m ⟨env, nn, dfs, A'⟩ ⟨r, k0, k1, k2, k3, r7, r15, hl⟩
      simp only at k1 k2 k3 r7 r15
      subst k1; subst k2; subst k3
      generalize hL : raw x ++ 0 :: r = L at k0 r15 hl
      by_cases t5 : L.length % 4 = 0
      · have t6 : ((L.length : Int).tmod 4) = 0 := by rw [rem4, t5]; rfl
        simp [r7, r15, t6, size_mk]
        refine walked_ok ⟨⟨L⟩⟩ x _ A' _ s1.read (fun j hj => s1.own_lt hj) (by rw [size_mk]; omega) fun A6 e6 => ?_
        have hb' : walkR L = (x, 0) := by rw [← hL]; exact walkR_front x r p1 (by rw [hL]; exact hl) (by rw [hL]; exact t5)
        rw [decide_eq_true hb']
        simp
      · have t6 : ¬ ((L.length : Int).tmod 4) = 0 := by rw [rem4]; omega
        have t7 : ((L.length : Int).tmod 4 != 0) = true := by simp [t6]
        have i3 : ¬ (9223372036854775807 : Int) < (L.length : Int) + 1 := by omega
        have hL7 : raw x ++ 0 :: (r ++ [7]) = L ++ [7] := by rw [← hL]; simp
        simp [r7, r15, t7, size_mk, i3]
        refine ⟨_, ?_, r ++ [7], rfl, rfl, rfl, rfl, by simp [r7], by rw [hL7]; simp, ?_⟩
        · rw [hL7]; simp; omega
        · rw [hL7]; simp; omega
end Go.Proofs.Ytkojapepiojnjaa
