/- The examples, each rank, options that may not be, rooms of all sizes. -/
import Derived.Test.YtigknpfjhegkgaaGreatDam
import Derived.KernelRfl
namespace Go.Proofs.YtigknpfjhegkgaaGreat
open Go Go.AS
set_option maxRecDepth 100000
set_option linter.unusedSimpArgs false
set_option linter.unusedVariables false
attribute [local irreducible] Trie.set Trie.get Env.rd
attribute [local simp ↓] wV_b2s
attribute [local simp] Nat.add_assoc wD_cons'' wD_nil' wC_seq wC_ops wC_opsD_nil wC_cond wC_skip wC_ret wC_exit wC_block wO_cons' wO_nil wantedA wV_eq lop qop ev wL_some wL_none wPut envOf rd_set rd_leaf eqA thenC blockC wB_true wB_false endF unwindA resultsA resA tupleA rdCell rdCells wrCells cl fillP lay rep bi_eql bi_neq bi_lss bi_leq bi_gtr bi_geq bi_add bi_sub bs_eql bs_neq bi_shr4 unA get_set' AHeap.get_alloc oneCell beqd bned idxA
attribute [local simp] Op.len Op.one Op.take Op.at0 Op.head? Op.getCap Op.getAd Op.layAll Op.zeroC Op.vb

def bad : Op := Op.only 9
def odd : Op := { Op.only 5 with fail := 1 }
def six : List Op := [bad, o2, o2, odd, o2, o2]
def adE : Ad := { Op.zero.ad with echo := true }
def o3e : Op := { Op.only 3 with ad := adE }
def ten : List Op := [o1, Op.only 1, Op.only 7, Op.only 6, Op.only 8, o3e, Op.only 3, Op.only 4, Op.only 5, bad]
theorem small_w : ∀ x ∈ six ++ ten ++ [Op.zero], OkO x := by
  intro x hx
  refine OkO.of ?_
  simp only [six, ten, List.append_assoc, List.cons_append, List.nil_append, List.mem_cons, List.not_mem_nil, or_false] at hx
  rcases hx with rfl | rfl | rfl | rfl | rfl | rfl | rfl | rfl | rfl | rfl | rfl | rfl | rfl | rfl | rfl | rfl | rfl <;> exact ⟨⟨by decide, by decide, by decide⟩, ⟨by decide, by decide, by decide⟩, ⟨by decide, by decide, by decide, by decide⟩, ⟨by decide, by decide⟩, by decide, by decide, by decide⟩
theorem tkb : takes bad = 0 := by decide +kernel
theorem tko : takes odd = 0 := by decide +kernel
theorem rk0 : rankO Op.zero = 0 := by decide +kernel
theorem pk4 : takeO six (min 4611686018427387904 40) = [o2, o2, o2] ∧ leftO six (min 4611686018427387904 40) = [o2] := by decide +kernel
theorem pk5 : takeO six (min (-9223372036854775808) 40) = [] ∧ leftO six (min (-9223372036854775808) 40) = [o2, o2, o2, o2] := by decide +kernel
theorem pk6 : takeO [] (min 40 40) = [] ∧ leftO [] (min 40 40) = [] := by decide +kernel
theorem ranks : ∀ i, i < 10 → (ten[i]?).map rankO = some ((i : Nat) : Int) := by decide +kernel
theorem fzz : fillP Op.zero.cells [] = some Op.zero.cells := rfl
theorem b3c : fillP (rep 3 Op.zero.cells) [(0, 38, .agg ⟨o2.cells⟩), (38, 38, .agg ⟨o2.cells⟩), (76, 38, .agg ⟨o2.cells⟩)] = some (opsC [o2, o2, o2]) := fill_row [o2, o2, o2]
structure KnM (A : AHeap) (env : Env) (s1 s2 s3 : Nat) (tv fv : Value) : Prop where
  r1 : env.rd 1 = .pointer (some ⟨s1, 0, none⟩)
  r2 : env.rd 2 = .pointer (some ⟨s2, 0, none⟩)
  r3 : env.rd 3 = .pointer (some ⟨s3, 0, none⟩)
  r5 : env.rd 5 = tv
  r6 : env.rd 6 = fv
  r7 : ∃ a c, env.rd 7 = .slice a 0 c
  r8 : ∃ a c, env.rd 8 = .slice a 4 c
  g1 : A.get s1 = some (.cells (opsC some4) false 0)
  g2 : A.get s2 = some (.cells bad.cells false 0)
  g3 : A.get s3 = some (.cells odd.cells false 0)
  t5 : ReadAt A 38 tv 3 (opsC [o2, o2, o2])
  t6 : ReadAt A 38 fv 1 (opsC [o2])
theorem KnM.ext {A A' : AHeap} {env : Env} {s1 s2 s3 : Nat} {tv fv : Value} (h : KnM A env s1 s2 s3 tv fv) (e : Ext NoB A A') : KnM A' env s1 s2 s3 tv fv :=
  ⟨h.r1, h.r2, h.r3, h.r5, h.r6, h.r7, h.r8, e.get h.g1 id, e.get h.g2 id, e.get h.g3 id, h.t5.ext e fun _ _ q => q, h.t6.ext e fun _ _ q => q⟩
theorem known_u (A : AHeap) (env : Env) (s1 s2 s3 : Nat) (tv fv : Value) (h : KnM A env s1 s2 s3 tv fv) : wC T 5 none c5u { env := env, n := 122, dfs := [], A := A } (endF [.inl 0] (fun v _ => v = .bool true)) := by
  dsimp only [c5u]
  obtain ⟨r1, r2, r3, r5, r6, ⟨a7, c7, r7⟩, ⟨a8, c8, r8⟩, g1, g2, g3, t5, t6⟩ := h
  simp
  refine pack_ok A (.slice none 0 0) [] 40 (.inl ⟨rfl, rfl, rfl⟩) (fun j ⟨_, _, _, q⟩ => by cases q) (by decide) (fun x hx => by cases hx) _ fun B tv0 fv0 e1 t1 f1 _ _ => ?_
  rw [pk6.1] at t1; rw [pk6.2] at f1
  obtain ⟨a11, c11, rfl⟩ := t1.read.val
  obtain ⟨a12, c12, rfl⟩ := f1.read.val
  simp
  refine works_ok B _ fun C e2 => ?_
  have e12 := e1.trans e2
  have l1 := AHeap.get_lt g1
  have l2 := AHeap.get_lt g2
  have l3 := AHeap.get_lt g3
  simp [r2, e12.get g2 id]
  refine size_ok C bad (small_w bad (by simp [six])).1 _ (small_w bad (by simp [six])).2 fun D e3 => ?_
  have e13 := e12.trans e3
  rw [tkb]
  simp [r3, e13.get g3 id]
  refine size_ok D odd (small_w odd (by simp [six])).1 _ (small_w odd (by simp [six])).2 fun E e4 => ?_
  have e14 := e13.trans e4
  rw [tko]
  simp [-rep, -fillP, fzz]
  refine rank_ok E Op.zero _ fun F e5 => ?_
  have e15 := e14.trans e5
  rw [rk0]
  have g1F := e15.get g1 id
  have zF := e15.size
  simp [-rep, -fillP, -AS.lay, r5, r1, g1F, s4_len, s4_2, b3c]
  refine same_ok tv _ [o2, o2, o2] [o2, o2, o2] _ _ (t5.ext (e15.trans Ext.alloc) fun _ _ q => q) (readSl (A := F.alloc (.cells (opsC [o2, o2, o2]) false 0)) (k := F.size) (l := [o2, o2, o2]) (ro := false) (opn := 0) (by simp) (by decide)) (by decide) ?_
  have n1 : ¬ s1 = F.size := by omega
  have n2 : ¬ s1 = F.size + 1 := by omega
  simp [-rep, -fillP, -AS.lay, r6, r1, n1, n2, g1F, s4_len, s4_2, b1]
  refine same_ok fv _ [o2] [o2] _ _ (t6.ext ((e15.trans Ext.alloc).trans Ext.alloc) fun _ _ q => q) (readSl (A := (F.alloc (.cells (opsC [o2, o2, o2]) false 0)).alloc (.cells (opsC [o2]) false 0)) (k := F.size + 1) (l := [o2]) (ro := false) (opn := 0) (by simp) (by decide)) (by decide) ?_
  simp [r7, r8]
def KnI (A0 : AHeap) (s1 s2 s3 : Nat) (tv fv rv : Value) (m : Nat) (st : St) : Prop := ∃ i, m + i = 10 ∧ st.n = 122 ∧ st.dfs = [] ∧ KnM st.A st.env s1 s2 s3 tv fv ∧ st.env.rd 9 = rv ∧ st.env.rd 10 = .int .i64 (i : Nat) ∧ Ext NoB A0 st.A
theorem known_t (A : AHeap) (env : Env) (s1 s2 s3 : Nat) (tv fv rv : Value) (h : KnM A env s1 s2 s3 tv fv) (r9 : env.rd 9 = rv) (t9 : ReadAt A 38 rv ten.length (opsC ten)) : wC T 5 none c5t { env := env, n := 122, dfs := [], A := A } (endF [.inl 0] (fun v _ => v = .bool true)) := by
  dsimp only [c5t]
  simp
  obtain ⟨a9, c9, rfl⟩ := t9.val
  refine wC_loop_inv (KnI A s1 s2 s3 tv fv (.slice a9 ten.length c9)) ?_ 10 _ ⟨0, rfl, rfl, rfl, ⟨by simp [h.r1], by simp [h.r2], by simp [h.r3], by simp [h.r5], by simp [h.r6], by simpa using h.r7, by simpa using h.r8, h.g1, h.g2, h.g3, h.t5, h.t6⟩, by simp [r9], by simp, Ext.refl⟩
  clear h r9
  rintro m ⟨env, nn, dfs, B⟩ ⟨i, k0, k1, k2, h, r9, r10, e1⟩
  simp only at k1 k2 h r9 r10 e1
  subst k1; subst k2
  have hten : ten.length = 10 := rfl
  have hten' : ((ten.length : Nat) : Int) = 10 := rfl
  by_cases hi : i < 10
  case neg =>
    have hii : ¬ (i : Int) < 10 := by omega
    simp [r9, r10, hten, hten', hi, hii]
    refine known_u B _ s1 s2 s3 tv fv ?_
    exact ⟨by simp [h.r1], by simp [h.r2], by simp [h.r3], by simp [h.r5], by simp [h.r6], by simpa using h.r7, by simpa using h.r8, h.g1, h.g2, h.g3, h.t5, h.t6⟩
  have hii : (i : Int) < 10 := by omega
  have hil : i < ten.length := hi
  obtain ⟨d1, p1, cc1, bs1, ro1, opn1, q1, q2, q3, q4⟩ := (t9.ext e1 fun _ _ q => q).elem2 hil
  rw [opsC_at ten i hil] at q4
  rw [Nat.add_assoc] at q3
  cases q1
  have hrk : rankO ten[i] = (i : Int) := by
    have := ranks i hi
    rw [List.getElem?_eq_getElem hil] at this
    exact Option.some.inj this
  generalize ten[i] = x at q4 hrk
  have ws := wrap_succ i (by omega)
  simp [r9, r10, hten, hten', hi, hii, q2, q3, q4]
  refine rank_ok B x _ fun C e2 => ?_
  rw [hrk]
  simp [r10, ws]
  exact ⟨m - 1, by omega, i + 1, by omega, rfl, rfl, (show KnM C _ s1 s2 s3 tv fv from ⟨by simp [h.r1], by simp [h.r2], by simp [h.r3], by simp [h.r5], by simp [h.r6], by simpa using h.r7, by simpa using h.r8, e2.get h.g1 id, e2.get h.g2 id, e2.get h.g3 id, h.t5.ext e2 fun _ _ q => q, h.t6.ext e2 fun _ _ q => q⟩), by simp [r9], by simp, e1.trans e2⟩
theorem f9 : fillP Op.zero.cells [(0, 1, .int .i64 9)] = some bad.cells := rfl
theorem f1u : fillP [.int .u64 0] [(0, 1, .int .u64 1)] = some [.int .u64 1] := rfl
theorem fodd : fillP Op.zero.cells [(0, 1, .int .i64 5), (34, 1, .agg ⟨[.int .u64 1]⟩)] = some odd.cells := rfl
theorem fq (k : Int) : fillP Op.zero.cells [(0, 1, .int .i64 k)] = some (Op.only k).cells := rfl
theorem fade : fillP [.bool false, .int .i64 0, .string ⟨⟨[]⟩⟩, .bool false, .int .i64 0, .string ⟨⟨[]⟩⟩] [(0, 1, .bool true)] = some adE.cells := rfl
theorem fo3e : fillP Op.zero.cells [(0, 1, .int .i64 3), (26, 6, .agg ⟨adE.cells⟩)] = some o3e.cells := rfl
theorem bsix : fillP (rep 6 Op.zero.cells) [(0, 38, .agg ⟨bad.cells⟩), (38, 38, .agg ⟨o2.cells⟩), (76, 38, .agg ⟨o2.cells⟩), (114, 38, .agg ⟨odd.cells⟩), (152, 38, .agg ⟨o2.cells⟩), (190, 38, .agg ⟨o2.cells⟩)] = some (opsC six) := fill_row six
theorem bten : fillP (rep 10 Op.zero.cells) [(0, 38, .agg ⟨o1.cells⟩), (38, 38, .agg ⟨(Op.only 1).cells⟩), (76, 38, .agg ⟨(Op.only 7).cells⟩), (114, 38, .agg ⟨(Op.only 6).cells⟩), (152, 38, .agg ⟨(Op.only 8).cells⟩), (190, 38, .agg ⟨o3e.cells⟩), (228, 38, .agg ⟨(Op.only 3).cells⟩), (266, 38, .agg ⟨(Op.only 4).cells⟩), (304, 38, .agg ⟨(Op.only 5).cells⟩), (342, 38, .agg ⟨bad.cells⟩)] = some (opsC ten) := fill_row ten
theorem known_s (A : AHeap) (env : Env) (s1 s2 s3 : Nat) (tv fv : Value) (h : KnM A env s1 s2 s3 tv fv) : wC T 5 none c5s { env := env, n := 122, dfs := [], A := A } (endF [.inl 0] (fun v _ => v = .bool true)) := by
  dsimp only [c5s]
  simp [-rep, -fillP, -AS.lay, h.r1, h.g1, s4_len, s4_1, fq, fade, fo3e, h.r2, h.g2, bten]
  refine known_t _ _ s1 s2 s3 tv fv (.slice (some ⟨A.size, 0, none⟩) 10 10) ?_ (by simp) (readSl (k := A.size) (l := ten) (ro := false) (opn := 0) (by simp) (by decide))
  have e : Ext NoB A (A.alloc (.cells (opsC ten) false 0)) := Ext.alloc
  exact ⟨by simp [h.r1], by simp [h.r2], by simp [h.r3], by simp [h.r5], by simp [h.r6], by simpa using h.r7, by simpa using h.r8, e.get h.g1 id, e.get h.g2 id, e.get h.g3 id, h.t5.ext e fun _ _ q => q, h.t6.ext e fun _ _ q => q⟩
theorem known_ok (A : AHeap) : wF T (.func (.func 5) #[] #[]) [] A (fun v _ => v = .bool true) := by
  refine wF_func (first := []) (captured := []) t5 ⟨rfl, by decide⟩ ?_
  dsimp only [c5]
  simp
  refine some_ok A _ fun B eB => ?_
  simp [-rep, -fillP, -AS.lay, s4_len, z4_len, s4_lay, s4_one, s4_2, f9, f1u, fodd, bsix]
  generalize hC : AHeap.alloc _ _ = C
  have zC : C.size = B.size + 4 := by subst hC; rfl
  have eC : Ext NoB B C := by
    subst hC
    (repeat first | exact Ext.refl | assumption | refine Ext.allocN ?_ | refine Ext.setN ?_ (by first | omega | (simp; done) | (simp; omega)))
  have g1 : C.get B.size = some (.cells (opsC some4) false 0) := by subst hC; simp
  have g2 : C.get (B.size + 1) = some (.cells bad.cells false 0) := by subst hC; simp
  have g3 : C.get (B.size + 2) = some (.cells odd.cells false 0) := by subst hC; simp
  have g4 : C.get (B.size + 3) = some (.cells (opsC six) false 0) := by subst hC; simp
  have l6 := readSl g4 (by decide)
  have hL : six.length = 6 := rfl
  have own : ∀ j, Own (.slice (some ⟨B.size + 3, 0, none⟩) six.length six.length) j → j < C.size := fun j ⟨_, _, _, q⟩ => by cases q; omega
  have hw6 : ∀ x ∈ six, OkO x := fun x hx => small_w x (List.mem_append_left _ (List.mem_append_left _ hx))
  rw [hL] at l6 own
  refine pack_ok C _ six 4611686018427387904 (by rw [hL]; exact l6) own (by decide) hw6 _ fun D tv fv e1 t1 f1 _ _ => ?_
  rw [pk4.1] at t1; rw [pk4.2] at f1
  simp
  refine pack_ok D _ six (-9223372036854775808) (by rw [hL]; exact l6.ext e1 fun _ _ q => q) (fun j hj => Nat.lt_of_lt_of_le (own j hj) e1.size) (by decide) hw6 _ fun E tv2 fv2 e2 t2 f2 _ _ => ?_
  rw [pk5.1] at t2; rw [pk5.2] at f2
  obtain ⟨a2, c2, rfl⟩ := t2.read.val
  obtain ⟨a3, c3, rfl⟩ := f2.read.val
  have e12 := e1.trans e2
  simp
  exact known_s E _ B.size (B.size + 1) (B.size + 2) tv fv ⟨by simp, by simp, by simp, by simp, by simp, ⟨a2, c2, by simp⟩, ⟨a3, c3, by simp⟩, e12.get g1 id, e12.get g2 id, e12.get g3 id, t1.read.ext e2 fun _ _ q => q, f1.read.ext e2 fun _ _ q => q⟩
end Go.Proofs.YtigknpfjhegkgaaGreat
