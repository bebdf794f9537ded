/- FlowCarries: the whole. -/
import Derived.Test.YtidgbapgedegbaaCn
import Derived.Test.YtidgbapgedegbaaYes
import Derived.KernelRfl
namespace Go.Proofs.Ytidgbapgedegbaa.Fw
open Go Go.AS Ou
set_option maxRecDepth 100000
set_option linter.unusedSimpArgs false
set_option linter.unusedVariables false
attribute [local irreducible] Trie.set Trie.get Env.rd
attribute [local simp] Nat.add_assoc wD_cons'' wD_nil' wC_seq wC_ops wC_opsD_nil wC_cond wC_skip wC_ret wC_exit wC_block wO_cons' wO_nil wantedA wV_eq lop qop ev wL_some wL_none wPut envOf rd_set rd_leaf eqA thenC blockC wB_true wB_false endF unwindA resultsA resA tupleA rdCell rdCells wrCells cl fillP lay rep binA unA get_set' AHeap.get_alloc oneCell beqd bned idxA

structure Ft where
  w : Nat
  n : Nat
  s : ByteArray
def ftc (f : Ft) : List Value := [.int .u8 (f.w : Nat), .int .u8 (f.n : Nat), .string f.s]
theorem ftcz (f : Ft) : (ftc f).length = 3 := rfl

theorem line0 {A : AHeap} {z pa pb room : Nat} {fa fb : Fl} {Sa Sb : Nat → Prop} {xa xb i1 i2 i3 i4 i5 : Int} (hz : z ≤ A.size) (ha : FlowAt A pa fa [] 0 0 (some (inl0 room)) Sa) (hb : FlowAt A pb fb [] 0 0 (some (inl0 room)) Sb) (za : ∀ j, Sa j → z ≤ j) (zb : ∀ j, Sb j → z ≤ j) (dj : ∀ j, Sa j → ¬ Sb j) (ua : UpF fa xa xb i1 i2 i3) (ub : UpF fb xb xa i1 i4 i5) :
    ∃ L : Ln, LnA (A.alloc (.cells [.pointer (some ⟨pa, 0, none⟩), .pointer (some ⟨pb, 0, none⟩), .slice none 0 0, .slice none 0 0, .string ⟨⟨[]⟩⟩, .string ⟨⟨[]⟩⟩, .slice none 0 0, .int .i64 0] false 0)) A.size pa pb z L ∧ LnOk room L ∧ L.there.length ≤ 60 ∧ L.back.length ≤ 60 ∧ L.pu.length = 0 ∧ L.tg + L.ps.length = 0 := by
  generalize hA1 : A.alloc _ = A1
  obtain ⟨g1, e1, z1⟩ := alloc_facts hA1
  obtain ⟨C, c0, c1, c2, c3⟩ : ∃ C : Nat → Nat, C A.size = 6 ∧ (∀ j, Sa j → C j = 1) ∧ (∀ j, Sb j → C j = 2) ∧ ∀ j, j < z → C j = 0 := by
    classical
    refine ⟨fun j => if j < z then 0 else if j = A.size then 6 else if Sa j then 1 else 2, ?_, fun j hj => ?_, fun j hj => ?_, fun j hj => if_pos hj⟩
    · simp only; rw [if_neg (by omega)]; simp
    · have := za j hj; have := ha.own hj
      simp only; rw [if_neg (by omega), if_neg (by omega), if_pos hj]
    · have := zb j hj; have := hb.own hj
      simp only; rw [if_neg (by omega), if_neg (by omega), if_neg (fun q => dj j q hj)]
  refine ⟨⟨fa, fb, [], 0, inl0 room, inl0 room, [], [], [], [], 0⟩, ⟨.slice none 0 0, .slice none 0 0, .slice none 0 0, Sa, Sb, C, g1, ⟨AHeap.get_lt g1, by omega, ha.extN e1, hb.extN e1, .inl ⟨rfl, rfl, rfl⟩, .inl ⟨rfl, rfl, rfl⟩, .inl ⟨rfl, rfl, rfl⟩, ⟨c0, c1, c2, ?_, ?_, ?_, c3⟩⟩⟩, ?_, by simp, by simp, rfl, rfl⟩
  · rintro j ⟨o, n, c, q⟩; cases q
  · rintro j ⟨o, n, c, q⟩; cases q
  · rintro j ⟨o, n, c, q⟩; cases q
  · exact { pl := by simp, pre := rfl, bl := by simp [inl0], ch := ⟨[], [], rfl, rfl, by simp⟩, un := by simp [inl0], ne := fun q => absurd rfl q, sm := (fun q hq => by cases hq), tags := fun i hi => absurd hi (Nat.not_lt_zero _), few := by simp, a1 := ua.state, a2 := ua.fin, a3 := ua.fa, a4 := ua.ft, b1 := ub.ft, b2 := ub.fin, pe := by simp only; rw [ub.peer]; exact ua.isn.symm, pe2 := by simp only; rw [ub.isn]; exact ua.peer, tA0 := rfl, rm := rfl, bytes := (fun j c q => by simp [inl0] at q), there := (fun x hx => by cases hx), back := (fun x hx => by cases hx) }

def CrI (A1 : AHeap) (v : Value) (p pa pb z room : Nat) (k : Nat) (st : St) : Prop := ∃ (i : Nat) (L : Ln), i + k = 60 ∧ st.n = 127 ∧ st.dfs = [] ∧
  (st.env.rd 2 = v ∧ st.env.rd 7 = .pointer (some ⟨pa, 0, none⟩) ∧ st.env.rd 8 = .pointer (some ⟨pb, 0, none⟩) ∧ st.env.rd 9 = .pointer (some ⟨p, 0, none⟩)) ∧ st.env.rd 10 = .int .i64 (i : Nat) ∧
  LnA st.A p pa pb z L ∧ LnOk room L ∧ L.there.length ≤ 60 ∧ L.back.length ≤ 60 ∧ L.pu.length ≤ 40 * i ∧ L.tg + L.ps.length ≤ i ∧ Ext NoB A1 st.A
def CpI (p pa pb z room : Nat) (k : Nat) (st : St) : Prop := ∃ (i : Nat) (L : Ln), i + k = 1 ∧ st.n = 127 ∧ st.dfs = [] ∧
  (st.env.rd 7 = .pointer (some ⟨pa, 0, none⟩) ∧ st.env.rd 8 = .pointer (some ⟨pb, 0, none⟩) ∧ st.env.rd 9 = .pointer (some ⟨p, 0, none⟩)) ∧ st.env.rd 11 = .int .i64 (i : Nat) ∧
  LnA st.A p pa pb z L ∧ LnOk room L ∧ (i = 0 → L.there.length ≤ 60 ∧ L.back.length ≤ 60) ∧ (i = 1 → L.ps = [])

theorem carryE_ok {A : AHeap} {p pa pb z room : Nat} {L : Ln} (env : Env) (h : LnA A p pa pb z L) (ok : LnOk room L) (hp : L.ps = [])
    (r7 : env.rd 7 = .pointer (some ⟨pa, 0, none⟩)) (r9 : env.rd 9 = .pointer (some ⟨p, 0, none⟩)) :
    wC T 13 none c13e { env := env, n := 127, dfs := [], A := A } (endF [.inl 6] fun v _ => v = .bool true) := by
  obtain ⟨tv, bv, gv, Sa, Sb, C, gp, pt⟩ := h
  have gp' := gp
  have dn := ok.done hp
  rw [hp] at gp'
  simp only [lnc, dn] at gp'
  obtain ⟨ga, gc, hg⟩ := pt.g.read.val
  subst hg
  unfold c13e
  simp [r7]
  refine flight_ok' pt.a ?_
  simp [hp, r9, gp']

theorem carryP_ok {A : AHeap} {p pa pb z room : Nat} {L : Ln} (env : Env) (h : LnA A p pa pb z L) (ok : LnOk room L) (rm1 : 40 ≤ room) (rm2 : room ≤ 139) (h60 : L.there.length ≤ 60) (k60 : L.back.length ≤ 60)
    (r7 : env.rd 7 = .pointer (some ⟨pa, 0, none⟩)) (r8 : env.rd 8 = .pointer (some ⟨pb, 0, none⟩)) (r9 : env.rd 9 = .pointer (some ⟨p, 0, none⟩)) :
    wC T 13 none c13p { env := env, n := 127, dfs := [], A := A } (endF [.inl 6] fun v _ => v = .bool true) := by
  unfold c13p
  simp
  refine wC_loop_inv (CpI p pa pb z room) ?_ 1 _ ⟨0, L, rfl, rfl, rfl, ⟨by simp [r7], by simp [r8], by simp [r9]⟩, by simp, h, ok, fun _ => ⟨h60, k60⟩, fun q => by cases q⟩
  rintro k ⟨env', nn, dfs, A2⟩ ⟨i, L2, q1, s1, s2, ⟨q7, q8, q9⟩, q11, h2, ok2, i0, i1⟩
  simp only at s1 s2 q7 q8 q9 q11 h2
  subst s1; subst s2
  have i80 : (i : Int) < 80 := by omega
  have h2' := h2
  obtain ⟨tv, bv, gv, Sa, Sb, C, gp, pt⟩ := h2'
  by_cases c : L2.ps = []
  · simp [q7, q11, i80]
    refine flight_ok' pt.a ?_
    simp [c]
    exact carryE_ok _ h2 ok2 c (by simp [q7]) (by simp [q9])
  · have pl : 0 < (L2.ps.length : Int) := by have := List.length_pos_iff.2 c; omega
    have w11 : IntKind.i64.wrap 1 = 1 := by decide
    have pl2 : 0 < L2.ps.length := by omega
    have i00 : i = 0 := by
      rcases (show i = 0 ∨ i = 1 by omega) with q | q
      · exact q
      · exact absurd (i1 q) c
    subst i00
    simp [q7, q11, i80]
    refine flight_ok' pt.a ?_
    simp [pl, pl2]
    refine carryQ_ok _ _ h2 ok2 rm1 rm2 (i0 rfl).1 (i0 rfl).2 ?_ ?_ ?_ fun A' e L' r7 r8 r9 r11 hL okL pL => ?_
    · simp [q7]
    · simp [q8]
    · simp [q9]
    · simp at r11
      simp [r11, q11]
      exact ⟨0, by omega, 1, L', rfl, rfl, rfl, ⟨by simp [r7], by simp [r8], by simp [r9]⟩, by simp [w11], hL, okL, (fun q => by cases q), fun _ => pL⟩

theorem carries_ok (xa xb : Int) (rm : Nat) (hrm : rm < 256) (l : List Ft) (v : Value) (A : AHeap) (hxa : 0 ≤ xa ∧ xa < 4294967296) (hxb : 0 ≤ xb ∧ xb < 4294967296) (hl8 : ∀ f ∈ l, f.w < 256 ∧ f.n < 256) (hs : ReadAt A 3 v l.length (encs ftc l)) (hl : ∀ j, Own v j → j < A.size) :
    wF T (.func (.func 13) #[] #[]) [.agg ⟨[.int .u32 xa, .int .u32 xb]⟩, .int .u8 (rm : Nat), v] A (fun v _ => v = .bool true) := by
  refine wF_func (first := []) (captured := []) t13 ⟨rfl, by decide⟩ ?_
  dsimp only [c13]
  simp
  generalize hA1 : A.alloc _ = A1
  obtain ⟨g1, e1, z1⟩ := alloc_facts hA1
  refine yes_ok _ _ ?_
  have l1 := AHeap.get_lt g1
  have wm : (rm : Int).tmod 100 = ((rm % 100 : Nat) : Int) := tmodN rm 100
  obtain ⟨r, hr⟩ : ∃ r, rm % 100 = r := ⟨_, rfl⟩
  rw [hr] at wm
  have r100 : r < 100 := hr ▸ Nat.mod_lt _ (by decide)
  have w1 : IntKind.i64.wrap (r : Int) = r := IntWalk.i64_in _ (by omega)
  have w2 : IntKind.i64.wrap (40 + (r : Int)) = ((40 + r : Nat) : Int) := by rw [IntWalk.i64_in _ (by omega)]; omega
  simp [g1, l1, wm, w1, w2]
  refine pair_ok 2 xa xb (40 + r) (by decide) (by decide) (by omega) (by omega) hxa hxb fun A2 pa pb fa fb Sa Sb ha hb e2 sa sb dj ua ub => ?_
  simp
  have e12 := e1.trans e2
  obtain ⟨L, k1, k2, k3, k4, k5, k6⟩ := line0 (e2.size) ha hb sa sb dj ua ub
  generalize hA3 : A2.alloc _ = A3 at *
  have k1' := k1
  obtain ⟨v1, v2, hv⟩ := hs.val
  subst hv
  have e13 : Ext NoB A A3 := e12.trans (hA3 ▸ Ext.alloc)
  have e23 : Ext NoB A1 A3 := e2.trans (hA3 ▸ Ext.alloc)
  refine wC_loop_inv (CrI A1 (.slice v1 l.length v2) A2.size pa pb A1.size (40 + r)) ?_ 60 _ ⟨0, L, rfl, rfl, rfl, ⟨by simp, by simp, by simp, by simp⟩, by simp, k1, k2, k3, k4, by omega, by omega, e23⟩
  rintro k ⟨env', nn, dfs, A4⟩ ⟨i, L4, q0, s1, s2, ⟨q2, q7, q8, q9⟩, q10, h4, ok4, f1, f2, f3, f4, ex⟩
  simp only at s1 s2 q2 q7 q8 q9 q10 h4 ex
  subst s1; subst s2
  have go : ∀ e : Env, e.rd 7 = .pointer (some ⟨pa, 0, none⟩) → e.rd 8 = .pointer (some ⟨pb, 0, none⟩) → e.rd 9 = .pointer (some ⟨A2.size, 0, none⟩) → wC T 13 none c13p { env := e, n := 127, dfs := [], A := A4 } (endF [.inl 6] fun v _ => v = .bool true) := fun e a b c => carryP_ok e h4 ok4 (by omega) (by omega) f1 f2 a b c
  by_cases c : i < l.length
  case' neg =>
    simp [q2, q10, c]
    exact go _ (by simp [q7]) (by simp [q8]) (by simp [q9])
  case' pos =>
    by_cases c6 : i < 60
    case' neg =>
      have c6' : ¬ (i : Int) < 60 := by omega
      simp [q2, q10, c, c6']
      exact go _ (by simp [q7]) (by simp [q8]) (by simp [q9])
    case pos =>
      have c6' : (i : Int) < 60 := by omega
      obtain ⟨d, o, cc, bs, ro, opn, y1, y2, y3, y4⟩ := (hs.ext (e1.trans ex) fun _ _ => id).elem2 c
      cases y1
      rw [encs_at ftcz _ i c] at y4
      have y3' : o + (i * 3 + 3) ≤ bs.length := by omega
      obtain ⟨⟨fw, fn, ⟨⟨fs⟩⟩⟩, hf⟩ : ∃ f, l[i] = f := ⟨_, rfl⟩
      have hf8 := hl8 _ (List.getElem_mem c)
      rw [hf] at y4 hf8
      simp only [ftc] at y4
      have w3 : IntKind.i64.wrap ((i : Int) + 1) = ((i + 1 : Nat) : Int) := IntWalk.i64_in _ (by omega)
      simp [q2, q9, q10, c, c6', idxA, y2, y3', y4]
      refine does_ok fw fn hf8.1 hf8.2 fs h4 ok4 f1 f2 (by omega) (by omega) fun A5 w L5 h5 dn e5 => ?_
      simp [q9]
      refine right_ok h5 dn.ok fun A6 e6 => ?_
      simp [q10]
      have := dn.pu
      have := dn.many
      exact ⟨k - 1, by omega, i + 1, L5, by omega, rfl, rfl, ⟨by simp [q2], by simp [q7], by simp [q8], by simp [q9]⟩, by simpa using w3, h5.ext0 e6, dn.ok, dn.th, dn.bk, by omega, by omega, (ex.trans2 e5 fun j hj q => by omega).trans e6⟩
end Go.Proofs.Ytidgbapgedegbaa.Fw
