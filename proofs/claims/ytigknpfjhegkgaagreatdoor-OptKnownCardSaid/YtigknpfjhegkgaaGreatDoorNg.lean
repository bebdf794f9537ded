/- Texts of this claim, one behind the other. -/
import Derived.Test.YtigknpfjhegkgaaGreatDoorKa
import Derived.Test.YtigknpfjhegkgaaGreatDoorKh
import Derived.KernelRfl
section
/- Words for areas. -/
namespace Go.Proofs.YtigknpfjhegkgaaGreatDoor.Ar
open Go Go.AS
set_option maxRecDepth 100000
set_option linter.unusedSimpArgs false
set_option linter.unusedVariables false
attribute [local irreducible] Trie.set Trie.get Env.rd
attribute [local simp ↓] wV_b2s
attribute [local simp] Nat.add_assoc wD_cons'' wD_nil' wC_seq wC_ops wC_opsD_nil wC_cond wC_skip wC_ret wC_exit wC_block wO_cons' wO_nil wantedA wV_eq lop qop ev wL_some wL_none wPut envOf rd_set rd_leaf eqA thenC blockC wB_true wB_false endF unwindA resultsA resA tupleA rdCell rdCells wrCells cl fillP AS.lay rep binA unA get_set' AHeap.get_alloc oneCell

theorem wrap_nat (n : Nat) (h : n < 9000000000000000000) : IntKind.i64.wrap (n : Int) = n := IntWalk.i64_in _ (by omega)
theorem wrap_succ (n : Nat) (h : n < 9000000000000000000) : IntKind.i64.wrap ((n : Int) + 1) = ((n + 1 : Nat) : Int) := by
  rw [show ((n : Int) + 1) = ((n + 1 : Nat) : Int) by omega]; exact IntWalk.i64_in _ (by omega)

theorem size_mk (l : List UInt8) : (⟨⟨l⟩⟩ : ByteArray).size = l.length := rfl

theorem sliceS_to (s : ByteArray) (k : IntKind) (j : Int) (h0 : 0 ≤ j) (h : j ≤ s.size) : sliceSA (.string s) none (some (.int k j)) = some (.string ⟨⟨s.data.toList.take j.toNat⟩⟩) := by
  have hb : bnd (.int k j) s.size = some j.toNat := by
    simp only [bnd]; rw [if_pos ⟨h0, by omega⟩]
  unfold sliceSA
  delta bndsA
  simp [hb]

theorem take2 {bs : List Value} {k : Nat} {a b : Value} (h : (bs.drop k).take 2 = [a, b]) : bs[k]? = some a ∧ bs[k + 1]? = some b := by
  have f : ∀ i, i < 2 → bs[k + i]? = [a, b][i]? := fun i hi => by
    rw [← h, List.getElem?_take_of_lt hi, List.getElem?_drop]
  exact ⟨f 0 (by decide), f 1 (by decide)⟩

/-- An item. -/
structure It where
  kind : Int
  body : ByteArray
  deriving DecidableEq

def icells (l : List It) : List Value := l.flatMap fun x => [.int .i64 x.kind, .string x.body]

theorem icells_len (l : List It) : (icells l).length = l.length * 2 := by
  induction l with
  | nil => rfl
  | cons p l ih => simp only [icells, List.flatMap_cons, List.length_append, List.length_cons, List.length_nil] at ih ⊢; omega
theorem icells_app (l : List It) (x : It) : icells (l ++ [x]) = icells l ++ [.int .i64 x.kind, .string x.body] := by simp [icells]
theorem icells_at (l : List It) (i : Nat) (hi : i < l.length) : ((icells l).drop (i * 2)).take 2 = [.int .i64 l[i].kind, .string l[i].body] := by
  induction l generalizing i with
  | nil => simp at hi
  | cons p l ih =>
    cases i with
    | zero => simp [icells]
    | succ i =>
      have := ih i (by simpa using hi)
      rw [show (i + 1) * 2 = 2 + i * 2 by omega, ← List.drop_drop]
      simpa [icells] using this
theorem icells_one (l : List It) : (icells l).all oneCell = true := by
  induction l with
  | nil => rfl
  | cons p l ih => simp only [icells, List.flatMap_cons, List.all_append] at ih ⊢; rw [ih]; rfl
theorem icells_take (l : List It) (k : Nat) : (icells l).take (k * 2) = icells (l.take k) := by
  induction l generalizing k with
  | nil => simp [icells]
  | cons p l ih =>
    cases k with
    | zero => simp [icells]
    | succ k =>
      have := ih k
      rw [show (k + 1) * 2 = k * 2 + 2 by omega]
      simp only [icells, List.flatMap_cons, List.take_succ_cons, List.cons_append, List.nil_append] at this ⊢
      rw [this]

/-- Bytes at a slice's end. -/
theorem appB (A A1 : AHeap) (bv x : Value) (l t : List UInt8) (h : SliceAt A 1 bv l.length (bcells l)) (e : Ext NoB A A1) (hx : lenA x = some t.length) (hf : firstA A1 1 t.length x = some (bcells t)) (hn : l.length + t.length < 1000000) :
    ∃ a' c' A', appA A1 1 1 bv x = some (.slice a' (l.length + t.length) c', A') ∧ SliceAt A' 1 (.slice a' (l.length + t.length) c') (l ++ t).length (bcells (l ++ t)) ∧ Ext (Own bv) A A' ∧ ∀ j, Own (.slice a' (l.length + t.length) c') j → Own bv j ∨ A.size ≤ j := by
  obtain ⟨v', A', k1, k2, k3, k4⟩ := (h.ext e fun _ _ q => q).append (x := x) (m := t.length) (bytes := 1) (new := bcells t) (by decide) hx hf (by simp [bcells, byt, oneCell]) (by simp [bcells, byt]) (by omega) (by decide) (fun _ => rfl)
  obtain ⟨a', c', hv⟩ := k2.read.val
  subst hv
  refine ⟨a', c', A', k1, by simpa [bcells, byt] using k2, (e.mono fun _ _ q => q.elim).trans k3, fun j hj => ?_⟩
  rcases k4 j hj with q | q
  · exact .inl q
  · exact .inr (Nat.le_trans e.size q)

/-- One item at a slice's end. -/
theorem appI (A A1 : AHeap) (v x : Value) (l : List It) (t : It) (h : SliceAt A 2 v l.length (icells l)) (e : Ext NoB A A1) (hx : lenA x = some 1) (hf : firstA A1 2 1 x = some [.int .i64 t.kind, .string t.body]) (hn : l.length < 1000000) :
    ∃ a' c' A', appA A1 2 24 v x = some (.slice a' (l.length + 1) c', A') ∧ SliceAt A' 2 (.slice a' (l.length + 1) c') (l ++ [t]).length (icells (l ++ [t])) ∧ Ext (Own v) A A' ∧ ∀ j, Own (.slice a' (l.length + 1) c') j → Own v j ∨ A.size ≤ j := by
  obtain ⟨v', A', k1, k2, k3, k4⟩ := (h.ext e fun _ _ q => q).append (x := x) (m := 1) (bytes := 24) (new := [.int .i64 t.kind, .string t.body]) (by decide) hx hf (by simp [oneCell]) (by simp) (by omega) (by decide) (by
    intro hs; cases x <;> first | (cases hs; done) | (exfalso; simp only [firstA, Option.some.injEq] at hf; have := congrArg List.length hf; simp at this; omega))
  obtain ⟨a', c', hv⟩ := k2.read.val
  subst hv
  refine ⟨a', c', A', k1, by rw [icells_app]; simpa using k2, (e.mono fun _ _ q => q.elim).trans k3, fun j hj => ?_⟩
  rcases k4 j hj with q | q
  · exact .inl q
  · exact .inr (Nat.le_trans e.size q)

/-! ## What items are laid as -/
def It.ok (x : It) : Prop := 2 ≤ x.kind ∧ x.kind ≤ 255 ∧ x.body.size ≤ 253
instance (x : It) : Decidable x.ok := by unfold It.ok; infer_instance
def It.raw (x : It) : List UInt8 := UInt8.ofNat x.kind.toNat :: UInt8.ofNat (2 + x.body.size) :: x.body.data.toList
def raw (l : List It) : List UInt8 := l.flatMap It.raw
def pad (l : List UInt8) : List UInt8 := l ++ List.replicate ((4 - l.length % 4) % 4) 0
def layR (l : List It) : ByteArray × Int := if l.all (fun x => decide x.ok) then (if (raw l).length ≤ 40 then (⟨⟨pad (raw l)⟩⟩, 0) else (⟨⟨[]⟩⟩, 6)) else (⟨⟨[]⟩⟩, 2)

theorem It.raw_len (x : It) : x.raw.length = 2 + x.body.size := by
  show x.body.data.toList.length + 1 + 1 = _
  have : x.body.data.toList.length = x.body.size := rfl
  omega
theorem raw_app (l : List It) (x : It) : raw (l ++ [x]) = raw l ++ x.raw := by simp [raw]
theorem pad_done (l : List UInt8) (h : l.length % 4 = 0) : pad l = l := by simp [pad, h]
theorem pad_step (l : List UInt8) (h : ¬ l.length % 4 = 0) : pad (l ++ [0]) = pad l := by
  unfold pad
  rw [List.length_append, List.append_assoc]
  congr 1
  simp only [List.length_cons, List.length_nil, Nat.zero_add]
  have : (4 - l.length % 4) % 4 = (4 - (l.length + 1) % 4) % 4 + 1 := by omega
  rw [this, List.replicate_succ]; rfl

theorem rem4 (n : Nat) : ((n : Int).tmod 4) = ((n % 4 : Nat) : Int) := IntWalk.up_tmod (y := 4) rfl rfl
end Go.Proofs.YtigknpfjhegkgaaGreatDoor.Ar
end

section
/- The contract of Lay of areas. -/
namespace Go.Proofs.YtigknpfjhegkgaaGreatDoor.Ar
open Go Go.AS
set_option maxRecDepth 100000
set_option linter.unusedSimpArgs false
set_option linter.unusedVariables false
attribute [local irreducible] Trie.set Trie.get Env.rd
attribute [local simp ↓] wV_b2s
attribute [local simp] Nat.add_assoc wD_cons'' wD_nil' wC_seq wC_ops wC_opsD_nil wC_cond wC_skip wC_ret wC_exit wC_block wO_cons' wO_nil wantedA wV_eq lop qop ev wL_some wL_none wPut envOf rd_set rd_leaf eqA thenC blockC wB_true wB_false endF unwindA resultsA resA tupleA rdCell rdCells wrCells cl fillP AS.lay rep binA unA get_set' AHeap.get_alloc oneCell

def LI (A0 : AHeap) (lv : Value) (its : List It) (m : Nat) (st : St) : Prop := ∃ i bv l, m + i = its.length ∧ st.n = 54 ∧ st.dfs = [] ∧ st.env.rd 7 = lv ∧ st.env.rd 8 = .int .i64 (its.length : Nat) ∧ st.env.rd 9 = .int .i64 (i : Nat) ∧ st.env.rd 4 = bv ∧
  Ext NoB A0 st.A ∧ SliceAt st.A 1 bv l.length (bcells l) ∧ (∀ j, Own bv j → A0.size ≤ j) ∧ l = raw (its.take i) ∧ (its.take i).all (fun x => decide x.ok) = true ∧ l.length ≤ 300 * i

def PI (A0 : AHeap) (l0 : List UInt8) (m : Nat) (st : St) : Prop := ∃ bv l, m = (4 - l.length % 4) % 4 ∧ st.n = 54 ∧ st.dfs = [] ∧ st.env.rd 4 = bv ∧
  Ext NoB A0 st.A ∧ SliceAt st.A 1 bv l.length (bcells l) ∧ (∀ j, Own bv j → A0.size ≤ j) ∧ pad l = pad l0 ∧ l.length ≤ 44

theorem u8_of (n : Int) (h0 : 0 ≤ n) (h : n ≤ 255) : IntKind.u8.wrap n = ((UInt8.ofNat n.toNat).toNat : Int) := by
  rw [IntWalk.u8_in n ⟨h0, h⟩]
  have : (UInt8.ofNat n.toNat).toNat = n.toNat := by
    rw [UInt8.toNat_ofNat']
    exact Nat.mod_eq_of_lt (by omega)
  omega

theorem lay_ok (its : List It) (lv : Value) (A0 : AHeap) (Q : Value → AHeap → Prop) (h : ReadAt A0 2 lv its.length (icells its)) (hn : its.length ≤ 1000)
    (hq : ∀ A', Ext NoB A0 A' → Q (.tuple ⟨[.string (layR its).1, .int .i64 (layR its).2]⟩) A') : wF T (.func (.func 26) #[] #[]) [lv] A0 Q := by
  obtain ⟨a1, c1, rfl⟩ := h.val
  refine wF_func (first := []) (captured := []) t26 ⟨rfl, by decide⟩ ?_
  dsimp only [c26]; simp
  refine wC_loop_inv (LI A0 (.slice a1 its.length c1) its) ?_ its.length _ ⟨0, .slice none 0 0, [], by omega, rfl, rfl, by simp, by simp, by simp, by simp, Ext.refl, .nil, (fun j ⟨_, _, _, q⟩ => by cases q), by simp [raw], by simp, by simp⟩
  rintro m ⟨env, nn, dfs, A⟩ ⟨i, bv, l, k0, k1, k2, k7, k8, k9, k4, e1, s1, o1, hl, hok, hlen⟩
  simp only at k1 k2 k7 k8 k9 k4 e1 s1
  subst k1; subst k2
  by_cases hi : i < its.length
  · obtain ⟨d1, p1, cc1, bs1, ro1, opn1, q1, q2, q3, q4⟩ := (h.ext e1 fun _ _ q => q).elem2 hi
    rw [icells_at its i hi] at q4
    cases q1
    rw [Nat.add_assoc] at q3
    have ht : its.take (i + 1) = its.take i ++ [its[i]] := by rw [List.take_add_one, List.getElem?_eq_getElem hi]; rfl
    generalize hx : its[i] = x at q4 ht
    by_cases hxk : x.ok
    · obtain ⟨x1, x2, x3⟩ := hxk
      have y1 : ¬ x.kind ≤ 1 := by omega
      have y2 : ¬ 255 < x.kind := by omega
      have y3 : ¬ (253 : Int) < x.body.size := by omega
      obtain ⟨kb, hkb⟩ : ∃ kb : UInt8, UInt8.ofNat x.kind.toNat = kb := ⟨_, rfl⟩
      obtain ⟨nb, hnb⟩ : ∃ nb : UInt8, UInt8.ofNat (2 + x.body.size) = nb := ⟨_, rfl⟩
      have w1 := u8_of x.kind (by omega) x2
      have w2 : IntKind.i64.wrap (2 + (x.body.size : Int)) = 2 + (x.body.size : Int) := IntWalk.i64_in _ (by omega)
      have w3 := u8_of (2 + (x.body.size : Int)) (by omega) (by omega)
      rw [show (2 + (x.body.size : Int)).toNat = 2 + x.body.size by omega] at w3
      rw [hkb] at w1
      rw [hnb] at w3
      have hraw : x.raw = [kb, nb] ++ x.body.data.toList := by unfold It.raw; rw [hkb, hnb]; rfl
      have hbl : x.body.data.toList.length = x.body.size := rfl
      simp [k7, k8, k9, hi, idxA, q2, q3, q4, y1, y2, y3]
      refine wC_opsD_chk ?_
      simp [k4, w1, w2, w3]
      generalize hH : (A.alloc _).set A.size _ = H
      have zH : H.size = A.size + 1 := by rw [← hH]; rfl
      have eH : Ext NoB A H := ⟨by omega, fun j hj _ => by rw [← hH]; simp [show j ≠ A.size by omega]⟩
      have gH : H.get A.size = some (.cells [.int .i64 x.kind, .string x.body] false 0) := by rw [← hH]; simp
      obtain ⟨a2, c2, A2, s2, t2, u2, v2⟩ := appB H (H.alloc (.cells [.int .u8 (kb.toNat : Int), .int .u8 (nb.toNat : Int)] false 0)) bv (.slice (some ⟨A.size + 1, 0, none⟩) 2 2) l [kb, nb] (s1.ext eH fun _ _ q => q) Ext.alloc rfl (by simp [firstA, rdCells, ENDCAP, bcells, byt, zH]) (by simp; omega)
      have nb0 : ¬ Own bv A.size := fun q => by have := s1.own_lt q; omega
      have g2 := u2.get gH nb0
      obtain ⟨a3, c3, A3, s3, t3, u3, v3⟩ := appB A2 A2 _ (.string x.body) (l ++ [kb, nb]) x.body.data.toList t2 Ext.refl rfl (by simp only [firstA]; rw [List.take_of_length_le (Nat.le_refl _)]; rfl) (by simp; omega)
      have nb1 : ¬ Own (.slice a2 (l.length + [kb, nb].length) c2) A.size := fun q => by
        rcases v2 _ q with q | q
        · exact nb0 q
        · omega
      have g3 := u3.get g2 nb1
      simp at s2 s3
      have e3 : Ext NoB A0 A3 := ((e1.trans2 eH fun _ _ q => q).trans2 u2 fun j hj q => by have := o1 j q; omega).trans2 u3 fun j hj q => by
        have := e1.size
        rcases v2 j q with q | q
        · have := o1 j q; omega
        · omega
      simp [s2, s3, g2, g3, k4]
      refine wE_intro ?_ ?_
      · simp only [List.all_cons, List.all_nil, chkOk, List.nil_append, List.cons_append, List.getElem?_cons_succ, List.getElem?_cons_zero]
        simp [Bx, gH, g2, vbeq, show A.size ≠ H.size by omega]
      have ws := wrap_succ i (by omega)
      have hl3 : (l ++ [kb, nb] ++ x.body.data.toList).length = l.length + (2 + x.body.size) := by simp; rw [← hbl]; simp; omega
      simp [k9]
      refine ⟨m - 1, by omega, i + 1, _, _, by omega, rfl, rfl, by simp [k7], by simp [k8], by simpa using ws, by simp, e3, t3, ?_, ?_, ?_, ?_⟩
      · intro j hj
        have := e1.size
        rcases v3 j hj with q | q
        · rcases v2 j q with q | q
          · exact o1 j q
          · omega
        · have := eH.size; have := u2.size; omega
      · rw [ht, raw_app, hraw, ← hl]; simp
      · rw [ht, List.all_append, hok]; simp; exact ⟨x1, x2, x3⟩
      · rw [hl3]; omega
    · have hbad : its.all (fun x => decide x.ok) = false := by
        rw [List.all_eq_false]
        exact ⟨x, by rw [← hx]; exact List.getElem_mem hi, by simpa using hxk⟩
      have hR : layR its = (⟨⟨[]⟩⟩, 2) := by unfold layR; rw [hbad]; rfl
      rw [hR] at hq
      have eH : Ext NoB A ((A.alloc (.cells [.int .i64 0, .string ⟨⟨[]⟩⟩] false 0)).set A.size (.cells [.int .i64 x.kind, .string x.body] false 0)) := ⟨by simp, fun j hj _ => by simp [show j ≠ A.size by omega]⟩
      by_cases y1 : x.kind ≤ 1
      · simp [k7, k8, k9, hi, idxA, q2, q3, q4, y1]
        exact hq _ (e1.trans eH)
      · by_cases y2 : 255 < x.kind
        · simp [k7, k8, k9, hi, idxA, q2, q3, q4, y1, y2]
          exact hq _ (e1.trans eH)
        · have y3 : (253 : Int) < x.body.size := by
            have : ¬ x.body.size ≤ 253 := fun q => hxk ⟨by omega, by omega, q⟩
            omega
          simp [k7, k8, k9, hi, idxA, q2, q3, q4, y1, y2, y3]
          exact hq _ (e1.trans eH)
  · have hm : its.take i = its := List.take_of_length_le (by omega)
    rw [hm] at hl hok
    have hbv : ∃ a c, bv = .slice a l.length c := s1.read.val
    obtain ⟨ab, cb, hbv⟩ := hbv
    subst hbv
    by_cases y4 : l.length ≤ 40
    · have y4' : ¬ (40 : Int) < (l.length : Int) := by omega
      have hR : layR its = (⟨⟨pad (raw its)⟩⟩, 0) := by unfold layR; rw [hok, if_pos rfl, ← hl, if_pos y4]
      rw [hR, ← hl] at hq
      simp [k7, k8, k9, hi, k4, y4']
      refine wC_loop_inv (PI A0 l) ?_ _ _ ⟨.slice ab l.length cb, l, rfl, rfl, rfl, by simp [k4], e1, s1, o1, rfl, by omega⟩
      rintro m ⟨env, nn, dfs, A⟩ ⟨bv, l', k0, k1, k2, k4, e1, s1, o1, hp, hlen⟩
      simp only at k1 k2 k4 e1 s1
      subst k1; subst k2
      obtain ⟨ab, cb, hbv⟩ := s1.read.val
      subst hbv
      by_cases y5 : l'.length % 4 = 0
      · have y6 : ((l'.length : Int).tmod 4) = 0 := by rw [rem4, y5]; rfl
        have b1 := b2s_ok s1.read
        rw [pad_done l' y5] at hp
        rw [← hp] at hq
        simp [k4, y6, b1]
        exact hq _ e1
      · have y6 : ¬ ((l'.length : Int).tmod 4) = 0 := by rw [rem4]; omega
        have y7 : ((l'.length : Int).tmod 4 != 0) = true := by simp [y6]
        simp [k4, y7]
        obtain ⟨a2, c2, A2, s2, t2, u2, v2⟩ := appB A (A.alloc (.cells [.int .u8 0] false 0)) _ (.slice (some ⟨A.size, 0, none⟩) 1 1) l' [0] s1 Ext.alloc rfl (by simp [firstA, rdCells, ENDCAP, bcells, byt]) (by simp; omega)
        simp at s2
        simp [s2]
        refine ⟨_, ?_, _, _, rfl, rfl, rfl, by simp, e1.trans2 u2 fun j hj q => by have := o1 j q; omega, t2, ?_, ?_, ?_⟩
        · simp; omega
        · intro j hj
          have := e1.size
          rcases v2 j hj with q | q
          · exact o1 j q
          · omega
        · rw [pad_step l' y5, hp]
        · simp; omega
    · have y4' : (40 : Int) < (l.length : Int) := by omega
      have hR : layR its = (⟨⟨[]⟩⟩, 6) := by unfold layR; rw [hok, if_pos rfl, ← hl, if_neg y4]
      rw [hR] at hq
      simp [k7, k8, k9, hi, k4, y4']
      exact hq _ e1
end Go.Proofs.YtigknpfjhegkgaaGreatDoor.Ar
end

section
/- The contract of Size, and what a loop over an area does with what it is given. -/
namespace Go.Proofs.YtigknpfjhegkgaaGreatDoor.Ar
open Go Go.AS
set_option maxRecDepth 100000
set_option linter.unusedSimpArgs false
set_option linter.unusedVariables false
attribute [local irreducible] Trie.set Trie.get Env.rd
attribute [local simp ↓] wV_b2s
attribute [local simp] Nat.add_assoc wD_cons'' wD_nil' wC_seq wC_ops wC_opsD_nil wC_cond wC_skip wC_ret wC_exit wC_block wO_cons' wO_nil wantedA wV_eq lop qop ev wL_some wL_none wPut envOf rd_set rd_leaf eqA thenC blockC wB_true wB_false endF unwindA resultsA resA tupleA rdCell rdCells wrCells cl fillP AS.lay rep binA unA get_set' AHeap.get_alloc oneCell
theorem size_ok (its : List It) (lv : Value) (A0 : AHeap) (Q : Value → AHeap → Prop) (h : ReadAt A0 2 lv its.length (icells its)) (hn : its.length ≤ 1000)
    (hq : ∀ A', Ext NoB A0 A' → Q (.int .i64 ((layR its).1.size : Nat)) A') : wF T (.func (.func 25) #[] #[]) [lv] A0 Q := by
  refine wF_func (first := []) (captured := []) t25 ⟨rfl, by decide⟩ ?_
  dsimp only [c25]; simp
  refine lay_ok its lv A0 _ h hn fun A' e => ?_
  simp
  exact hq A' e

def itemsP (its : List It) (n : Nat) : Prop := (∀ x ∈ its, x.ok) ∧ (raw its).length = n ∧ n ≤ 40 ∧ its.length ≤ n

theorem itemsP.snoc {its : List It} {n : Nat} (h : itemsP its n) {x : It} (hx : x.ok) (hn : n + (2 + x.body.size) ≤ 40) : itemsP (its ++ [x]) (n + (2 + x.body.size)) := by
  obtain ⟨h1, h2, h3, h4⟩ := h
  refine ⟨fun y hy => ?_, ?_, hn, ?_⟩
  · rcases List.mem_append.1 hy with q | q
    · exact h1 y q
    · rw [List.mem_singleton] at q; subst q; exact hx
  · rw [raw_app, List.length_append, h2, It.raw_len]
  · simp; omega


theorem sliceS_mid (s : ByteArray) (k1 k2 : IntKind) (i j : Nat) (hij : i ≤ j) (hj : j ≤ s.size) : sliceSA (.string s) (some (.int k1 (i : Int))) (some (.int k2 (j : Int))) = some (.string ⟨⟨(s.data.toList.drop i).take (j - i)⟩⟩) := by
  have h1 : bnd (.int k2 (j : Int)) s.size = some j := bnd_nat k2 j s.size hj
  have h2 : bnd (.int k1 (i : Int)) j = some i := bnd_nat k1 i j hij
  unfold sliceSA
  delta bndsA
  simp [h1, h2]

/-- What stands in a text: its items up to its end or what is wrong, and what is wrong. -/
def walkL : List UInt8 → List It × Int
  | [] => ([], 0)
  | k :: r =>
    if k = 0 then ([], 0) else if k = 1 then walkL r else
    match r with
    | [] => ([], 4)
    | n :: r' => if n.toNat < 2 then ([], 5) else if r'.length + 2 < n.toNat then ([], 4) else
      ((⟨(k.toNat : Int), ⟨⟨r'.take (n.toNat - 2)⟩⟩⟩ : It) :: (walkL (r'.drop (n.toNat - 2))).1, (walkL (r'.drop (n.toNat - 2))).2)
termination_by l => l.length
decreasing_by all_goals (simp only [List.length_cons, List.length_drop]; omega)

theorem walkL_nil : walkL [] = ([], 0) := by rw [walkL.eq_def]
theorem walkL_zero (r : List UInt8) : walkL (0 :: r) = ([], 0) := by rw [walkL.eq_def]; simp
theorem walkL_one (r : List UInt8) : walkL (1 :: r) = walkL r := by rw [walkL.eq_def]; simp
theorem walkL_short (k : UInt8) (h0 : k ≠ 0) (h1 : k ≠ 1) : walkL [k] = ([], 4) := by rw [walkL.eq_def]; simp [h0, h1]
theorem walkL_form (k n : UInt8) (r : List UInt8) (h0 : k ≠ 0) (h1 : k ≠ 1) (hn : n.toNat < 2) : walkL (k :: n :: r) = ([], 5) := by rw [walkL.eq_def]; simp [h0, h1, hn]
theorem walkL_long (k n : UInt8) (r : List UInt8) (h0 : k ≠ 0) (h1 : k ≠ 1) (hn : ¬ n.toNat < 2) (hl : r.length + 2 < n.toNat) : walkL (k :: n :: r) = ([], 4) := by rw [walkL.eq_def]; simp [h0, h1, hn, hl]
theorem walkL_item (k n : UInt8) (r : List UInt8) (h0 : k ≠ 0) (h1 : k ≠ 1) (hn : ¬ n.toNat < 2) (hl : ¬ r.length + 2 < n.toNat) : walkL (k :: n :: r) = ((⟨(k.toNat : Int), ⟨⟨r.take (n.toNat - 2)⟩⟩⟩ : It) :: (walkL (r.drop (n.toNat - 2))).1, (walkL (r.drop (n.toNat - 2))).2) := by rw [walkL.eq_def]; simp [h0, h1, hn, hl]

/-- Walk's answer. -/
def walkR (s : List UInt8) : List It × Int := if 40 < s.length then ([], 6) else if s.length % 4 ≠ 0 then ([], 5) else if (walkL s).2 = 0 then walkL s else ([], (walkL s).2)

def c13a : ACode := (.ops [⟨some 4, none, .alloc 162 [.int .i64 (0), .int .i64 (0), .string ⟨⟨[]⟩⟩]⟩,
         ⟨none, none, .store 3 (.tmp 4) (.tmp 17)⟩])
def c13b : ACode := (.block 2
        (.seq
         (.seq
          (.ops [⟨some 18, none, .faddr 0 (.tmp 4)⟩,
            ⟨some 19, none, .load1 (.tmp 18)⟩,
            ⟨some 20, none, .faddr 1 (.tmp 4)⟩,
            ⟨some 21, none, .load1 (.tmp 20)⟩,
            ⟨some 22, none, .build [.int .i64 (0), .int .i64 (0), .string ⟨⟨[]⟩⟩] [(0, 1, (.tmp 19)), (1, 1, (.tmp 21)), (2, 1, (.const (.string ⟨⟨[]⟩⟩)))]⟩,
            ⟨some 5, none, .alloc 162 [.int .i64 (0), .int .i64 (0), .string ⟨⟨[]⟩⟩]⟩,
            ⟨none, none, .store 3 (.tmp 5) (.tmp 22)⟩])
          (.seq
           (.ops [⟨some 23, none, .loadN 3 (.tmp 4)⟩,
             ⟨some 24, none, .loadN 3 (.tmp 5)⟩,
             ⟨some 25, none, .eqF false [(0, .i), (1, .i), (2, .s)] (.tmp 23) (.tmp 24)⟩,
             ⟨some 26, none, .mov (.tmp 25)⟩,
             ⟨some 27, some (26, true), .faddr 1 (.tmp 4)⟩,
             ⟨some 28, some (26, true), .load1 (.tmp 27)⟩,
             ⟨some 29, some (26, true), .bin .neq (.tmp 28) (.const (.int .i64 (0)))⟩,
             ⟨some 30, none, .pick (.tmp 26) (.tmp 29) (.const (.bool false))⟩])
           (.cond (.tmp 30)
            (.seq
             (.opsD [⟨some 31, none, .faddr 1 (.tmp 4)⟩,
               ⟨some 32, none, .load1 (.tmp 31)⟩,
               ⟨none, none, .store 1 (.tmp 2) (.const (.slice none 0 0))⟩,
               ⟨none, none, .store 1 (.tmp 3) (.tmp 32)⟩] [(1, 2), (1, 3)])
             .ret)
            .skip)))
         (.ops [⟨some 33, none, .load1 (.tmp 2)⟩,
           ⟨some 34, none, .faddr 0 (.tmp 4)⟩,
           ⟨some 35, none, .load1 (.tmp 34)⟩,
           ⟨some 36, none, .faddr 2 (.tmp 4)⟩,
           ⟨some 37, none, .load1 (.tmp 36)⟩,
           ⟨some 38, none, .build [.int .i64 (0), .string ⟨⟨[]⟩⟩] [(0, 1, (.tmp 35)), (1, 1, (.tmp 37))]⟩,
           ⟨some 39, none, .bslice 23 1 [.int .i64 (0), .string ⟨⟨[]⟩⟩] [(0, 2, (.tmp 38))]⟩,
           ⟨some 40, none, .append 23 2 24 (.tmp 33) (.tmp 39)⟩,
           ⟨none, none, .store 1 (.tmp 2) (.tmp 40)⟩])))

theorem yield_ok (l t u d : Nat) (e : Env) (lv : Value) (its : List It) (k : Int) (x : ByteArray) (A : AHeap) (Q : Value → AHeap → Prop) (hl : A.get l = some (.loop .ready none 47 42 e [17] c13a c13b d)) (he : e.rd 2 = .pointer (some ⟨t, 0, none⟩)) (ht : A.get t = some (.cells [lv] false 0)) (hs : SliceAt A 2 lv its.length (icells its)) (hk : its.length < 1000) (hlt : l ≠ t) (hol : ¬ Own lv l) (hot : ¬ Own lv t)
    (hq : ∀ A' lv', A'.get l = some (.loop .ready none 47 42 e [17] c13a c13b d) → A'.get t = some (.cells [lv'] false 0) → SliceAt A' 2 lv' (its ++ [(⟨k, x⟩ : It)]).length (icells (its ++ [(⟨k, x⟩ : It)])) → Ext (fun j => j = t ∨ j = l ∨ Own lv j) A A' → (∀ j, Own lv' j → Own lv j ∨ A.size ≤ j) → Q (.bool true) A') :
    wF T (.func (.yield l) #[] #[]) [.agg ⟨[.int .i64 k, .int .i64 0, .string x]⟩] A Q := by
  have b1 := AHeap.get_lt hl
  have b2 := AHeap.get_lt ht
  have n1 : l ≠ A.size := by omega
  have n2 : t ≠ A.size := by omega
  have n3 : l ≠ A.size + 1 := by omega
  have n4 : t ≠ A.size + 1 := by omega
  have n5 : l < A.size + 1 := by omega
  obtain ⟨al, cl', hv⟩ := hs.read.val
  subst hv
  refine wF_yield hl rfl (by decide) ?_
  dsimp only [c13a, c13b]
  cases hx : x.data.isEmpty
  all_goals
    simp [midY, hl, b1, n1, n1.symm, n5, he, ht, n2, n2.symm, n3, n3.symm, n4, n4.symm, hlt, hlt.symm, eqL, leafEq, hx]
    generalize hH : AHeap.set (AHeap.alloc (AHeap.set (AHeap.set (AHeap.alloc A _) A.size _) l _) _) (A.size + 1) _ = H
    have zH : H.size = A.size + 2 := by rw [← hH]; rfl
    have eH : Ext (fun j => j = l) A H := ⟨by omega, fun j hj hs => by rw [← hH]; simp [show j ≠ A.size by omega, show j ≠ A.size + 1 by omega, show ¬ j = l from hs]⟩
    have gl : H.get l = some (.loop .busy none 47 42 e [17] c13a c13b d) := by rw [← hH]; simp [n3, n5, c13a, c13b]
    have gt := eH.get ht hlt.symm
    obtain ⟨a2, c2, A2, s2, t2, u2, v2⟩ := appI H (H.alloc (.cells [.int .i64 k, .string x] false 0)) _ (.slice (some ⟨A.size + 2, 0, none⟩) 1 1) its ⟨k, x⟩ (hs.ext eH fun j hj q => hol (q ▸ hj)) Ext.alloc rfl (by simp [firstA, rdCells, ENDCAP, zH]) (by omega)
    have gl2 := u2.get gl hol
    have gt2 := u2.get gt hot
    have z2 := u2.size
    have z3 : l < A2.size := by omega
    have z4 : t < A2.size := by omega
    simp [s2, gl2, gt2, z3, z4, he, hlt, hlt.symm, endY, jumpOf]
    have o1 : ¬ Own (.slice a2 (its.length + 1) c2) t := fun q => by rcases v2 t q with q | q; exact hot q; omega
    have o2 : ¬ Own (.slice a2 (its.length + 1) c2) l := fun q => by rcases v2 l q with q | q; exact hol q; omega
    have f : Ext (fun j => j = t ∨ j = l) A2 ((A2.set t (.cells [.slice a2 (its.length + 1) c2] false 0)).set l (.loop .ready none 47 42 e [17] c13a c13b d)) := (Ext.set (.inl rfl)).trans (Ext.set (.inr rfl))
    refine hq _ (.slice a2 (its.length + 1) c2) (by simp [z3, hlt]) (by simp [z4, hlt.symm]) (SliceAt.ext t2 f fun j hj q => ?_) (((eH.mono fun _ _ q => .inr (.inl q)).trans (u2.mono fun _ _ q => .inr (.inr q))).trans (f.mono fun _ _ q => q.imp id .inl)) fun j hj => (v2 j hj).imp id fun q => by omega
    rcases q with q | q
    · exact o1 (q ▸ hj)
    · exact o2 (q ▸ hj)

/-- The yield of what is wrong. -/
theorem yield_bad (l t u d : Nat) (e : Env) (lv ev : Value) (k code : Int) (A : AHeap) (Q : Value → AHeap → Prop) (hl : A.get l = some (.loop .ready none 47 42 e [17] c13a c13b d)) (he : e.rd 2 = .pointer (some ⟨t, 0, none⟩)) (hu : e.rd 3 = .pointer (some ⟨u, 0, none⟩)) (ht : A.get t = some (.cells [lv] false 0)) (hu2 : A.get u = some (.cells [ev] false 0)) (hc : ¬ code = 0) (hlt : l ≠ t) (hlu : l ≠ u) (htu : t ≠ u)
    (hq : ∀ A', A'.get l = some (.loop .done (some .ret) 47 42 e [17] c13a c13b d) → A'.get t = some (.cells [.slice none 0 0] false 0) → A'.get u = some (.cells [.int .i64 code] false 0) → Ext (fun j => j = t ∨ j = l ∨ j = u) A A' → Q (.bool false) A') :
    wF T (.func (.yield l) #[] #[]) [.agg ⟨[.int .i64 k, .int .i64 code, .string ⟨⟨[]⟩⟩]⟩] A Q := by
  have b1 := AHeap.get_lt hl
  have b2 := AHeap.get_lt ht
  have b3 := AHeap.get_lt hu2
  have n1 : l ≠ A.size := by omega
  have n2 : t ≠ A.size := by omega
  have n3 : l ≠ A.size + 1 := by omega
  have n4 : t ≠ A.size + 1 := by omega
  have n5 : l < A.size + 1 := by omega
  have n6 : u ≠ A.size := by omega
  have n7 : u ≠ A.size + 1 := by omega
  have hc' : (code != 0) = true := by simp [hc]
  refine wF_yield hl rfl (by decide) ?_
  dsimp only [c13a, c13b]
  simp [midY, hl, b1, n1, n1.symm, n5, he, hu, ht, hu2, n2, n2.symm, n3, n3.symm, n4, n4.symm, n6, n7, n6.symm, n7.symm, hlt, hlt.symm, eqL, leafEq, hc']
  generalize hH : AHeap.set (AHeap.alloc (AHeap.set (AHeap.set (AHeap.alloc A _) A.size _) l _) _) (A.size + 1) _ = H
  have zH : H.size = A.size + 2 := by rw [← hH]; rfl
  have eH : Ext (fun j => j = l) A H := ⟨by omega, fun j hj hs => by rw [← hH]; simp [show j ≠ A.size by omega, show j ≠ A.size + 1 by omega, show ¬ j = l from hs]⟩
  have gl : H.get l = some (.loop .busy none 47 42 e [17] c13a c13b d) := by rw [← hH]; simp [n3, n5, c13a, c13b]
  have gx : H.get A.size = some (.cells [.int .i64 k, .int .i64 code, .string ⟨⟨[]⟩⟩] false 0) := by rw [← hH]; simp [n1.symm]
  have gt := eH.get ht hlt.symm
  have gu := eH.get hu2 hlu.symm
  have z1 : l < H.size := by omega
  have z2 : t < H.size := by omega
  have z3 : u < H.size := by omega
  refine wC_opsD_chk ?_
  simp [he, hu, gl, gt, gu, gx, z1, z2, z3, n1.symm, n2.symm, n6.symm, hlt, hlt.symm, hlu, hlu.symm, htu, htu.symm]
  refine wE_intro ?_ ?_
  · simp only [List.all_cons, List.all_nil, chkOk, List.nil_append, List.cons_append, List.getElem?_cons_succ, List.getElem?_cons_zero]
    simp [Bx, gx, vbeq, z2, z3, n2.symm, n6.symm, htu]
  · simp [he, hu, gl, gt, gu, gx, z1, z2, z3, n1.symm, n2.symm, n6.symm, hlt, hlt.symm, hlu, hlu.symm, htu, htu.symm, endY, jumpOf]
    refine hq _ (by simp [z1]) (by simp [z2, hlt.symm, htu]) (by simp [z3, hlu.symm]) ⟨by simp; omega, fun j hj hs => ?_⟩
    have s1 : ¬ j = t := fun q => hs (.inl q)
    have s2 : ¬ j = l := fun q => hs (.inr (.inl q))
    have s3 : ¬ j = u := fun q => hs (.inr (.inr q))
    simp [s1, s2, s3]
    exact eH.keep j hj s2
end Go.Proofs.YtigknpfjhegkgaaGreatDoor.Ar
end

section
/- The walk of areas. -/
namespace Go.Proofs.YtigknpfjhegkgaaGreatDoor.Ar
open Go Go.AS
set_option maxRecDepth 100000
set_option linter.unusedSimpArgs false
set_option linter.unusedVariables false
attribute [local irreducible] Trie.set Trie.get Env.rd
attribute [local simp ↓] wV_b2s
attribute [local simp] Nat.add_assoc wD_cons'' wD_nil' wC_seq wC_ops wC_opsD_nil wC_cond wC_skip wC_ret wC_exit wC_block wO_cons' wO_nil wantedA wV_eq lop qop ev wL_some wL_none wPut envOf rd_set rd_leaf eqA thenC blockC wB_true wB_false endF unwindA resultsA resA tupleA rdCell rdCells wrCells cl fillP AS.lay rep binA unA get_set' AHeap.get_alloc oneCell

def WI (s : ByteArray) (l t u d x1 : Nat) (e : Env) (ev : Value) (A : AHeap) (m : Nat) (st : St) : Prop := ∃ p its sv, m + p = s.size ∧ st.n = 75 ∧ st.dfs = [] ∧ st.env.rd 0 = .func (.yield l) #[] #[] ∧ st.env.rd 1 = .pointer (some ⟨x1, 0, none⟩) ∧ st.env.rd 3 = .int .i64 (p : Nat) ∧
  st.A.get l = some (.loop .ready none 47 42 e [17] c13a c13b d) ∧ st.A.get t = some (.cells [sv] false 0) ∧ SliceAt st.A 2 sv its.length (icells its) ∧ Ext (fun j => j = t ∨ j = l) A st.A ∧ (∀ j, Own sv j → A.size ≤ j) ∧ its.length ≤ p ∧ walkL s.data.toList = (its ++ (walkL (s.data.toList.drop p)).1, (walkL (s.data.toList.drop p)).2)

theorem walk1_ok (l t u d x1 : Nat) (e : Env) (s : ByteArray) (ev : Value) (A : AHeap) (Q : Value → AHeap → Prop) (hl : A.get l = some (.loop .ready none 47 42 e [17] c13a c13b d)) (he : e.rd 2 = .pointer (some ⟨t, 0, none⟩)) (hu : e.rd 3 = .pointer (some ⟨u, 0, none⟩)) (ht : A.get t = some (.cells [.slice none 0 0] false 0)) (hu2 : A.get u = some (.cells [ev] false 0)) (h1 : A.get x1 = some (.cells [.string s] false 0))
    (hlt : l ≠ t) (hlu : l ≠ u) (htu : t ≠ u) (hxl : x1 ≠ l) (hxt : x1 ≠ t) (hxu : x1 ≠ u) (hs : s.size ≤ 100)
    (hq1 : (walkL s.data.toList).2 = 0 → ∀ A' sv v, A'.get l = some (.loop .ready none 47 42 e [17] c13a c13b d) → A'.get t = some (.cells [sv] false 0) → SliceAt A' 2 sv (walkL s.data.toList).1.length (icells (walkL s.data.toList).1) → Ext (fun j => j = t ∨ j = l) A A' → (∀ j, Own sv j → A.size ≤ j) → Q v A')
    (hq2 : ¬ (walkL s.data.toList).2 = 0 → ∀ A' v, A'.get l = some (.loop .done (some .ret) 47 42 e [17] c13a c13b d) → A'.get t = some (.cells [.slice none 0 0] false 0) → A'.get u = some (.cells [.int .i64 (walkL s.data.toList).2] false 0) → Ext (fun j => j = t ∨ j = l ∨ j = u) A A' → Q v A') :
    wF T (.func (.func 118) ⟨[]⟩ ⟨[.pointer (some ⟨x1, 0, none⟩)]⟩) [.func (.yield l) #[] #[]] A Q := by
  refine wF_func t118 ⟨rfl, by decide⟩ ?_
  dsimp only [c118]; simp
  have hsz : s.data.toList.length = s.size := rfl
  refine wC_loop_inv (WI s l t u d x1 e ev A) ?_ s.size _ ⟨0, [], .slice none 0 0, by omega, rfl, rfl, by simp, by simp, by simp, hl, ht, .nil, Ext.refl, (fun j ⟨_, _, _, q⟩ => by cases q), by simp, by simp⟩
  rintro m ⟨env, nn, dfs, A1⟩ ⟨p, its, sv, k0, k1, k2, r0, r1, r3, g1, g2, g3, g4, g5, hip, hw⟩
  simp only at k1 k2 r0 r1 r3 g1 g2 g3 g4
  subst k1; subst k2
  have zl := AHeap.get_lt hl
  have zt := AHeap.get_lt ht
  have zu := AHeap.get_lt hu2
  have zx := AHeap.get_lt h1
  have z1 := g4.size
  have x2 := g4.get h1 (fun q => q.elim hxt hxl)
  have u2 := g4.get hu2 (fun q => q.elim htu.symm hlu.symm)
  have ol : ¬ Own sv l := fun q => by have := g5 l q; omega
  have ot : ¬ Own sv t := fun q => by have := g5 t q; omega
  by_cases hp : p < s.size
  · have hd : s.data.toList.drop p = s.data.toList[p] :: s.data.toList.drop (p + 1) := List.drop_eq_getElem_cons (by omega)
    obtain ⟨k, hg⟩ : ∃ k, s.data[p]'hp = k := ⟨_, rfl⟩
    have ws := wrap_succ p (by omega)
    rw [show s.data.toList[p]'(by omega) = k by rw [← hg]; rfl] at hd
    rw [hd] at hw
    by_cases k0' : k = 0
    · rw [k0', walkL_zero, List.append_nil] at hw
      have e1 : ((k.toNat : Int) == 0) = true := by rw [k0']; rfl
      simp [r0, r1, r3, x2, hp, hg, e1, idxA]
      refine hq1 (by rw [hw]) A1 sv _ g1 g2 (by rw [hw]; exact g3) g4 g5
    · have kn0 : ((k.toNat : Int) == 0) = false := by
        rw [beq_eq_false_iff_ne]
        intro q
        exact k0' (UInt8.toNat_inj.1 (by have : k.toNat = 0 := by omega
                                         rw [this]; rfl))
      by_cases k1' : k = 1
      · rw [k1', walkL_one] at hw
        have e1 : ((k.toNat : Int) == 1) = true := by rw [k1']; rfl
        simp [r0, r1, r3, x2, hp, hg, kn0, e1, idxA]
        exact ⟨m - 1, by omega, p + 1, its, sv, by omega, rfl, rfl, by simp [r0], by simp [r1], by simpa using ws, g1, g2, g3, g4, g5, by omega, hw⟩
      · have kn1 : ((k.toNat : Int) == 1) = false := by
          rw [beq_eq_false_iff_ne]
          intro q
          exact k1' (UInt8.toNat_inj.1 (by have : k.toNat = 1 := by omega
                                           rw [this]; rfl))
        have wk : IntKind.i64.wrap (k.toNat : Int) = (k.toNat : Int) := wrap_nat _ (by have := k.toNat_lt; omega)
        have nx : x1 ≠ A1.size := by omega
        have ws' : IntKind.i64.wrap ((p : Int) + 1) = (p : Int) + 1 := by rw [ws]; push_cast; rfl
        have bad : ∀ (code : Int) (Q2 : Value → AHeap → Prop), ¬ code = 0 → (walkL s.data.toList).2 = code → (∀ A', (∀ v, Q v A') → Q2 (.bool false) A') →
            wF T (.func (.yield l) #[] #[]) [.agg ⟨[.int .i64 (k.toNat : Int), .int .i64 code, .string ⟨⟨[]⟩⟩]⟩] (((A1.alloc (.cells [.int .i64 0, .int .i64 0, .string ⟨⟨[]⟩⟩] false 0)).set A1.size (.cells [.int .i64 (k.toNat : Int), .int .i64 0, .string ⟨⟨[]⟩⟩] false 0)).set A1.size (.cells [.int .i64 (k.toNat : Int), .int .i64 code, .string ⟨⟨[]⟩⟩] false 0)) Q2 := by
          intro code Q2 hc hcw hQ
          generalize hH : (((A1.alloc _).set A1.size _).set A1.size _) = H
          have eH : Ext NoB A1 H := ⟨by rw [← hH]; simp, fun j hj _ => by rw [← hH]; simp [show j ≠ A1.size by omega]⟩
          refine yield_bad l t u d e sv ev _ code H _ (eH.get g1 fun q => q) he hu (eH.get g2 fun q => q) (eH.get u2 fun q => q) hc hlt hlu htu fun A' y1 y2 y3 y4 => ?_
          refine hQ A' fun v => hq2 (by rw [hcw]; exact hc) A' v y1 y2 (by rw [hcw]; exact y3) ?_
          exact (((g4.mono fun _ _ q => (by rcases q with q | q; exact .inl q; exact .inr (.inl q) : _ = t ∨ _ = l ∨ _ = u)).trans2 eH fun _ _ q => q.elim).trans2 y4 fun _ _ q => q)
        by_cases hp1 : p + 1 = s.size
        · have hnil : s.data.toList.drop (p + 1) = [] := List.drop_of_length_le (by omega)
          rw [hnil, walkL_short k k0' k1', List.append_nil] at hw
          have e1 : ((p : Int) + 1 == (s.size : Int)) = true := by rw [beq_iff_eq]; omega
          simp [r0, r1, r3, x2, hp, hg, kn0, kn1, idxA, wk, ws', e1, nx]
          refine bad 4 _ (by decide) (by rw [hw]) fun A' hv => ?_
          simp
          exact hv _
        · have hp1' : p + 1 < s.size := by omega
          have hd1 : s.data.toList.drop (p + 1) = s.data.toList[p + 1] :: s.data.toList.drop (p + 1 + 1) := List.drop_eq_getElem_cons (by omega)
          obtain ⟨n, hg1⟩ : ∃ n, s.data[p + 1]'hp1' = n := ⟨_, rfl⟩
          rw [show s.data.toList[p + 1]'(by omega) = n by rw [← hg1]; rfl] at hd1
          rw [hd1] at hw
          have e1 : ((p : Int) + 1 == (s.size : Int)) = false := by rw [beq_eq_false_iff_ne]; omega
          have wn : IntKind.i64.wrap (n.toNat : Int) = (n.toNat : Int) := wrap_nat _ (by have := n.toNat_lt; omega)
          have nlt := n.toNat_lt
          have i1 : ((p : Int) + 1).toNat = p + 1 := by omega
          have i2 : (0 : Int) ≤ (p : Int) + 1 := by omega
          by_cases hn2 : n.toNat < 2
          · rw [walkL_form k n _ k0' k1' hn2, List.append_nil] at hw
            have hn2' : (n.toNat : Int) < 2 := by omega
            simp [r0, r1, r3, x2, hp, hg, kn0, kn1, idxA, wk, ws', e1, nx, i1, i2, hp1', hg1, hn2']
            refine bad 5 _ (by decide) (by rw [hw]) fun A' hv => ?_
            simp
            exact hv _
          · have hn2' : ¬ (n.toNat : Int) < 2 := by omega
            have wsub : IntKind.i64.wrap ((s.size : Int) - (p : Int)) = (s.size : Int) - (p : Int) := IntWalk.i64_in _ (by omega)
            have hrl : (s.data.toList.drop (p + 1 + 1)).length = s.size - (p + 2) := by rw [List.length_drop, hsz]
            by_cases hlong : (s.data.toList.drop (p + 1 + 1)).length + 2 < n.toNat
            · rw [walkL_long k n _ k0' k1' hn2 hlong, List.append_nil] at hw
              have hlong' : (s.size : Int) - (p : Int) < (n.toNat : Int) := by omega
              simp [r0, r1, r3, x2, hp, hg, kn0, kn1, idxA, wk, ws', e1, nx, i1, i2, hp1', hg1, hn2', wn, wsub, hlong']
              refine bad 4 _ (by decide) (by rw [hw]) fun A' hv => ?_
              simp
              exact hv _
            · rw [walkL_item k n _ k0' k1' hn2 hlong] at hw
              have hlong' : ¬ (s.size : Int) - (p : Int) < (n.toNat : Int) := by omega
              have wp2 : IntKind.i64.wrap ((p : Int) + 2) = ((p + 2 : Nat) : Int) := IntWalk.i64_in _ (by omega)
              have wpn : IntKind.i64.wrap ((p : Int) + (n.toNat : Int)) = ((p + n.toNat : Nat) : Int) := IntWalk.i64_in _ (by omega)
              have zs := sliceS_mid s .i64 .i64 (p + 2) (p + n.toNat) (by omega) (by omega)
              rw [show p + n.toNat - (p + 2) = n.toNat - 2 by omega] at zs
              rw [show p + 1 + 1 = p + 2 by omega] at hw
              generalize hb : (⟨⟨(s.data.toList.drop (p + 2)).take (n.toNat - 2)⟩⟩ : ByteArray) = body at zs hw
              push_cast at wp2 wpn zs
              simp [r0, r1, r3, x2, hp, hg, kn0, kn1, idxA, wk, ws', e1, nx, i1, i2, hp1', hg1, hn2', wn, wsub, hlong', wp2, wpn, zs]
              generalize hH : AHeap.set (AHeap.set (AHeap.alloc A1 _) A1.size _) A1.size _ = H
              have eH : Ext NoB A1 H := ⟨by rw [← hH]; simp, fun j hj _ => by rw [← hH]; simp [show j ≠ A1.size by omega]⟩
              have zH : H.size = A1.size + 1 := by rw [← hH]; rfl
              have gx : H.get A1.size = some (.cells [.int .i64 (k.toNat : Int), .int .i64 0, .string body] false 0) := by rw [← hH]; simp
              refine yield_ok l t u d e sv its _ body H _ (eH.get g1 fun q => q) he (eH.get g2 fun q => q) (g3.ext eH fun _ _ q => q) (by omega) hlt ol ot fun A2 sv2 y1 y2 y3 y4 y5 => ?_
              have gx2 := y4.get gx (fun q => by
                rcases q with q | q | q
                · omega
                · omega
                · have := g3.own_lt q; omega)
              simp [r3, gx2, wpn]
              have hdd : (s.data.toList.drop (p + 2)).drop (n.toNat - 2) = s.data.toList.drop (p + n.toNat) := by
                rw [List.drop_drop]; congr 1; omega
              rw [hdd] at hw
              refine ⟨m - n.toNat, by omega, p + n.toNat, its ++ [(⟨(k.toNat : Int), body⟩ : It)], sv2, by omega, rfl, rfl, by simp [r0], by simp [r1], by simp, y1, y2, y3, (g4.trans2 eH fun _ _ q => q.elim).trans2 y4 fun j hj q => ?_, fun j hj => ?_, by simp; omega, ?_⟩
              · rcases q with q | q | q
                · exact .inl q
                · exact .inr q
                · have := g5 j q; omega
              · rcases y5 j hj with q | q
                · exact g5 j q
                · omega
              · rw [hw]; simp
  · have hnil : s.data.toList.drop p = [] := List.drop_of_length_le (by omega)
    rw [hnil, walkL_nil, List.append_nil] at hw
    simp [r0, r1, r3, x2, hp]
    exact hq1 (by rw [hw]) A1 sv _ g1 g2 (by rw [hw]; exact g3) g4 g5
end Go.Proofs.YtigknpfjhegkgaaGreatDoor.Ar
end

section
/- The contract of Walk of areas. -/
namespace Go.Proofs.YtigknpfjhegkgaaGreatDoor.Ar
open Go Go.AS
set_option maxRecDepth 100000
set_option linter.unusedSimpArgs false
set_option linter.unusedVariables false
attribute [local irreducible] Trie.set Trie.get Env.rd
attribute [local simp ↓] wV_b2s
attribute [local simp] Nat.add_assoc wD_cons'' wD_nil' wC_seq wC_ops wC_opsD_nil wC_cond wC_skip wC_ret wC_exit wC_block wO_cons' wO_nil wantedA wV_eq lop qop ev wL_some wL_none wPut envOf rd_set rd_leaf eqA thenC blockC wB_true wB_false endF unwindA resultsA resA tupleA rdCell rdCells wrCells cl fillP AS.lay rep binA unA get_set' AHeap.get_alloc oneCell

theorem walkfn_ok (s : ByteArray) (A : AHeap) (Q : Value → AHeap → Prop) (hq : Q (.func (.func 118) ⟨[]⟩ ⟨[.pointer (some ⟨A.size, 0, none⟩)]⟩) (A.alloc (.cells [.string s] false 0))) : wF T (.func (.func 71) #[] #[]) [.string s] A Q := by
  refine wF_func (first := []) (captured := []) t71 ⟨rfl, by decide⟩ ?_
  dsimp only [c71]; simp
  exact hq

theorem walk_ok (s : ByteArray) (A : AHeap) (Q : Value → AHeap → Prop) (hs : s.size < 1000000)
    (hq : ∀ A' sv, SliceAt A' 2 sv (walkR s.data.toList).1.length (icells (walkR s.data.toList).1) → Ext NoB A A' → (∀ j, Own sv j → A.size ≤ j) → Q (.tuple ⟨[sv, .int .i64 (walkR s.data.toList).2]⟩) A') : wF T (.func (.func 47) #[] #[]) [.string s] A Q := by
  refine wF_func (first := []) (captured := []) t47 ⟨rfl, by decide⟩ ?_
  dsimp only [c47]
  have hsz : s.data.toList.length = s.size := rfl
  have no : ∀ j, Own (.slice none 0 0) j → A.size ≤ j := fun j ⟨_, _, _, q⟩ => by cases q
  by_cases h40 : 40 < s.size
  · have h40' : (40 : Int) < (s.size : Int) := by omega
    have hR : walkR s.data.toList = ([], 6) := by unfold walkR; rw [hsz, if_pos h40]
    rw [hR] at hq
    simp [h40']
    exact hq _ (.slice none 0 0) .nil ⟨by simp, fun j hj _ => by simp [show j ≠ A.size by omega, show j ≠ A.size + 1 by omega]⟩ no
  · have h40' : ¬ (40 : Int) < (s.size : Int) := by omega
    by_cases h4 : s.size % 4 = 0
    · have h4' : ((s.size : Int).tmod 4) = 0 := by rw [rem4, h4]; rfl
      simp [h40', h4']
      refine walkfn_ok s _ _ ?_
      simp
      refine wC_range ?_
      simp
      refine walk1_ok (A.size + 4) A.size (A.size + 1) (A.size + 3) (A.size + 2) _ s (.int .i64 0) _ _ (get_alloc_top (by simp)) (by simp) (by simp) (by simp) (by simp) (by simp) (by omega) (by omega) (by omega) (by omega) (by omega) (by omega) (by omega) (fun hw A' sv v y1 y2 y3 y4 y5 => ?_) (fun hw A' v y1 y2 y3 y4 => ?_)
      · have hR : walkR s.data.toList = walkL s.data.toList := by unfold walkR; rw [hsz, if_neg h40, if_neg (by omega), if_pos hw]
        rw [hR, hw] at hq
        have gd := y4.get (b := A.size + 3) (x := .dfr false) (by simp) (by omega)
        have gu := y4.get (b := A.size + 1) (x := .cells [.int .i64 0] false 0) (by simp) (by omega)
        have e0 : Ext (fun j => j = A.size ∨ j = A.size + 4) A A' := Ext.trans (Ext.alloc.trans (Ext.alloc.trans (Ext.alloc.trans (Ext.alloc.trans Ext.alloc)))) y4
        have z1 := AHeap.get_lt y1
        obtain ⟨av, cv, hv⟩ := y3.read.val
        subst hv
        simp [endR, y1]
        refine ⟨.normal, rfl, ?_⟩
        generalize hA6 : A'.set (A.size + 4) _ = A6
        have e6 : Ext (fun j => j = A.size + 4) A' A6 := by rw [← hA6]; exact Ext.set rfl
        have gt6 := e6.get y2 (by omega)
        have gd6 := e6.get gd (by omega)
        have gu6 := e6.get gu (by omega)
        have z6 := e6.size
        have w0 : A.size < A6.size := by omega
        have w1 : A.size + 1 < A6.size := by omega
        have w3 : A.size + 3 < A6.size := by omega
        simp [gt6, gd6, gu6, w0, w1, w3]
        have f : Ext (fun j => A.size ≤ j) A6 (((A6.set A.size (.cells [.slice av (walkL s.data.toList).1.length cv] false 0)).set (A.size + 1) (.cells [.int .i64 0] false 0)).set (A.size + 3) (.dfr true)) := (Ext.set (Nat.le_refl _)).trans ((Ext.set (by omega)).trans (Ext.set (by omega)))
        have o1 : ∀ j, Own (.slice av (walkL s.data.toList).1.length cv) j → A.size + 5 ≤ j := fun j q => by have := y5 j q; simpa using this
        refine hq _ _ ?_ ((e0.mono (S' := NoB) fun j hj q => by omega).trans2 e6 (fun j hj q => by omega) |>.trans2 f fun j hj q => by omega) fun j hj => by have := o1 j hj; omega
        have y3' := y3.ext e6 fun j hj q => by have := o1 j hj; omega
        have f2 : Ext (fun j => j = A.size ∨ j = A.size + 1 ∨ j = A.size + 3) A6 (((A6.set A.size (.cells [.slice av (walkL s.data.toList).1.length cv] false 0)).set (A.size + 1) (.cells [.int .i64 0] false 0)).set (A.size + 3) (.dfr true)) := (Ext.set (.inl rfl)).trans ((Ext.set (.inr (.inl rfl))).trans (Ext.set (.inr (.inr rfl))))
        exact y3'.ext f2 fun j hj q => by have := o1 j hj; omega
      · have hR : walkR s.data.toList = ([], (walkL s.data.toList).2) := by unfold walkR; rw [hsz, if_neg h40, if_neg (by omega), if_neg hw]
        rw [hR] at hq
        have gd := y4.get (b := A.size + 3) (x := .dfr false) (by simp) (by omega)
        have e0 : Ext (fun j => j = A.size ∨ j = A.size + 4 ∨ j = A.size + 1) A A' := Ext.trans (Ext.alloc.trans (Ext.alloc.trans (Ext.alloc.trans (Ext.alloc.trans Ext.alloc)))) y4
        have z1 := AHeap.get_lt y1
        simp [endR, y1]
        refine ⟨.ret, rfl, ?_⟩
        generalize hA6 : A'.set (A.size + 4) _ = A6
        have e6 : Ext (fun j => j = A.size + 4) A' A6 := by rw [← hA6]; exact Ext.set rfl
        have gt6 := e6.get y2 (by omega)
        have gd6 := e6.get gd (by omega)
        have gu6 := e6.get y3 (by omega)
        have z6 := e6.size
        have w3 : A.size + 3 < A6.size := by omega
        simp [gt6, gd6, gu6, w3]
        exact hq _ (.slice none 0 0) .nil ((e0.mono (S' := NoB) fun j hj q => by omega).trans2 e6 (fun j hj q => by omega) |>.trans2 (Ext.set (S := fun j => j = A.size + 3) rfl) fun j hj q => by omega) no
    · have h4' : ((s.size : Int).tmod 4 != 0) = true := by
        have : ¬ ((s.size : Int).tmod 4) = 0 := by rw [rem4]; omega
        simp [this]
      have hR : walkR s.data.toList = ([], 5) := by unfold walkR; rw [hsz, if_neg h40, if_pos h4]
      rw [hR] at hq
      simp [h40', h4']
      exact hq _ (.slice none 0 0) .nil ⟨by simp, fun j hj _ => by simp [show j ≠ A.size by omega, show j ≠ A.size + 1 by omega]⟩ no


theorem walkL_len : ∀ (n : Nat) (l : List UInt8), l.length ≤ n → (walkL l).1.length ≤ l.length := by
  intro n
  induction n with
  | zero => intro l h; have : l = [] := List.length_eq_zero_iff.1 (by omega); subst this; rw [walkL_nil]; simp
  | succ n ih =>
    intro l h
    cases l with
    | nil => rw [walkL_nil]; simp
    | cons k r =>
      by_cases h0 : k = 0
      · rw [h0, walkL_zero]; simp
      · by_cases h1 : k = 1
        · rw [h1, walkL_one]
          have := ih r (by simpa using h)
          simp; omega
        · cases r with
          | nil => rw [walkL_short k h0 h1]; simp
          | cons m r =>
            by_cases h2 : m.toNat < 2
            · rw [walkL_form k m r h0 h1 h2]; simp
            · by_cases h3 : r.length + 2 < m.toNat
              · rw [walkL_long k m r h0 h1 h2 h3]; simp
              · rw [walkL_item k m r h0 h1 h2 h3]
                have := ih (r.drop (m.toNat - 2)) (by simp at h ⊢; omega)
                simp at this ⊢; omega
theorem walkR_len (l : List UInt8) : (walkR l).1.length ≤ l.length := by
  unfold walkR
  have := walkL_len l.length l (Nat.le_refl _)
  split
  · simp
  · split
    · simp
    · split
      · exact this
      · simp

end Go.Proofs.YtigknpfjhegkgaaGreatDoor.Ar
end

section
/- Plain laws of areas. -/
namespace Go.Proofs.YtigknpfjhegkgaaGreatDoor.Ar
open Go Go.AS
set_option maxRecDepth 100000
set_option linter.unusedSimpArgs false
set_option linter.unusedVariables false
attribute [local irreducible] Trie.set Trie.get Env.rd
attribute [local simp ↓] wV_b2s
attribute [local simp] Nat.add_assoc wD_cons'' wD_nil' wC_seq wC_ops wC_opsD_nil wC_cond wC_skip wC_ret wC_exit wC_block wO_cons' wO_nil wantedA wV_eq lop qop ev wL_some wL_none wPut envOf rd_set rd_leaf eqA thenC blockC wB_true wB_false endF unwindA resultsA resA tupleA rdCell rdCells wrCells cl fillP AS.lay rep binA unA get_set' AHeap.get_alloc oneCell
theorem walk_raw (t : List UInt8) : ∀ (its : List It), (∀ x ∈ its, x.ok) → walkL (raw its ++ t) = (its ++ (walkL t).1, (walkL t).2)
  | [], _ => by simp [raw]
  | x :: its, h => by
    obtain ⟨x1, x2, x3⟩ := h x (by simp)
    have ih := walk_raw t its fun y hy => h y (by simp [hy])
    have k1 : (UInt8.ofNat x.kind.toNat).toNat = x.kind.toNat := by rw [UInt8.toNat_ofNat']; exact Nat.mod_eq_of_lt (by omega)
    have n1 : (UInt8.ofNat (2 + x.body.size)).toNat = 2 + x.body.size := by rw [UInt8.toNat_ofNat']; exact Nat.mod_eq_of_lt (by omega)
    have bl : x.body.data.toList.length = x.body.size := rfl
    have h0 : UInt8.ofNat x.kind.toNat ≠ 0 := fun q => by rw [q] at k1; have : (0 : UInt8).toNat = 0 := rfl; omega
    have h1 : UInt8.ofNat x.kind.toNat ≠ 1 := fun q => by rw [q] at k1; have : (1 : UInt8).toNat = 1 := rfl; omega
    have e : raw (x :: its) ++ t = UInt8.ofNat x.kind.toNat :: UInt8.ofNat (2 + x.body.size) :: (x.body.data.toList ++ (raw its ++ t)) := by simp [raw, It.raw]
    rw [e, walkL_item _ _ _ h0 h1 (by rw [n1]; omega) (by rw [n1, List.length_append, bl]; omega), n1, k1]
    have d1 : (x.body.data.toList ++ (raw its ++ t)).take (2 + x.body.size - 2) = x.body.data.toList := by
      rw [show 2 + x.body.size - 2 = x.body.data.toList.length by omega]; exact List.take_left
    have d2 : (x.body.data.toList ++ (raw its ++ t)).drop (2 + x.body.size - 2) = raw its ++ t := by
      rw [show 2 + x.body.size - 2 = x.body.data.toList.length by omega]; exact List.drop_left
    rw [d1, d2, ih, show ((x.kind.toNat : Nat) : Int) = x.kind by omega]
    rfl

theorem walk_zeros : ∀ (n : Nat), walkL (List.replicate n 0) = ([], 0)
  | 0 => walkL_nil
  | n + 1 => by rw [List.replicate_succ, walkL_zero]

theorem pad_len (l : List UInt8) : (pad l).length = l.length + (4 - l.length % 4) % 4 := by simp [pad]

theorem walkR_pad (its : List It) (h : ∀ x ∈ its, x.ok) (hn : (raw its).length ≤ 40) : walkR (pad (raw its)) = (its, 0) := by
  have e : walkL (pad (raw its)) = (its, 0) := by
    unfold pad
    rw [walk_raw _ its h, walk_zeros]; simp
  unfold walkR
  rw [if_neg (by rw [pad_len]; omega), if_neg (by rw [pad_len]; omega), if_pos (by rw [e]), e]

theorem layR_ok (its : List It) (n : Nat) (h : itemsP its n) : layR its = (⟨⟨pad (raw its)⟩⟩, 0) := by
  obtain ⟨h1, h2, h3, _⟩ := h
  unfold layR
  rw [if_pos (by rw [List.all_eq_true]; intro x hx; simp [h1 x hx]), if_pos (by omega)]

theorem raw_split (its : List It) (k : Nat) : raw its = raw (its.take k) ++ raw (its.drop k) := by
  unfold raw
  rw [← List.flatMap_append, List.take_append_drop]

theorem walkR_front (its : List It) (r : List UInt8) (h : ∀ x ∈ its, x.ok) (hl : (raw its ++ 0 :: r).length ≤ 40) (h4 : (raw its ++ 0 :: r).length % 4 = 0) : walkR (raw its ++ 0 :: r) = (its, 0) := by
  have e : walkL (raw its ++ 0 :: r) = (its, 0) := by rw [walk_raw _ its h, walkL_zero]; simp
  unfold walkR
  rw [if_neg (by omega), if_neg (by omega), if_pos (by rw [e]), e]

theorem pad_inj (x y : List It) (hx : ∀ z ∈ x, z.ok) (hy : ∀ z ∈ y, z.ok) (nx : (raw x).length ≤ 40) (ny : (raw y).length ≤ 40) (h : pad (raw x) = pad (raw y)) : x = y := by
  have h1 := walkR_pad x hx nx
  rw [h, walkR_pad y hy ny] at h1
  exact (congrArg Prod.fst h1).symm

theorem walk_items : ∀ (n : Nat) (l : List UInt8), l.length ≤ n → ((∀ x ∈ (walkL l).1, x.ok) ∧ (raw (walkL l).1).length ≤ l.length) ∧ ((walkL l).2 = 0 ∨ (walkL l).2 = 4 ∨ (walkL l).2 = 5) := by
  intro n
  induction n with
  | zero => intro l h; have : l = [] := List.length_eq_zero_iff.1 (by omega); subst this; rw [walkL_nil]; simp [raw]
  | succ n ih =>
    intro l h
    cases l with
    | nil => rw [walkL_nil]; simp [raw]
    | cons k r =>
      by_cases h0 : k = 0
      · rw [h0, walkL_zero]; simp [raw]
      · by_cases h1 : k = 1
        · rw [h1, walkL_one]
          obtain ⟨⟨a, b⟩, c⟩ := ih r (by simpa using h)
          exact ⟨⟨a, by simp; omega⟩, c⟩
        · cases r with
          | nil => rw [walkL_short k h0 h1]; simp [raw]
          | cons m r =>
            by_cases h2 : m.toNat < 2
            · rw [walkL_form k m r h0 h1 h2]; simp [raw]
            · by_cases h3 : r.length + 2 < m.toNat
              · rw [walkL_long k m r h0 h1 h2 h3]; simp [raw]
              · rw [walkL_item k m r h0 h1 h2 h3]
                obtain ⟨⟨a, b⟩, c⟩ := ih (r.drop (m.toNat - 2)) (by simp at h ⊢; omega)
                have kl := k.toNat_lt
                have ml := m.toNat_lt
                have k0 : k.toNat ≠ 0 := fun q => h0 (UInt8.toNat_inj.1 (by rw [q]; rfl))
                have k1 : k.toNat ≠ 1 := fun q => h1 (UInt8.toNat_inj.1 (by rw [q]; rfl))
                have bs : (⟨⟨r.take (m.toNat - 2)⟩⟩ : ByteArray).size = m.toNat - 2 := by
                  rw [size_mk, List.length_take]; omega
                refine ⟨⟨fun x hx => ?_, ?_⟩, c⟩
                · rcases List.mem_cons.1 hx with q | q
                  · subst q; exact ⟨by simp only; omega, by simp only; omega, by simp only [bs]; omega⟩
                  · exact a x q
                · have : raw ((⟨(k.toNat : Int), ⟨⟨r.take (m.toNat - 2)⟩⟩⟩ : It) :: (walkL (r.drop (m.toNat - 2))).1) = It.raw ⟨(k.toNat : Int), ⟨⟨r.take (m.toNat - 2)⟩⟩⟩ ++ raw (walkL (r.drop (m.toNat - 2))).1 := rfl
                  rw [this, List.length_append, It.raw_len]
                  simp only [bs]
                  rw [List.length_drop] at b
                  simp only [List.length_cons]
                  omega

theorem raw_ge (its : List It) : its.length * 2 ≤ (raw its).length := by
  induction its with
  | nil => simp
  | cons x l ih =>
    have : raw (x :: l) = x.raw ++ raw l := rfl
    rw [this, List.length_append, It.raw_len]; simp; omega


theorem walkL_body : ∀ (n : Nat) (l : List UInt8), l.length ≤ n → ∀ x ∈ (walkL l).1, x.body.data.toList.length ≤ l.length := by
  intro n
  induction n with
  | zero =>
    intro l hl x hx
    have : l = [] := List.length_eq_zero_iff.1 (by omega)
    subst this
    rw [walkL_nil] at hx; simp at hx
  | succ n ih =>
    intro l hl x hx
    match l, hl, hx with
    | [], _, hx => rw [walkL_nil] at hx; simp at hx
    | k :: r, hl, hx =>
      simp only [List.length_cons] at hl ⊢
      by_cases h0 : k = 0
      · subst h0; rw [walkL_zero] at hx; simp at hx
      by_cases h1 : k = 1
      · subst h1; rw [walkL_one] at hx
        have := ih r (by omega) x hx
        omega
      match r, hl, hx with
      | [], _, hx => rw [walkL_short k h0 h1] at hx; simp at hx
      | c :: r', hl, hx =>
        simp only [List.length_cons] at hl ⊢
        by_cases h2 : c.toNat < 2
        · rw [walkL_form k c r' h0 h1 h2] at hx; simp at hx
        by_cases h3 : r'.length + 2 < c.toNat
        · rw [walkL_long k c r' h0 h1 h2 h3] at hx; simp at hx
        rw [walkL_item k c r' h0 h1 h2 h3] at hx
        rcases List.mem_cons.1 hx with rfl | hx
        · show (r'.take (c.toNat - 2)).length ≤ _
          rw [List.length_take]; omega
        · have := ih (r'.drop (c.toNat - 2)) (by rw [List.length_drop]; omega) x hx
          rw [List.length_drop] at this; omega
theorem walkR_body (l : List UInt8) (x : It) (hx : x ∈ (walkR l).1) : x.body.data.toList.length ≤ l.length := by
  unfold walkR at hx
  split at hx
  · simp at hx
  split at hx
  · simp at hx
  split at hx
  · exact walkL_body _ l (Nat.le_refl _) x hx
  · simp at hx
end Go.Proofs.YtigknpfjhegkgaaGreatDoor.Ar
end
