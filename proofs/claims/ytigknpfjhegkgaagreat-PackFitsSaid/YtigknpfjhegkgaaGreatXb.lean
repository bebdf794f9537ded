/- The contract of Lay of areas. -/
import Derived.Test.YtigknpfjhegkgaaGreatXa
import Derived.KernelRfl
namespace Go.Proofs.YtigknpfjhegkgaaGreat.Ar
open Go Go.AS
set_option maxRecDepth 100000
set_option linter.unusedSimpArgs false
set_option linter.unusedVariables false
attribute [local irreducible] Trie.set Trie.get Env.rd
attribute [local simp ↓] wV_b2s
attribute [local simp] Nat.add_assoc wD_cons'' wD_nil' wC_seq wC_ops wC_opsD_nil wC_cond wC_skip wC_ret wC_exit wC_block wO_cons' wO_nil wantedA wV_eq lop qop ev wL_some wL_none wPut envOf rd_set rd_leaf eqA thenC blockC wB_true wB_false endF unwindA resultsA resA tupleA rdCell rdCells wrCells cl fillP AS.lay rep binA unA get_set' AHeap.get_alloc oneCell

def LI (A0 : AHeap) (lv : Value) (its : List It) (m : Nat) (st : St) : Prop := ∃ i bv l, m + i = its.length ∧ st.n = 54 ∧ st.dfs = [] ∧ st.env.rd 7 = lv ∧ st.env.rd 8 = .int .i64 (its.length : Nat) ∧ st.env.rd 9 = .int .i64 (i : Nat) ∧ st.env.rd 4 = bv ∧
  Ext NoB A0 st.A ∧ SliceAt st.A 1 bv l.length (bcells l) ∧ (∀ j, Own bv j → A0.size ≤ j) ∧ l = raw (its.take i) ∧ (its.take i).all (fun x => decide x.ok) = true ∧ l.length ≤ 300 * i

def PI (A0 : AHeap) (l0 : List UInt8) (m : Nat) (st : St) : Prop := ∃ bv l, m = (4 - l.length % 4) % 4 ∧ st.n = 54 ∧ st.dfs = [] ∧ st.env.rd 4 = bv ∧
  Ext NoB A0 st.A ∧ SliceAt st.A 1 bv l.length (bcells l) ∧ (∀ j, Own bv j → A0.size ≤ j) ∧ pad l = pad l0 ∧ l.length ≤ 44

theorem u8_of (n : Int) (h0 : 0 ≤ n) (h : n ≤ 255) : IntKind.u8.wrap n = ((UInt8.ofNat n.toNat).toNat : Int) := by
  rw [IntWalk.u8_in n ⟨h0, h⟩]
  have : (UInt8.ofNat n.toNat).toNat = n.toNat := by
    rw [UInt8.toNat_ofNat']
    exact Nat.mod_eq_of_lt (by omega)
  omega

theorem lay_ok (its : List It) (lv : Value) (A0 : AHeap) (Q : Value → AHeap → Prop) (h : ReadAt A0 2 lv its.length (icells its)) (hn : its.length ≤ 1000)
    (hq : ∀ A', Ext NoB A0 A' → Q (.tuple ⟨[.string (layR its).1, .int .i64 (layR its).2]⟩) A') : wF T (.func (.func 24) #[] #[]) [lv] A0 Q := by
  obtain ⟨a1, c1, rfl⟩ := h.val
  refine wF_func (first := []) (captured := []) t24 ⟨rfl, by decide⟩ ?_
  dsimp only [c24]; simp
  refine wC_loop_inv (LI A0 (.slice a1 its.length c1) its) ?_ its.length _ ⟨0, .slice none 0 0, [], by omega, rfl, rfl, by simp, by simp, by simp, by simp, Ext.refl, .nil, (fun j ⟨_, _, _, q⟩ => by cases q), by simp [raw], by simp, by simp⟩
  rintro m ⟨env, nn, dfs, A⟩ ⟨i, bv, l, k0, k1, k2, k7, k8, k9, k4, e1, s1, o1, hl, hok, hlen⟩
  simp only at k1 k2 k7 k8 k9 k4 e1 s1
  subst k1; subst k2
  by_cases hi : i < its.length
  · obtain ⟨d1, p1, cc1, bs1, ro1, opn1, q1, q2, q3, q4⟩ := (h.ext e1 fun _ _ q => q).elem2 hi
    rw [icells_at its i hi] at q4
    cases q1
    rw [Nat.add_assoc] at q3
    have ht : its.take (i + 1) = its.take i ++ [its[i]] := by rw [List.take_add_one, List.getElem?_eq_getElem hi]; rfl
    generalize hx : its[i] = x at q4 ht
    by_cases hxk : x.ok
    · obtain ⟨x1, x2, x3⟩ := hxk
      have y1 : ¬ x.kind ≤ 1 := by omega
      have y2 : ¬ 255 < x.kind := by omega
      have y3 : ¬ (253 : Int) < x.body.size := by omega
      obtain ⟨kb, hkb⟩ : ∃ kb : UInt8, UInt8.ofNat x.kind.toNat = kb := ⟨_, rfl⟩
      obtain ⟨nb, hnb⟩ : ∃ nb : UInt8, UInt8.ofNat (2 + x.body.size) = nb := ⟨_, rfl⟩
      have w1 := u8_of x.kind (by omega) x2
      have w2 : IntKind.i64.wrap (2 + (x.body.size : Int)) = 2 + (x.body.size : Int) := IntWalk.i64_in _ (by omega)
      have w3 := u8_of (2 + (x.body.size : Int)) (by omega) (by omega)
      rw [show (2 + (x.body.size : Int)).toNat = 2 + x.body.size by omega] at w3
      rw [hkb] at w1
      rw [hnb] at w3
      have hraw : x.raw = [kb, nb] ++ x.body.data.toList := by unfold It.raw; rw [hkb, hnb]; rfl
      have hbl : x.body.data.toList.length = x.body.size := rfl
      simp [k7, k8, k9, hi, idxA, q2, q3, q4, y1, y2, y3]
      refine wC_opsD_chk ?_
      simp [k4, w1, w2, w3]
      generalize hH : (A.alloc _).set A.size _ = H
      have zH : H.size = A.size + 1 := by rw [← hH]; rfl
      have eH : Ext NoB A H := ⟨by omega, fun j hj _ => by rw [← hH]; simp [show j ≠ A.size by omega]⟩
      have gH : H.get A.size = some (.cells [.int .i64 x.kind, .string x.body] false 0) := by rw [← hH]; simp
      obtain ⟨a2, c2, A2, s2, t2, u2, v2⟩ := appB H (H.alloc (.cells [.int .u8 (kb.toNat : Int), .int .u8 (nb.toNat : Int)] false 0)) bv (.slice (some ⟨A.size + 1, 0, none⟩) 2 2) l [kb, nb] (s1.ext eH fun _ _ q => q) Ext.alloc rfl (by simp [firstA, rdCells, ENDCAP, bcells, byt, zH]) (by simp; omega)
      have nb0 : ¬ Own bv A.size := fun q => by have := s1.own_lt q; omega
      have g2 := u2.get gH nb0
      obtain ⟨a3, c3, A3, s3, t3, u3, v3⟩ := appB A2 A2 _ (.string x.body) (l ++ [kb, nb]) x.body.data.toList t2 Ext.refl rfl (by simp only [firstA]; rw [List.take_of_length_le (Nat.le_refl _)]; rfl) (by simp; omega)
      have nb1 : ¬ Own (.slice a2 (l.length + [kb, nb].length) c2) A.size := fun q => by
        rcases v2 _ q with q | q
        · exact nb0 q
        · omega
      have g3 := u3.get g2 nb1
      simp at s2 s3
      have e3 : Ext NoB A0 A3 := ((e1.trans2 eH fun _ _ q => q).trans2 u2 fun j hj q => by have := o1 j q; omega).trans2 u3 fun j hj q => by
        have := e1.size
        rcases v2 j q with q | q
        · have := o1 j q; omega
        · omega
      simp [s2, s3, g2, g3, k4]
      refine wE_intro ?_ ?_
      · simp only [List.all_cons, List.all_nil, chkOk, List.nil_append, List.cons_append, List.getElem?_cons_succ, List.getElem?_cons_zero]
        simp [Bx, gH, g2, vbeq, show A.size ≠ H.size by omega]
      have ws := wrap_succ i (by omega)
      have hl3 : (l ++ [kb, nb] ++ x.body.data.toList).length = l.length + (2 + x.body.size) := by simp; rw [← hbl]; simp; omega
      simp [k9]
      refine ⟨m - 1, by omega, i + 1, _, _, by omega, rfl, rfl, by simp [k7], by simp [k8], by simpa using ws, by simp, e3, t3, ?_, ?_, ?_, ?_⟩
      · intro j hj
        have := e1.size
        rcases v3 j hj with q | q
        · rcases v2 j q with q | q
          · exact o1 j q
          · omega
        · have := eH.size; have := u2.size; omega
      · rw [ht, raw_app, hraw, ← hl]; simp
      · rw [ht, List.all_append, hok]; simp; exact ⟨x1, x2, x3⟩
      · rw [hl3]; omega
    · have hbad : its.all (fun x => decide x.ok) = false := by
        rw [List.all_eq_false]
        exact ⟨x, by rw [← hx]; exact List.getElem_mem hi, by simpa using hxk⟩
      have hR : layR its = (⟨⟨[]⟩⟩, 2) := by unfold layR; rw [hbad]; rfl
      rw [hR] at hq
      have eH : Ext NoB A ((A.alloc (.cells [.int .i64 0, .string ⟨⟨[]⟩⟩] false 0)).set A.size (.cells [.int .i64 x.kind, .string x.body] false 0)) := ⟨by simp, fun j hj _ => by simp [show j ≠ A.size by omega]⟩
      by_cases y1 : x.kind ≤ 1
      · simp [k7, k8, k9, hi, idxA, q2, q3, q4, y1]
        exact hq _ (e1.trans eH)
      · by_cases y2 : 255 < x.kind
        · simp [k7, k8, k9, hi, idxA, q2, q3, q4, y1, y2]
          exact hq _ (e1.trans eH)
        · have y3 : (253 : Int) < x.body.size := by
            have : ¬ x.body.size ≤ 253 := fun q => hxk ⟨by omega, by omega, q⟩
            omega
          simp [k7, k8, k9, hi, idxA, q2, q3, q4, y1, y2, y3]
          exact hq _ (e1.trans eH)
  · have hm : its.take i = its := List.take_of_length_le (by omega)
    rw [hm] at hl hok
    have hbv : ∃ a c, bv = .slice a l.length c := s1.read.val
    obtain ⟨ab, cb, hbv⟩ := hbv
    subst hbv
    by_cases y4 : l.length ≤ 40
    · have y4' : ¬ (40 : Int) < (l.length : Int) := by omega
      have hR : layR its = (⟨⟨pad (raw its)⟩⟩, 0) := by unfold layR; rw [hok, if_pos rfl, ← hl, if_pos y4]
      rw [hR, ← hl] at hq
      simp [k7, k8, k9, hi, k4, y4']
      refine wC_loop_inv (PI A0 l) ?_ _ _ ⟨.slice ab l.length cb, l, rfl, rfl, rfl, by simp [k4], e1, s1, o1, rfl, by omega⟩
      rintro m ⟨env, nn, dfs, A⟩ ⟨bv, l', k0, k1, k2, k4, e1, s1, o1, hp, hlen⟩
      simp only at k1 k2 k4 e1 s1
      subst k1; subst k2
      obtain ⟨ab, cb, hbv⟩ := s1.read.val
      subst hbv
      by_cases y5 : l'.length % 4 = 0
      · have y6 : ((l'.length : Int).tmod 4) = 0 := by rw [rem4, y5]; rfl
        have b1 := b2s_ok s1.read
        rw [pad_done l' y5] at hp
        rw [← hp] at hq
        simp [k4, y6, b1]
        exact hq _ e1
      · have y6 : ¬ ((l'.length : Int).tmod 4) = 0 := by rw [rem4]; omega
        have y7 : ((l'.length : Int).tmod 4 != 0) = true := by simp [y6]
        simp [k4, y7]
        obtain ⟨a2, c2, A2, s2, t2, u2, v2⟩ := appB A (A.alloc (.cells [.int .u8 0] false 0)) _ (.slice (some ⟨A.size, 0, none⟩) 1 1) l' [0] s1 Ext.alloc rfl (by simp [firstA, rdCells, ENDCAP, bcells, byt]) (by simp; omega)
        simp at s2
        simp [s2]
        refine ⟨_, ?_, _, _, rfl, rfl, rfl, by simp, e1.trans2 u2 fun j hj q => by have := o1 j q; omega, t2, ?_, ?_, ?_⟩
        · simp; omega
        · intro j hj
          have := e1.size
          rcases v2 j hj with q | q
          · exact o1 j q
          · omega
        · rw [pad_step l' y5, hp]
        · simp; omega
    · have y4' : (40 : Int) < (l.length : Int) := by omega
      have hR : layR its = (⟨⟨[]⟩⟩, 6) := by unfold layR; rw [hok, if_pos rfl, ← hl, if_neg y4]
      rw [hR] at hq
      simp [k7, k8, k9, hi, k4, y4']
      exact hq _ e1
end Go.Proofs.YtigknpfjhegkgaaGreat.Ar
