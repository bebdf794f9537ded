/- The document's Lay of stage 4. -/
import Derived.Test.YtkojapepiojnjaaQk
import Derived.KernelRfl
namespace Go.Proofs.Ytkojapepiojnjaa
open Go Go.AS
set_option maxRecDepth 100000
set_option linter.unusedSimpArgs false
set_option linter.unusedVariables false
attribute [local irreducible] Trie.set Trie.get Env.rd
attribute [local simp] Nat.add_assoc wD_cons'' wD_nil' wC_seq wC_ops wC_opsD_nil wC_cond wC_skip wC_ret wC_exit wC_block wO_cons' wO_nil wantedA wV_eq lop qop ev wL_some wL_none wPut envOf rd_set rd_leaf eqA thenC blockC wB_true wB_false endF unwindA resultsA resA tupleA rdCell rdCells wrCells cl fillP lay rep binA unA get_set' AHeap.get_alloc oneCell

theorem wV_b2s' {e : Env} {A : AHeap} {x : Operand} {Q : Value → AHeap → Prop} : wV T e A (.cvB2S x) Q ↔ wL ((b2s A (ev e x)).map fun v => (v, A)) Q := by rw [wV_eq]; rfl
attribute [local simp ↓] wV_b2s'

theorem may_ok (x : It) (A : AHeap) (Q : Value → AHeap → Prop) (hq : ∀ A', Ext NoB A A' → Q (.bool (decide x.ok)) A') : wF T (.func (.func 19) #[] #[]) [.agg ⟨[.int .i64 x.kind, .string x.body]⟩] A Q := by
  refine wF_func (first := []) (captured := []) t19 ⟨rfl, by decide⟩ ?_
  dsimp only [c19]
  by_cases h1 : (2 : Int) ≤ x.kind
  · by_cases h2 : x.kind ≤ 255
    · by_cases h3 : (x.body.size : Int) ≤ 253
      · have : decide x.ok = true := decide_eq_true ⟨h1, h2, by omega⟩
        rw [this] at hq
        simp [h1, h2, h3]
        exact hq _ Ext.alloc
      · have : decide x.ok = false := decide_eq_false fun q => h3 (by have := q.2.2; omega)
        rw [this] at hq
        simp [h1, h2, h3]
        exact hq _ Ext.alloc
    · have : decide x.ok = false := decide_eq_false fun q => h2 q.2.1
      rw [this] at hq
      simp [h1, h2]
      exact hq _ Ext.alloc
  · have : decide x.ok = false := decide_eq_false fun q => h1 q.1
    rw [this] at hq
    simp [h1]
    exact hq _ Ext.alloc

def RI (A0 : AHeap) (lv : Value) (its : List It) (m : Nat) (st : St) : Prop := ∃ i, m + i = its.length ∧ st.n = 52 ∧ st.dfs = [] ∧ st.env.rd 0 = lv ∧ st.env.rd 4 = .string ⟨⟨raw (its.take i)⟩⟩ ∧ st.env.rd 5 = .int .i64 (i : Nat) ∧
  Ext NoB A0 st.A ∧ (its.take i).all (fun x => decide x.ok) = true ∧ (raw (its.take i)).length ≤ 300 * i

def RP (A0 : AHeap) (l0 : List UInt8) (m : Nat) (st : St) : Prop := ∃ l, m = (4 - l.length % 4) % 4 ∧ st.n = 52 ∧ st.dfs = [] ∧ st.env.rd 4 = .string ⟨⟨l⟩⟩ ∧ Ext NoB A0 st.A ∧ pad l = pad l0 ∧ l.length ≤ 44

theorem reflay_ok (its : List It) (lv : Value) (A0 : AHeap) (Q : Value → AHeap → Prop) (h : ReadAt A0 2 lv its.length (icells its)) (hn : its.length ≤ 1000)
    (hq : ∀ A', Ext NoB A0 A' → Q (.tuple ⟨[.string (layR its).1, .int .i64 (layR its).2]⟩) A') : wF T (.func (.func 10) #[] #[]) [lv] A0 Q := by
  obtain ⟨a1, c1, rfl⟩ := h.val
  refine wF_func (first := []) (captured := []) t10 ⟨rfl, by decide⟩ ?_
  dsimp only [c10]; simp
  refine wC_loop_inv (RI A0 (.slice a1 its.length c1) its) ?_ its.length _ ⟨0, by omega, rfl, rfl, by simp, by simp [raw], by simp, Ext.refl, by simp, by simp [raw]⟩
  rintro m ⟨env, nn, dfs, A⟩ ⟨i, k0, k1, k2, r0, r4, r5, e1, hok, hlen⟩
  simp only at k1 k2 r0 r4 r5 e1
  subst k1; subst k2
  by_cases hi : i < its.length
  · obtain ⟨d1, p1, cc1, bs1, ro1, opn1, q1, q2, q3, q4⟩ := (h.ext e1 fun _ _ q => q).elem2 hi
    rw [icells_at its i hi] at q4
    cases q1
    rw [Nat.add_assoc] at q3
    obtain ⟨b1, b2⟩ := take2 q4
    rw [Nat.add_assoc] at b2
    have ht : its.take (i + 1) = its.take i ++ [its[i]] := by rw [List.take_add_one, List.getElem?_eq_getElem hi]; rfl
    have hmem : its[i] ∈ its := List.getElem_mem hi
    generalize its[i] = x at q4 b1 b2 ht hmem
    have ws := wrap_succ i (by omega)
    simp [r0, r4, r5, hi, idxA, q2, q3, q4]
    refine may_ok x A _ fun A1 e2 => ?_
    by_cases hx : x.ok
    · obtain ⟨x1, x2, x3⟩ := id hx
      obtain ⟨kb, hkb⟩ : ∃ kb : UInt8, UInt8.ofNat x.kind.toNat = kb := ⟨_, rfl⟩
      obtain ⟨nb, hnb⟩ : ∃ nb : UInt8, UInt8.ofNat (2 + x.body.size) = nb := ⟨_, rfl⟩
      have w1 := u8_of x.kind (by omega) x2
      have w2 : IntKind.i64.wrap ((x.body.size : Int) + 2) = 2 + (x.body.size : Int) := by rw [IntWalk.i64_in _ (by omega)]; omega
      have w3 := u8_of (2 + (x.body.size : Int)) (by omega) (by omega)
      rw [show (2 + (x.body.size : Int)).toNat = 2 + x.body.size by omega] at w3
      rw [hkb] at w1
      rw [hnb] at w3
      have hraw : x.raw = [kb, nb] ++ x.body.data.toList := by unfold It.raw; rw [hkb, hnb]; rfl
      have hbl : x.body.data.toList.length = x.body.size := rfl
      have q2' := e2.get q2 fun q => q
      have nd : d1 ≠ A1.size := by have := AHeap.get_lt q2'; omega
      have hb : b2s (A1.alloc (.cells [.int .u8 (kb.toNat : Int), .int .u8 (nb.toNat : Int)] false 0)) (.slice (some ⟨A1.size, 0, none⟩) 2 2) = some (.string ⟨⟨[kb, nb]⟩⟩) :=
        b2s_ok (l := [kb, nb]) (.inr (.inl ⟨A1.size, 0, 2, _, false, 0, rfl, by rw [AHeap.get_alloc, if_pos rfl], by simp, by simp [bcells], fun q => by cases q⟩))
      have i1 : ¬ (9223372036854775807 : Int) < ((raw (its.take i)).length : Int) + 2 := by omega
      have i2 : ¬ (9223372036854775807 : Int) < ((raw (its.take i)).length : Int) + (2 + (x.body.size : Int)) := by omega
      simp [hx, r0, r4, r5, hi, idxA, q2', b1, b2, w1, w2, w3, hb, size_mk, i1, i2, nd]
      refine ⟨m - 1, by omega, i + 1, by omega, rfl, rfl, by simp [r0], ?_, by simpa using ws, (e1.trans e2).trans Ext.alloc, ?_, ?_⟩
      · simp [ht, raw_app, hraw]
      · rw [ht, List.all_append, hok]; simp [hx]
      · rw [ht, raw_app, List.length_append, It.raw_len]; omega
    · have hbad : its.all (fun x => decide x.ok) = false := by
        rw [List.all_eq_false]
        exact ⟨x, hmem, by simpa using hx⟩
      have hR : layR its = (⟨⟨[]⟩⟩, 2) := by unfold layR; rw [hbad]; rfl
      rw [hR] at hq
      simp [hx]
      exact hq _ (e1.trans e2)
  · have hm : its.take i = its := List.take_of_length_le (by omega)
    rw [hm] at r4 hok hlen
    by_cases y4 : (raw its).length ≤ 40
    · have y4' : ¬ (40 : Int) < ((raw its).length : Int) := by omega
      have hR : layR its = (⟨⟨pad (raw its)⟩⟩, 0) := by unfold layR; rw [hok, if_pos rfl, if_pos y4]
      rw [hR] at hq
      simp [r0, r4, r5, hi, y4', size_mk]
      refine wC_loop_inv (RP A0 (raw its)) ?_ _ _ ⟨raw its, rfl, rfl, rfl, by simp [r4], e1, rfl, by omega⟩
      rintro m ⟨env, nn, dfs, A⟩ ⟨l', k0, k1, k2, r4, e1, hp, hlen⟩
      simp only at k1 k2 r4 e1
      subst k1; subst k2
      by_cases y5 : l'.length % 4 = 0
      · have y6 : ((l'.length : Int).tmod 4) = 0 := by rw [rem4, y5]; rfl
        rw [pad_done l' y5] at hp
        rw [← hp] at hq
        simp [r4, y6, size_mk]
        exact hq _ e1
      · have y6 : ¬ ((l'.length : Int).tmod 4) = 0 := by rw [rem4]; omega
        have y7 : ((l'.length : Int).tmod 4 != 0) = true := by simp [y6]
        have i1 : ¬ (9223372036854775807 : Int) < (l'.length : Int) + 1 := by omega
        simp [r4, y7, size_mk, i1]
        refine ⟨_, ?_, l' ++ [0], rfl, rfl, rfl, by simp, e1, ?_, ?_⟩
        · simp; omega
        · rw [pad_step l' y5, hp]
        · simp; omega
    · have y4' : (40 : Int) < ((raw its).length : Int) := by omega
      have hR : layR its = (⟨⟨[]⟩⟩, 6) := by unfold layR; rw [hok, if_pos rfl, if_neg y4]
      rw [hR] at hq
      simp [r0, r4, r5, hi, y4', size_mk]
      exact hq _ e1
end Go.Proofs.Ytkojapepiojnjaa
