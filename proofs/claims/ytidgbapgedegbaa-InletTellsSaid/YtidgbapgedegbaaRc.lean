/- Mappings: the table. -/
import Derived.Test.YtidgbapgedegbaaRb
import Derived.Test.YtidgbapgedegbaaM3
import Derived.KernelRfl
namespace Go.Proofs.Ytidgbapgedegbaa
open Go Go.AS
set_option maxRecDepth 100000
set_option linter.unusedSimpArgs false
set_option linter.unusedVariables false
attribute [local irreducible] Trie.set Trie.get Env.rd
attribute [local simp] Nat.add_assoc wD_cons'' wD_nil' wC_seq wC_ops wC_opsD_nil wC_cond wC_skip wC_ret wC_exit wC_block wO_cons' wO_nil wantedA wV_eq lop qop ev wL_some wL_none wPut envOf rd_set rd_leaf eqA thenC blockC wB_true wB_false endF unwindA resultsA resA tupleA rdCell rdCells wrCells cl fillP lay rep binA unA get_set' AHeap.get_alloc oneCell beqd bned idxA

def findM (ms : List Mp) (at_ : Int) : Option Mp := ms.find? fun m => decide (m.at_ = at_)

theorem find_place {ms : List Mp} {at_ : Int} {i : Nat} (rise : Rise ms) (h : Place ms at_ i) : findM ms at_ = if isAt ms i at_ then ms[i]? else none := by
  obtain ⟨h1, h2, h3⟩ := h
  have e : ms = ms.take i ++ ms.drop i := (List.take_append_drop i ms).symm
  have n1 : (ms.take i).find? (fun m => decide (m.at_ = at_)) = none := by
    rw [List.find?_eq_none]
    intro m hm
    obtain ⟨k, hk, rfl⟩ := List.getElem_of_mem hm
    rw [List.length_take] at hk
    rw [List.getElem_take]
    have := h2 k (by omega) (by omega)
    simp; omega
  unfold findM isAt
  rw [e, List.find?_append, n1, Option.none_or, ← e]
  cases hi : ms[i]? with
  | none =>
    have : ms.length ≤ i := by rw [List.getElem?_eq_none_iff] at hi; exact hi
    rw [List.drop_eq_nil_of_le this]; rfl
  | some m =>
    obtain ⟨hlt, rfl⟩ := List.getElem?_eq_some_iff.1 hi
    rw [List.drop_eq_getElem_cons hlt, List.find?_cons]
    by_cases c : ms[i].at_ = at_
    · simp [c]
    · simp only [c, decide_false]
      rw [List.find?_eq_none.2]
      · simp
      · intro x hx
        obtain ⟨k, hk, rfl⟩ := List.getElem_of_mem hx
        rw [List.length_drop] at hk
        rw [List.getElem_drop]
        have a1 := List.pairwise_iff_getElem.1 rise i (i + 1 + k) hlt (by omega) (by omega)
        have a2 := h3 i hlt (Nat.le_refl _)
        simp only [decide_eq_true_eq]; omega

def mp0 : Mp := ⟨0, 0, 0, 0⟩

theorem tnew_ok (room : Nat) (h1 : 1 ≤ room) (h2 : room ≤ 2048) (A : AHeap) (Q : Value → AHeap → Prop) (hq : ∀ A' p, Ext NoB A A' → A.size ≤ p → TabAt A' p room 0 [] (fun j => j = p) → Q (.tuple ⟨[.pointer (some ⟨p, 0, none⟩), .int .i64 0]⟩) A') :
    wF T (.func (.func 72) #[] #[]) [.int .i64 (room : Nat)] A Q := by
  refine wF_func (first := []) (captured := []) t72 ⟨rfl, by decide⟩ ?_
  dsimp only [c72]
  have g1 : ¬ ((room : Int) < 1) := by omega
  have g2 : ¬ ((2048 : Int) < room) := by omega
  simp [g1, g2]
  refine hq _ _ Ext.alloc (Nat.le_refl _) ⟨.slice none 0 0, by simp, SliceAt.nil, rfl, ?_, ?_⟩
  · rintro ⟨_, _, _, q⟩; cases q
  · rintro j ⟨_, _, _, q⟩; cases q
theorem tnew_bad (room : Int) (h : room < 1 ∨ 2048 < room) (A : AHeap) (Q : Value → AHeap → Prop) (hq : Q (.tuple ⟨[.pointer none, .int .i64 2]⟩) A) :
    wF T (.func (.func 72) #[] #[]) [.int .i64 room] A Q := by
  refine wF_func (first := []) (captured := []) t72 ⟨rfl, by decide⟩ ?_
  dsimp only [c72]
  by_cases g1 : room < 1
  · simp [g1]; exact hq
  · simp [g1, show (2048 : Int) < room by omega]; exact hq

def atV (o : Option Mp) : Value := match o with | some m => .tuple ⟨[.agg ⟨mpc m⟩, .bool true]⟩ | none => .tuple ⟨[.agg ⟨mpc mp0⟩, .bool false]⟩

theorem at_ok (A : AHeap) (p room begin : Nat) (ms : List Mp) (S : Nat → Prop) (at_ : Int) (Q : Value → AHeap → Prop) (h : TabAt A p room begin ms S) (ok : TabOk room begin ms) (hQ : ∀ A', Ext NoB A A' → Q (atV (findM ms at_)) A') :
    wF T (.func (.func 119) #[] #[]) [.pointer (some ⟨p, 0, none⟩), .int .i64 at_] A Q := by
  have hl := ok.len; have hr := ok.room2
  refine wF_func (first := []) (captured := []) t119 ⟨rfl, by decide⟩ ?_
  dsimp only [c119]
  simp
  generalize hA1 : A.alloc _ = A1
  obtain ⟨g1, e1, z1⟩ := alloc_facts hA1
  have h' := h.ext e1 fun _ _ => id
  refine find_ok A1 p room begin ms S at_ _ h' ok.rise (by omega) fun A2 i e2 pl => ?_
  have g2 := e2.get g1 id
  have l2 := AHeap.get_lt g2
  rw [find_place ok.rise pl] at hQ
  cases ha : isAt ms i at_ with
  | false =>
    simp [ha] at hQ
    simp [g2, l2]
    generalize hA3 : AHeap.set A2 _ _ = A3
    obtain ⟨g3, e3, z3⟩ := set_facts l2 hA3
    exact hQ A3 ((e1.trans e2).trans2 e3 fun j hj q => by omega)
  | true =>
    simp only [ha, if_true] at hQ
    unfold isAt at ha
    cases hi : ms[i]? with
    | none => rw [hi] at ha; cases ha
    | some m =>
      rw [hi] at hQ
      obtain ⟨hlt, rfl⟩ := List.getElem?_eq_some_iff.1 hi
      obtain ⟨v, q1, q2, _⟩ := h'.ext e2 fun _ _ => id
      obtain ⟨d, o, c', bs, ro, opn, k1, k2, k3, k4⟩ := q2.read.elem2 hlt
      subst k1
      rw [encs_at mpcz ms i hlt] at k4
      simp at k3 k4
      have k5 : (mpc ms[i]).all oneCell = true := rfl
      simp [g2, l2, q1, hlt, k2, k3, k4, mpc]
      generalize hA3 : AHeap.set (AHeap.set A2 _ _) _ _ = A3
      have e3 : Ext (fun j => j = A.size) A2 A3 := by rw [← hA3]; exact (Ext.set (S := fun j => j = A.size) rfl).trans (Ext.set rfl)
      exact hQ A3 ((e1.trans e2).trans2 e3 fun j hj q => by omega)

theorem cut_ok (A : AHeap) (p room begin : Nat) (ms : List Mp) (S : Nat → Prop) (n : Int) (Q : Value → AHeap → Prop) (h : TabAt A p room begin ms S) (ok : TabOk room begin ms)
    (hQ : ∀ A' w (b : Nat), (b : Int) = max (begin : Int) (min n 2305843009213693952) → TabAt A' p room b (ms.filter fun m => decide ((b : Int) ≤ m.at_)) S → TabOk room b (ms.filter fun m => decide ((b : Int) ≤ m.at_)) → Ext S A A' → Q w A') :
    wF T (.func (.func 90) #[] #[]) [.pointer (some ⟨p, 0, none⟩), .int .i64 n] A Q := by
  have hl := ok.len; have hr := ok.room2; have hb := ok.big
  have lp := h.lt
  obtain ⟨v, h1, h2, h3, h4, h5⟩ := h
  obtain ⟨b, hbe⟩ : ∃ b : Nat, (b : Int) = max (begin : Int) (min n 2305843009213693952) := ⟨(max (begin : Int) (min n 2305843009213693952)).toNat, by omega⟩
  have m1 : foldV minV (.int .i64 n) [.int .i64 2305843009213693952] = some (.int .i64 (min n 2305843009213693952)) := by
    simp only [foldV, minV]; congr 2; omega
  have m2 : foldV maxV (.int .i64 (begin : Int)) [.int .i64 (min n 2305843009213693952)] = some (.int .i64 (b : Int)) := by
    simp only [foldV, maxV]; congr 2; omega
  refine wF_func (first := []) (captured := []) t90 ⟨rfl, by decide⟩ ?_
  dsimp only [c90]
  simp [h1, m1, m2, lp]
  generalize hA1 : AHeap.set A p _ = A1
  obtain ⟨g1, e1, z1⟩ := set_facts lp hA1
  have s1 := h2.ext e1 fun j hj q => h4 (q ▸ hj)
  have okx : ∀ x : Nat, begin ≤ x → x ≤ 2305843009213693952 → TabOk room x (ms.filter fun m => decide ((x : Int) ≤ m.at_)) := fun x hx hx2 => ⟨ok.rise.filter _, fun m hm => by
    rw [List.mem_filter] at hm
    have := ok.dom m hm.1
    have := of_decide_eq_true hm.2
    omega, hx2, ok.room1, ok.room2, fun m hm => ok.lens m (List.mem_filter.1 hm).1⟩
  have t1 : TabAt A1 p room b ms S := ⟨v, g1, s1, h3, h4, h5⟩
  refine find_ok A1 p room b ms S b _ t1 ok.rise (by omega) fun A2 i e2 pl => ?_
  have g2 := e2.get g1 id
  have s2 := s1.ext e2 fun _ _ => id
  have l2 := AHeap.get_lt g2
  obtain ⟨v', c1, c2, c3⟩ := s2.from (k1 := .i64) (by decide) pl.1
  obtain ⟨a', c', hv'⟩ := c2.read.val
  subst hv'
  simp [g2, c1, l2]
  generalize hA3 : AHeap.set A2 p _ = A3
  obtain ⟨g3, e3, z3⟩ := set_facts l2 hA3
  have fl : ms.filter (fun m => decide ((b : Int) ≤ m.at_)) = ms.drop i := by
    have e : ms = ms.take i ++ ms.drop i := (List.take_append_drop i ms).symm
    conv => lhs; rw [e]
    rw [List.filter_append, List.filter_eq_nil_iff.2, List.filter_eq_self.2, List.nil_append]
    · intro m hm
      obtain ⟨k, hk, rfl⟩ := List.getElem_of_mem hm
      rw [List.length_drop] at hk
      rw [List.getElem_drop]
      have := pl.2.2 (i + k) (by omega) (by omega)
      simpa using this
    · intro m hm
      obtain ⟨k, hk, rfl⟩ := List.getElem_of_mem hm
      rw [List.length_take] at hk
      rw [List.getElem_take]
      have := pl.2.1 k (by omega) (by omega)
      simp; omega
  refine hQ A3 _ b hbe ?_ (okx b (by omega) (by omega)) (((e1.mono fun j _ q => q ▸ h3).trans (e2.mono fun _ _ q => q.elim)).trans (e3.mono fun j _ q => q ▸ h3))
  rw [fl]
  refine ⟨_, g3, ?_, h3, fun q => h4 (c3 p q), fun j hj => h5 j (c3 j hj)⟩
  have dl : (ms.drop i).length = ms.length - i := List.length_drop
  have drp : (encs mpc ms).drop (i * 4) = encs mpc (ms.drop i) := by
    have e : ms = ms.take i ++ ms.drop i := (List.take_append_drop i ms).symm
    conv => lhs; rw [e]
    rw [encs_append]
    have : i * 4 = (encs mpc (ms.take i)).length := by rw [encs_len mpcz, List.length_take, Nat.min_eq_left pl.1]
    rw [this, List.drop_left]
  rw [dl, ← drp]
  exact c2.ext e3 fun j hj q => h4 (c3 p (q ▸ hj))
end Go.Proofs.Ytidgbapgedegbaa
