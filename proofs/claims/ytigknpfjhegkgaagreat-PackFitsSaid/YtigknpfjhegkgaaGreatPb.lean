/- Numbers and texts read from bytes. -/
import Derived.Test.YtigknpfjhegkgaaGreatPa
import Derived.KernelRfl
namespace Go.Proofs.YtigknpfjhegkgaaGreat
open Go Go.AS
set_option maxRecDepth 100000
set_option linter.unusedSimpArgs false
set_option linter.unusedVariables false
attribute [local irreducible] Trie.set Trie.get Env.rd
attribute [local simp ↓] wV_b2s
attribute [local simp] Nat.add_assoc wD_cons'' wD_nil' wC_seq wC_ops wC_opsD_nil wC_cond wC_skip wC_ret wC_exit wC_block wO_cons' wO_nil wantedA wV_eq lop qop ev wL_some wL_none wPut envOf rd_set rd_leaf eqA thenC blockC wB_true wB_false endF unwindA resultsA resA tupleA rdCell rdCells wrCells cl fillP lay rep binA unA get_set' AHeap.get_alloc oneCell beqd bned idxA

/-- A cursor. -/
structure Cur where
  s : List UInt8
  at_ : Nat
  br : Bool
def Cur.cells (c : Cur) : List Value := [.string ⟨⟨c.s⟩⟩, .int .i64 (c.at_ : Nat), .bool c.br]
structure CurAt (A : AHeap) (p : Nat) (c : Cur) : Prop where
  g : A.get p = some (.cells c.cells false 0)
  le : c.at_ ≤ c.s.length
  big : c.s.length < 1000000
theorem CurAt.ext {A A' : AHeap} {p : Nat} {c : Cur} {S : Nat → Prop} (h : CurAt A p c) (e : Ext S A A') (hs : ¬ S p) : CurAt A' p c := ⟨e.get h.g hs, h.le, h.big⟩
/-- So many bytes are passed. -/
def Cur.ok (c : Cur) (n : Nat) : Bool := !c.br && decide (c.at_ + n ≤ c.s.length)
def Cur.go (c : Cur) (n : Nat) : Cur := if c.ok n then { c with at_ := c.at_ + n } else { c with br := true }
def Cur.got (c : Cur) (n : Nat) : List UInt8 := if c.ok n then (c.s.drop c.at_).take n else []
def val : List UInt8 → Nat := List.foldl (fun a b => a * 256 + b.toNat) 0
theorem val_snoc (l : List UInt8) (b : UInt8) : val (l ++ [b]) = val l * 256 + b.toNat := by simp [val]
theorem val_lt' : ∀ (l : List UInt8) (a : Nat), List.foldl (fun a (b : UInt8) => a * 256 + b.toNat) a l < (a + 1) * 256 ^ l.length := by
  intro l
  induction l with
  | nil => intro a; simp
  | cons b l ih =>
    intro a
    have h1 := ih (a * 256 + b.toNat)
    have h2 := b.toNat_lt
    rw [List.foldl_cons, List.length_cons, Nat.pow_succ]
    refine Nat.lt_of_lt_of_le h1 ?_
    have h3 : a * 256 + b.toNat + 1 ≤ (a + 1) * 256 := by omega
    have h4 := Nat.mul_le_mul_right (256 ^ l.length) h3
    rw [Nat.mul_comm (256 ^ l.length) 256, ← Nat.mul_assoc]
    exact h4
theorem val_lt (l : List UInt8) : val l < 256 ^ l.length := by
  have := val_lt' l 0
  simpa [val] using this
theorem sl_to (l : List UInt8) (k : IntKind) (j : Nat) (h : j ≤ l.length) : sliceSA (.string ⟨⟨l⟩⟩) none (some (.int k (j : Int))) = some (.string ⟨⟨l.take j⟩⟩) := by
  have hb : bnd (.int k (j : Int)) l.length = some j := bnd_nat k j _ h
  unfold sliceSA; delta bndsA; simp [hb]
theorem sl_from (l : List UInt8) (k : IntKind) (j : Nat) (h : j ≤ l.length) : sliceSA (.string ⟨⟨l⟩⟩) (some (.int k (j : Int))) none = some (.string ⟨⟨l.drop j⟩⟩) := by
  have hb : bnd (.int k (j : Int)) l.length = some j := bnd_nat k j _ h
  unfold sliceSA; delta bndsA; simp [hb]
  rw [List.take_of_length_le (by rw [List.length_drop]; exact Nat.le_refl _)]
theorem sl_mid (l : List UInt8) (k k' : IntKind) (i j : Nat) (hi : i ≤ j) (h : j ≤ l.length) : sliceSA (.string ⟨⟨l⟩⟩) (some (.int k (i : Int))) (some (.int k' (j : Int))) = some (.string ⟨⟨(l.drop i).take (j - i)⟩⟩) := by
  have hb : bnd (.int k' (j : Int)) l.length = some j := bnd_nat k' j _ h
  have hc : bnd (.int k (i : Int)) j = some i := bnd_nat k i _ hi
  unfold sliceSA; delta bndsA; simp [hb, hc]

theorem pass_ok (A : AHeap) (p : Nat) (c : Cur) (n : Nat) (use : Value) (h : CurAt A p c) (hn : n < 1000000) (Q : Value → AHeap → Prop)
    (h1 : c.ok n = false → ∀ A' v, CurAt A' p (c.go n) → Ext (fun j => j = p) A A' → Q v A')
    (h2 : c.ok n = true → ∀ A', CurAt A' p (c.go n) → Ext (fun j => j = p) A A' → wF T use [.string ⟨⟨c.got n⟩⟩] A' fun _ A2 => ∀ v, Q v A2) :
    wF T (.func (.func 137) #[] #[]) [.pointer (some ⟨p, 0, none⟩), .int .i64 (n : Nat), use] A Q := by
  refine wF_func (first := []) (captured := []) t137 ⟨rfl, by decide⟩ ?_
  dsimp only [c137]
  obtain ⟨s, i, br⟩ := c
  have g := h.g
  have lt := AHeap.get_lt g
  have hle := h.le
  have hbig := h.big
  simp only at hle hbig
  simp only [Cur.cells] at g
  have w1 : IntKind.i64.wrap ((s.length : Int) - (i : Int)) = (s.length : Int) - (i : Int) := IntWalk.i64_in _ (by omega)
  cases br with
  | true =>
    simp [g]
    exact h1 rfl A _ ⟨h.g, h.le, h.big⟩ Ext.refl
  | false =>
    by_cases hc : i + n ≤ s.length
    · have w2 : IntKind.i64.wrap ((i : Int) + (n : Int)) = ((i + n : Nat) : Int) := by rw [IntWalk.i64_in _ (by omega)]; omega
      have w3 := wn i (by omega)
      have hok : (⟨s, i, false⟩ : Cur).ok n = true := by simp [Cur.ok, hc]
      have hgo : (⟨s, i, false⟩ : Cur).go n = ⟨s, i + n, false⟩ := by simp [Cur.go, hok]
      have hgot : (⟨s, i, false⟩ : Cur).got n = (s.drop i).take n := by simp [Cur.got, hok]
      have hsl : sliceSA (.string ⟨⟨s⟩⟩) (some (.int .i64 (i : Int))) (some (.int .i64 ((i : Int) + (n : Int)))) = some (.string ⟨⟨(s.drop i).take n⟩⟩) := by
        have := sl_mid s .i64 .i64 i (i + n) (by omega) hc
        rw [show i + n - i = n by omega, show ((i + n : Nat) : Int) = (i : Int) + (n : Int) by omega] at this
        exact this
      simp [g, w1, w2, lt, show ¬ (n : Int) < 0 by omega, show ¬ ((s.length : Int) - (i : Int) < (n : Int)) by omega]
      generalize hA2 : AHeap.set A p _ = A2
      obtain ⟨g2, e2, z2⟩ := set_facts lt hA2
      simp [g2, w3, hsl]
      have := h2 hok A2 ⟨by rw [hgo]; exact g2, by rw [hgo]; exact hc, by rw [hgo]; exact hbig⟩ e2
      rw [hgot] at this
      refine this.mono fun v A3 hq => ?_
      simp
      exact hq _
    · have hok : (⟨s, i, false⟩ : Cur).ok n = false := by simp [Cur.ok, hc]
      have hgo : (⟨s, i, false⟩ : Cur).go n = ⟨s, i, true⟩ := by simp [Cur.go, hok]
      simp [g, w1, lt, show ¬ (n : Int) < 0 by omega, show (s.length : Int) - (i : Int) < (n : Int) by omega]
      generalize hA2 : AHeap.set A p _ = A2
      obtain ⟨g2, e2, z2⟩ := set_facts lt hA2
      exact h1 hok A2 _ ⟨by rw [hgo]; exact g2, by rw [hgo]; exact hle, by rw [hgo]; exact hbig⟩ e2
theorem shl8 (x : Nat) (b : UInt8) (h : x < 72057594037927936) : IntKind.u64.wrap ((BitVec.ofInt 64 (IntKind.u64.wrap ((x : Int) * 256)) ||| BitVec.ofNat 64 b.toNat).toNat : Int) = (x : Int) * 256 + (b.toNat : Int) := by
  have hb := b.toNat_lt
  have e1 : IntKind.u64.wrap ((x : Int) * 256) = ((x * 256 : Nat) : Int) := by rw [IntWalk.u64_in _ (by omega)]; omega
  rw [e1]
  have e2 : (BitVec.ofInt 64 ((x * 256 : Nat) : Int) ||| BitVec.ofNat 64 b.toNat).toNat = x * 256 + b.toNat := by
    rw [BitVec.toNat_or, BitVec.ofInt_natCast, BitVec.toNat_ofNat, BitVec.toNat_ofNat, Nat.mod_eq_of_lt (by omega), Nat.mod_eq_of_lt (by omega)]
    have := Nat.two_pow_add_eq_or_of_lt (i := 8) (b := b.toNat) (by omega) x
    rw [show x * 256 = 2 ^ 8 * x by omega, ← this]
  rw [e2, IntWalk.u64_in _ (by omega)]
  omega
def NumI (nn : Nat) (s : List UInt8) (q : Nat) (B : Nat) (A0 : AHeap) (m : Nat) (st : St) : Prop := ∃ k : Nat, k ≤ s.length ∧ m = s.length - k ∧ st.n = nn ∧ st.dfs = [] ∧ st.A = A0 ∧
  (st.env.rd 1 = .pointer (some ⟨q, 0, none⟩) ∧ st.env.rd 3 = .int .u64 ((val (s.take k) : Nat) : Int) ∧ st.env.rd 7 = .slice (some ⟨B, 0, none⟩) s.length OPEN ∧ st.env.rd 8 = .int .i64 (s.length : Nat) ∧ st.env.rd 9 = .int .i64 (k : Nat))

theorem numu8_c (A : AHeap) (s : List UInt8) (q : Nat) (old : Int) (hs : s.length ≤ 1) (g : A.get q = some (.cells [.int .u8 old] false 0)) (Q : Value → AHeap → Prop) (hq : ∀ A' v, A'.get q = some (.cells [.int .u8 (val s : Nat)] false 0) → Ext (fun j => j = q) A A' → Q v A') :
    wF T (.func (.func 148) ⟨[]⟩ ⟨[.pointer (some ⟨q, 0, none⟩)]⟩) [.string ⟨⟨s⟩⟩] A Q := by
  refine wF_func (first := []) (captured := [.pointer (some ⟨q, 0, none⟩)]) t148 ⟨rfl, by decide⟩ ?_
  dsimp only [c148]
  simp
  generalize hA1 : A.alloc _ = A1
  obtain ⟨g1, e1, z1⟩ := alloc_facts hA1
  have gq := e1.get g id
  have lq := AHeap.get_lt gq
  have lt0 := AHeap.get_lt g
  refine wC_loop_inv (NumI 21 s q A.size A1) ?_ s.length _ ⟨0, by omega, rfl, rfl, rfl, rfl, by simp, by simp [val], by simp, by simp, by simp⟩
  rintro m ⟨env, nn, dfs, B⟩ ⟨k, hk, rfl, s1, s2, s3, r1, r3, r7, r8, r9⟩
  simp only at s1 s2 s3 r1 r3 r7 r8 r9
  subst s1; subst s2; subst s3
  by_cases c : k < s.length
  · have hval : val (s.take k) < 256 ^ k := by
      have := val_lt (s.take k)
      rwa [List.length_take, Nat.min_eq_left hk] at this
    have hv : val (s.take k) < 72057594037927936 := Nat.lt_of_lt_of_le hval (Nat.le_trans (Nat.pow_le_pow_right (by decide) (show k ≤ 7 by omega)) (by decide))
    have hb : (s.map fun b => Value.int .u8 (b.toNat : Nat))[k]? = some (.int .u8 (s[k].toNat : Nat)) := by rw [List.getElem?_map, List.getElem?_eq_getElem c]; rfl
    have wb : IntKind.u64.wrap ((s[k].toNat : Nat) : Int) = (s[k].toNat : Nat) := IntWalk.u64_in _ (by have := s[k].toNat_lt; omega)
    have hs8 := shl8 (val (s.take k)) s[k] hv
    have w2 : IntKind.i64.wrap ((k : Int) + 1) = ((k + 1 : Nat) : Int) := IntWalk.i64_in _ (by omega)
    have hsn : val (s.take (k + 1)) = val (s.take k) * 256 + s[k].toNat := by rw [List.take_succ_eq_append_getElem c, val_snoc]
    simp [r1, r3, r7, r8, r9, c, g1, hb, wb, IntKind.bits]
    exact ⟨s.length - (k + 1), by omega, k + 1, by omega, rfl, rfl, rfl, rfl, by simp [r1], by simp [hsn]; exact hs8, by simp [r7], by simp [r8], by simpa using w2⟩
  · have hk' : k = s.length := by omega
    subst hk'
    rw [List.take_length] at r3
    have hval := val_lt s
    have hlt : val s < 256 ^ 1 := Nat.lt_of_lt_of_le hval (Nat.pow_le_pow_right (by decide) hs)
    have wv : IntKind.u8.wrap ((val s : Nat) : Int) = (val s : Nat) := IntWalk.u8_in _ (by omega)
    simp [r1, r3, r7, r8, r9, gq, lq, wv]
    generalize hA2 : AHeap.set B q _ = A2
    obtain ⟨g2, e2, z2⟩ := set_facts lq hA2
    exact hq A2 _ g2 ((e1.mono fun _ _ z => z.elim).trans e2)

theorem numu8_ok (A : AHeap) (p : Nat) (c : Cur) (h : CurAt A p c) (Q : Value → AHeap → Prop) (hq : ∀ A', CurAt A' p (c.go 1) → Ext (fun j => j = p) A A' → Q (.int .u8 (val (c.got 1) : Nat)) A') :
    wF T (.func (.func 134) #[] #[]) [.pointer (some ⟨p, 0, none⟩), .int .i64 1] A Q := by
  refine wF_func (first := []) (captured := []) t134 ⟨rfl, by decide⟩ ?_
  dsimp only [c134]
  have lp := AHeap.get_lt h.g
  simp
  generalize hA1 : A.alloc _ = A1
  obtain ⟨g1, e1, z1⟩ := alloc_facts hA1
  refine pass_ok A1 p c 1 _ (h.ext e1 id) (by decide) _ (fun hf A2 v h2 e2 => ?_) (fun hf A2 h2 e2 => ?_)
  · have g2 := e2.get g1 (by omega)
    have l2 := AHeap.get_lt g2
    have z2 := e2.size
    have : c.got 1 = [] := by simp [Cur.got, hf]
    simp [g2, l2]
    generalize hA3 : AHeap.set A2 _ _ = A3
    obtain ⟨g3, e3, z3⟩ := set_facts l2 hA3
    have hval0 : val (c.got 1) = 0 := by rw [this]; rfl
    rw [hval0] at hq
    exact hq A3 (h2.ext e3 (by omega)) (((e1.mono fun _ _ z => z.elim).trans e2).trans2 e3 fun j hj z => by omega)
  · have g2 := e2.get g1 (by omega)
    refine numu8_c A2 (c.got 1) A.size 0 ?_ g2 _ fun A3 v g3 e3 => ?_
    · simp [Cur.got, hf]; omega
    · intro w
      have l3 := AHeap.get_lt g3
      simp [g3, l3]
      generalize hA4 : AHeap.set A3 _ _ = A4
      obtain ⟨g4, e4, z4⟩ := set_facts l3 hA4
      have z3 := e3.size
      have z2 := e2.size
      exact hq A4 ((h2.ext e3 (by omega)).ext e4 (by omega)) ((((e1.mono fun _ _ z => z.elim).trans e2).trans2 e3 fun j hj z => by omega).trans2 e4 fun j hj z => by omega)

theorem U8_ok (A : AHeap) (p : Nat) (c : Cur) (h : CurAt A p c) (Q : Value → AHeap → Prop) (hq : ∀ A', CurAt A' p (c.go 1) → Ext (fun j => j = p) A A' → Q (.int .u8 (val (c.got 1) : Nat)) A') :
    wF T (.func (.func 88) #[] #[]) [.pointer (some ⟨p, 0, none⟩)] A Q := by
  refine wF_func (first := []) (captured := []) t88 ⟨rfl, by decide⟩ ?_
  dsimp only [c88]
  simp
  refine numu8_ok A p c h _ fun A1 h1 e1 => ?_
  simp
  exact hq A1 h1 e1

theorem numu16_c (A : AHeap) (s : List UInt8) (q : Nat) (old : Int) (hs : s.length ≤ 2) (g : A.get q = some (.cells [.int .u16 old] false 0)) (Q : Value → AHeap → Prop) (hq : ∀ A' v, A'.get q = some (.cells [.int .u16 (val s : Nat)] false 0) → Ext (fun j => j = q) A A' → Q v A') :
    wF T (.func (.func 147) ⟨[]⟩ ⟨[.pointer (some ⟨q, 0, none⟩)]⟩) [.string ⟨⟨s⟩⟩] A Q := by
  refine wF_func (first := []) (captured := [.pointer (some ⟨q, 0, none⟩)]) t147 ⟨rfl, by decide⟩ ?_
  dsimp only [c147]
  simp
  generalize hA1 : A.alloc _ = A1
  obtain ⟨g1, e1, z1⟩ := alloc_facts hA1
  have gq := e1.get g id
  have lq := AHeap.get_lt gq
  have lt0 := AHeap.get_lt g
  refine wC_loop_inv (NumI 21 s q A.size A1) ?_ s.length _ ⟨0, by omega, rfl, rfl, rfl, rfl, by simp, by simp [val], by simp, by simp, by simp⟩
  rintro m ⟨env, nn, dfs, B⟩ ⟨k, hk, rfl, s1, s2, s3, r1, r3, r7, r8, r9⟩
  simp only at s1 s2 s3 r1 r3 r7 r8 r9
  subst s1; subst s2; subst s3
  by_cases c : k < s.length
  · have hval : val (s.take k) < 256 ^ k := by
      have := val_lt (s.take k)
      rwa [List.length_take, Nat.min_eq_left hk] at this
    have hv : val (s.take k) < 72057594037927936 := Nat.lt_of_lt_of_le hval (Nat.le_trans (Nat.pow_le_pow_right (by decide) (show k ≤ 7 by omega)) (by decide))
    have hb : (s.map fun b => Value.int .u8 (b.toNat : Nat))[k]? = some (.int .u8 (s[k].toNat : Nat)) := by rw [List.getElem?_map, List.getElem?_eq_getElem c]; rfl
    have wb : IntKind.u64.wrap ((s[k].toNat : Nat) : Int) = (s[k].toNat : Nat) := IntWalk.u64_in _ (by have := s[k].toNat_lt; omega)
    have hs8 := shl8 (val (s.take k)) s[k] hv
    have w2 : IntKind.i64.wrap ((k : Int) + 1) = ((k + 1 : Nat) : Int) := IntWalk.i64_in _ (by omega)
    have hsn : val (s.take (k + 1)) = val (s.take k) * 256 + s[k].toNat := by rw [List.take_succ_eq_append_getElem c, val_snoc]
    simp [r1, r3, r7, r8, r9, c, g1, hb, wb, IntKind.bits]
    exact ⟨s.length - (k + 1), by omega, k + 1, by omega, rfl, rfl, rfl, rfl, by simp [r1], by simp [hsn]; exact hs8, by simp [r7], by simp [r8], by simpa using w2⟩
  · have hk' : k = s.length := by omega
    subst hk'
    rw [List.take_length] at r3
    have hval := val_lt s
    have hlt : val s < 256 ^ 2 := Nat.lt_of_lt_of_le hval (Nat.pow_le_pow_right (by decide) hs)
    have wv : IntKind.u16.wrap ((val s : Nat) : Int) = (val s : Nat) := IntWalk.u16_in _ (by omega)
    simp [r1, r3, r7, r8, r9, gq, lq, wv]
    generalize hA2 : AHeap.set B q _ = A2
    obtain ⟨g2, e2, z2⟩ := set_facts lq hA2
    exact hq A2 _ g2 ((e1.mono fun _ _ z => z.elim).trans e2)

theorem numu16_ok (A : AHeap) (p : Nat) (c : Cur) (h : CurAt A p c) (Q : Value → AHeap → Prop) (hq : ∀ A', CurAt A' p (c.go 2) → Ext (fun j => j = p) A A' → Q (.int .u16 (val (c.got 2) : Nat)) A') :
    wF T (.func (.func 133) #[] #[]) [.pointer (some ⟨p, 0, none⟩), .int .i64 2] A Q := by
  refine wF_func (first := []) (captured := []) t133 ⟨rfl, by decide⟩ ?_
  dsimp only [c133]
  have lp := AHeap.get_lt h.g
  simp
  generalize hA1 : A.alloc _ = A1
  obtain ⟨g1, e1, z1⟩ := alloc_facts hA1
  refine pass_ok A1 p c 2 _ (h.ext e1 id) (by decide) _ (fun hf A2 v h2 e2 => ?_) (fun hf A2 h2 e2 => ?_)
  · have g2 := e2.get g1 (by omega)
    have l2 := AHeap.get_lt g2
    have z2 := e2.size
    have : c.got 2 = [] := by simp [Cur.got, hf]
    simp [g2, l2]
    generalize hA3 : AHeap.set A2 _ _ = A3
    obtain ⟨g3, e3, z3⟩ := set_facts l2 hA3
    have hval0 : val (c.got 2) = 0 := by rw [this]; rfl
    rw [hval0] at hq
    exact hq A3 (h2.ext e3 (by omega)) (((e1.mono fun _ _ z => z.elim).trans e2).trans2 e3 fun j hj z => by omega)
  · have g2 := e2.get g1 (by omega)
    refine numu16_c A2 (c.got 2) A.size 0 ?_ g2 _ fun A3 v g3 e3 => ?_
    · simp [Cur.got, hf]; omega
    · intro w
      have l3 := AHeap.get_lt g3
      simp [g3, l3]
      generalize hA4 : AHeap.set A3 _ _ = A4
      obtain ⟨g4, e4, z4⟩ := set_facts l3 hA4
      have z3 := e3.size
      have z2 := e2.size
      exact hq A4 ((h2.ext e3 (by omega)).ext e4 (by omega)) ((((e1.mono fun _ _ z => z.elim).trans e2).trans2 e3 fun j hj z => by omega).trans2 e4 fun j hj z => by omega)

theorem U16_ok (A : AHeap) (p : Nat) (c : Cur) (h : CurAt A p c) (Q : Value → AHeap → Prop) (hq : ∀ A', CurAt A' p (c.go 2) → Ext (fun j => j = p) A A' → Q (.int .u16 (val (c.got 2) : Nat)) A') :
    wF T (.func (.func 87) #[] #[]) [.pointer (some ⟨p, 0, none⟩)] A Q := by
  refine wF_func (first := []) (captured := []) t87 ⟨rfl, by decide⟩ ?_
  dsimp only [c87]
  simp
  refine numu16_ok A p c h _ fun A1 h1 e1 => ?_
  simp
  exact hq A1 h1 e1

theorem numu32_c (A : AHeap) (s : List UInt8) (q : Nat) (old : Int) (hs : s.length ≤ 4) (g : A.get q = some (.cells [.int .u32 old] false 0)) (Q : Value → AHeap → Prop) (hq : ∀ A' v, A'.get q = some (.cells [.int .u32 (val s : Nat)] false 0) → Ext (fun j => j = q) A A' → Q v A') :
    wF T (.func (.func 149) ⟨[]⟩ ⟨[.pointer (some ⟨q, 0, none⟩)]⟩) [.string ⟨⟨s⟩⟩] A Q := by
  refine wF_func (first := []) (captured := [.pointer (some ⟨q, 0, none⟩)]) t149 ⟨rfl, by decide⟩ ?_
  dsimp only [c149]
  simp
  generalize hA1 : A.alloc _ = A1
  obtain ⟨g1, e1, z1⟩ := alloc_facts hA1
  have gq := e1.get g id
  have lq := AHeap.get_lt gq
  have lt0 := AHeap.get_lt g
  refine wC_loop_inv (NumI 21 s q A.size A1) ?_ s.length _ ⟨0, by omega, rfl, rfl, rfl, rfl, by simp, by simp [val], by simp, by simp, by simp⟩
  rintro m ⟨env, nn, dfs, B⟩ ⟨k, hk, rfl, s1, s2, s3, r1, r3, r7, r8, r9⟩
  simp only at s1 s2 s3 r1 r3 r7 r8 r9
  subst s1; subst s2; subst s3
  by_cases c : k < s.length
  · have hval : val (s.take k) < 256 ^ k := by
      have := val_lt (s.take k)
      rwa [List.length_take, Nat.min_eq_left hk] at this
    have hv : val (s.take k) < 72057594037927936 := Nat.lt_of_lt_of_le hval (Nat.le_trans (Nat.pow_le_pow_right (by decide) (show k ≤ 7 by omega)) (by decide))
    have hb : (s.map fun b => Value.int .u8 (b.toNat : Nat))[k]? = some (.int .u8 (s[k].toNat : Nat)) := by rw [List.getElem?_map, List.getElem?_eq_getElem c]; rfl
    have wb : IntKind.u64.wrap ((s[k].toNat : Nat) : Int) = (s[k].toNat : Nat) := IntWalk.u64_in _ (by have := s[k].toNat_lt; omega)
    have hs8 := shl8 (val (s.take k)) s[k] hv
    have w2 : IntKind.i64.wrap ((k : Int) + 1) = ((k + 1 : Nat) : Int) := IntWalk.i64_in _ (by omega)
    have hsn : val (s.take (k + 1)) = val (s.take k) * 256 + s[k].toNat := by rw [List.take_succ_eq_append_getElem c, val_snoc]
    simp [r1, r3, r7, r8, r9, c, g1, hb, wb, IntKind.bits]
    exact ⟨s.length - (k + 1), by omega, k + 1, by omega, rfl, rfl, rfl, rfl, by simp [r1], by simp [hsn]; exact hs8, by simp [r7], by simp [r8], by simpa using w2⟩
  · have hk' : k = s.length := by omega
    subst hk'
    rw [List.take_length] at r3
    have hval := val_lt s
    have hlt : val s < 256 ^ 4 := Nat.lt_of_lt_of_le hval (Nat.pow_le_pow_right (by decide) hs)
    have wv : IntKind.u32.wrap ((val s : Nat) : Int) = (val s : Nat) := IntWalk.u32_in _ (by omega)
    simp [r1, r3, r7, r8, r9, gq, lq, wv]
    generalize hA2 : AHeap.set B q _ = A2
    obtain ⟨g2, e2, z2⟩ := set_facts lq hA2
    exact hq A2 _ g2 ((e1.mono fun _ _ z => z.elim).trans e2)

theorem numu32_ok (A : AHeap) (p : Nat) (c : Cur) (h : CurAt A p c) (Q : Value → AHeap → Prop) (hq : ∀ A', CurAt A' p (c.go 4) → Ext (fun j => j = p) A A' → Q (.int .u32 (val (c.got 4) : Nat)) A') :
    wF T (.func (.func 136) #[] #[]) [.pointer (some ⟨p, 0, none⟩), .int .i64 4] A Q := by
  refine wF_func (first := []) (captured := []) t136 ⟨rfl, by decide⟩ ?_
  dsimp only [c136]
  have lp := AHeap.get_lt h.g
  simp
  generalize hA1 : A.alloc _ = A1
  obtain ⟨g1, e1, z1⟩ := alloc_facts hA1
  refine pass_ok A1 p c 4 _ (h.ext e1 id) (by decide) _ (fun hf A2 v h2 e2 => ?_) (fun hf A2 h2 e2 => ?_)
  · have g2 := e2.get g1 (by omega)
    have l2 := AHeap.get_lt g2
    have z2 := e2.size
    have : c.got 4 = [] := by simp [Cur.got, hf]
    simp [g2, l2]
    generalize hA3 : AHeap.set A2 _ _ = A3
    obtain ⟨g3, e3, z3⟩ := set_facts l2 hA3
    have hval0 : val (c.got 4) = 0 := by rw [this]; rfl
    rw [hval0] at hq
    exact hq A3 (h2.ext e3 (by omega)) (((e1.mono fun _ _ z => z.elim).trans e2).trans2 e3 fun j hj z => by omega)
  · have g2 := e2.get g1 (by omega)
    refine numu32_c A2 (c.got 4) A.size 0 ?_ g2 _ fun A3 v g3 e3 => ?_
    · simp [Cur.got, hf]; omega
    · intro w
      have l3 := AHeap.get_lt g3
      simp [g3, l3]
      generalize hA4 : AHeap.set A3 _ _ = A4
      obtain ⟨g4, e4, z4⟩ := set_facts l3 hA4
      have z3 := e3.size
      have z2 := e2.size
      exact hq A4 ((h2.ext e3 (by omega)).ext e4 (by omega)) ((((e1.mono fun _ _ z => z.elim).trans e2).trans2 e3 fun j hj z => by omega).trans2 e4 fun j hj z => by omega)

theorem U32_ok (A : AHeap) (p : Nat) (c : Cur) (h : CurAt A p c) (Q : Value → AHeap → Prop) (hq : ∀ A', CurAt A' p (c.go 4) → Ext (fun j => j = p) A A' → Q (.int .u32 (val (c.got 4) : Nat)) A') :
    wF T (.func (.func 94) #[] #[]) [.pointer (some ⟨p, 0, none⟩)] A Q := by
  refine wF_func (first := []) (captured := []) t94 ⟨rfl, by decide⟩ ?_
  dsimp only [c94]
  simp
  refine numu32_ok A p c h _ fun A1 h1 e1 => ?_
  simp
  exact hq A1 h1 e1

theorem numu64_c (A : AHeap) (s : List UInt8) (q : Nat) (old : Int) (hs : s.length ≤ 8) (g : A.get q = some (.cells [.int .u64 old] false 0)) (Q : Value → AHeap → Prop) (hq : ∀ A' v, A'.get q = some (.cells [.int .u64 (val s : Nat)] false 0) → Ext (fun j => j = q) A A' → Q v A') :
    wF T (.func (.func 146) ⟨[]⟩ ⟨[.pointer (some ⟨q, 0, none⟩)]⟩) [.string ⟨⟨s⟩⟩] A Q := by
  refine wF_func (first := []) (captured := [.pointer (some ⟨q, 0, none⟩)]) t146 ⟨rfl, by decide⟩ ?_
  dsimp only [c146]
  simp
  generalize hA1 : A.alloc _ = A1
  obtain ⟨g1, e1, z1⟩ := alloc_facts hA1
  have gq := e1.get g id
  have lq := AHeap.get_lt gq
  have lt0 := AHeap.get_lt g
  refine wC_loop_inv (NumI 20 s q A.size A1) ?_ s.length _ ⟨0, by omega, rfl, rfl, rfl, rfl, by simp, by simp [val], by simp, by simp, by simp⟩
  rintro m ⟨env, nn, dfs, B⟩ ⟨k, hk, rfl, s1, s2, s3, r1, r3, r7, r8, r9⟩
  simp only at s1 s2 s3 r1 r3 r7 r8 r9
  subst s1; subst s2; subst s3
  by_cases c : k < s.length
  · have hval : val (s.take k) < 256 ^ k := by
      have := val_lt (s.take k)
      rwa [List.length_take, Nat.min_eq_left hk] at this
    have hv : val (s.take k) < 72057594037927936 := Nat.lt_of_lt_of_le hval (Nat.le_trans (Nat.pow_le_pow_right (by decide) (show k ≤ 7 by omega)) (by decide))
    have hb : (s.map fun b => Value.int .u8 (b.toNat : Nat))[k]? = some (.int .u8 (s[k].toNat : Nat)) := by rw [List.getElem?_map, List.getElem?_eq_getElem c]; rfl
    have wb : IntKind.u64.wrap ((s[k].toNat : Nat) : Int) = (s[k].toNat : Nat) := IntWalk.u64_in _ (by have := s[k].toNat_lt; omega)
    have hs8 := shl8 (val (s.take k)) s[k] hv
    have w2 : IntKind.i64.wrap ((k : Int) + 1) = ((k + 1 : Nat) : Int) := IntWalk.i64_in _ (by omega)
    have hsn : val (s.take (k + 1)) = val (s.take k) * 256 + s[k].toNat := by rw [List.take_succ_eq_append_getElem c, val_snoc]
    simp [r1, r3, r7, r8, r9, c, g1, hb, wb, IntKind.bits]
    exact ⟨s.length - (k + 1), by omega, k + 1, by omega, rfl, rfl, rfl, rfl, by simp [r1], by simp [hsn]; exact hs8, by simp [r7], by simp [r8], by simpa using w2⟩
  · have hk' : k = s.length := by omega
    subst hk'
    rw [List.take_length] at r3
    have hval := val_lt s
    have hlt : val s < 256 ^ 8 := Nat.lt_of_lt_of_le hval (Nat.pow_le_pow_right (by decide) hs)
    have wv : IntKind.u64.wrap ((val s : Nat) : Int) = (val s : Nat) := IntWalk.u64_in _ (by omega)
    simp [r1, r3, r7, r8, r9, gq, lq, wv]
    generalize hA2 : AHeap.set B q _ = A2
    obtain ⟨g2, e2, z2⟩ := set_facts lq hA2
    exact hq A2 _ g2 ((e1.mono fun _ _ z => z.elim).trans e2)

theorem numu64_ok (A : AHeap) (p : Nat) (c : Cur) (h : CurAt A p c) (Q : Value → AHeap → Prop) (hq : ∀ A', CurAt A' p (c.go 8) → Ext (fun j => j = p) A A' → Q (.int .u64 (val (c.got 8) : Nat)) A') :
    wF T (.func (.func 132) #[] #[]) [.pointer (some ⟨p, 0, none⟩), .int .i64 8] A Q := by
  refine wF_func (first := []) (captured := []) t132 ⟨rfl, by decide⟩ ?_
  dsimp only [c132]
  have lp := AHeap.get_lt h.g
  simp
  generalize hA1 : A.alloc _ = A1
  obtain ⟨g1, e1, z1⟩ := alloc_facts hA1
  refine pass_ok A1 p c 8 _ (h.ext e1 id) (by decide) _ (fun hf A2 v h2 e2 => ?_) (fun hf A2 h2 e2 => ?_)
  · have g2 := e2.get g1 (by omega)
    have l2 := AHeap.get_lt g2
    have z2 := e2.size
    have : c.got 8 = [] := by simp [Cur.got, hf]
    simp [g2, l2]
    generalize hA3 : AHeap.set A2 _ _ = A3
    obtain ⟨g3, e3, z3⟩ := set_facts l2 hA3
    have hval0 : val (c.got 8) = 0 := by rw [this]; rfl
    rw [hval0] at hq
    exact hq A3 (h2.ext e3 (by omega)) (((e1.mono fun _ _ z => z.elim).trans e2).trans2 e3 fun j hj z => by omega)
  · have g2 := e2.get g1 (by omega)
    refine numu64_c A2 (c.got 8) A.size 0 ?_ g2 _ fun A3 v g3 e3 => ?_
    · simp [Cur.got, hf]; omega
    · intro w
      have l3 := AHeap.get_lt g3
      simp [g3, l3]
      generalize hA4 : AHeap.set A3 _ _ = A4
      obtain ⟨g4, e4, z4⟩ := set_facts l3 hA4
      have z3 := e3.size
      have z2 := e2.size
      exact hq A4 ((h2.ext e3 (by omega)).ext e4 (by omega)) ((((e1.mono fun _ _ z => z.elim).trans e2).trans2 e3 fun j hj z => by omega).trans2 e4 fun j hj z => by omega)

theorem U64_ok (A : AHeap) (p : Nat) (c : Cur) (h : CurAt A p c) (Q : Value → AHeap → Prop) (hq : ∀ A', CurAt A' p (c.go 8) → Ext (fun j => j = p) A A' → Q (.int .u64 (val (c.got 8) : Nat)) A') :
    wF T (.func (.func 85) #[] #[]) [.pointer (some ⟨p, 0, none⟩)] A Q := by
  refine wF_func (first := []) (captured := []) t85 ⟨rfl, by decide⟩ ?_
  dsimp only [c85]
  simp
  refine numu64_ok A p c h _ fun A1 h1 e1 => ?_
  simp
  exact hq A1 h1 e1

theorem Read_ok (A : AHeap) (s : List UInt8) (hs : s.length < 1000000) (Q : Value → AHeap → Prop) (hq : ∀ A' p, CurAt A' p ⟨s, 0, false⟩ → Ext NoB A A' → A.size ≤ p → Q (.pointer (some ⟨p, 0, none⟩)) A') :
    wF T (.func (.func 83) #[] #[]) [.string ⟨⟨s⟩⟩] A Q := by
  refine wF_func (first := []) (captured := []) t83 ⟨rfl, by decide⟩ ?_
  dsimp only [c83]
  simp
  generalize hA1 : A.alloc _ = A1
  obtain ⟨g1, e1, z1⟩ := alloc_facts hA1
  exact hq A1 A.size ⟨g1, Nat.zero_le _, hs⟩ e1 (Nat.le_refl _)

def Cur.end_ (c : Cur) : Int := if c.br then 4 else if c.at_ < c.s.length then 5 else 0
theorem End_ok (A : AHeap) (p : Nat) (c : Cur) (h : CurAt A p c) (Q : Value → AHeap → Prop) (hq : Q (.int .i64 c.end_) A) :
    wF T (.func (.func 100) #[] #[]) [.pointer (some ⟨p, 0, none⟩)] A Q := by
  refine wF_func (first := []) (captured := []) t100 ⟨rfl, by decide⟩ ?_
  dsimp only [c100]
  obtain ⟨s, i, br⟩ := c
  have g := h.g
  simp only [Cur.cells] at g
  cases br with
  | true =>
    simp [g]
    simpa [Cur.end_] using hq
  | false =>
    by_cases c : i < s.length
    · simp [g, c]
      simpa [Cur.end_, c] using hq
    · simp [g, c]
      simpa [Cur.end_, c] using hq
def Cur.left (c : Cur) : Nat := if c.br then 0 else c.s.length - c.at_
theorem Left_ok (A : AHeap) (p : Nat) (c : Cur) (h : CurAt A p c) (Q : Value → AHeap → Prop) (hq : Q (.int .i64 (c.left : Nat)) A) :
    wF T (.func (.func 102) #[] #[]) [.pointer (some ⟨p, 0, none⟩)] A Q := by
  refine wF_func (first := []) (captured := []) t102 ⟨rfl, by decide⟩ ?_
  dsimp only [c102]
  obtain ⟨s, i, br⟩ := c
  have g := h.g
  have hle := h.le
  have hbig := h.big
  simp only at hle hbig
  simp only [Cur.cells] at g
  cases br with
  | true =>
    simp [g]
    simpa [Cur.left] using hq
  | false =>
    have w1 : IntKind.i64.wrap ((s.length : Int) - (i : Int)) = ((s.length - i : Nat) : Int) := by rw [IntWalk.i64_in _ (by omega)]; omega
    simp [g, w1]
    simpa [Cur.left] using hq
theorem takec_ok (A : AHeap) (s : List UInt8) (q : Nat) (old : Value) (g : A.get q = some (.cells [old] false 0)) (Q : Value → AHeap → Prop) (hq : ∀ A' v, A'.get q = some (.cells [.string ⟨⟨s⟩⟩] false 0) → Ext (fun j => j = q) A A' → Q v A') :
    wF T (.func (.func 138) ⟨[]⟩ ⟨[.pointer (some ⟨q, 0, none⟩)]⟩) [.string ⟨⟨s⟩⟩] A Q := by
  refine wF_func (first := []) (captured := [.pointer (some ⟨q, 0, none⟩)]) t138 ⟨rfl, by decide⟩ ?_
  dsimp only [c138]
  have l := AHeap.get_lt g
  simp [g, l]
  generalize hA2 : AHeap.set A q _ = A2
  obtain ⟨g2, e2, z2⟩ := set_facts l hA2
  exact hq A2 _ g2 e2
theorem Take_ok (A : AHeap) (p : Nat) (c : Cur) (n : Nat) (h : CurAt A p c) (hn : n < 1000000) (Q : Value → AHeap → Prop) (hq : ∀ A', CurAt A' p (c.go n) → Ext (fun j => j = p) A A' → Q (.string ⟨⟨c.got n⟩⟩) A') :
    wF T (.func (.func 95) #[] #[]) [.pointer (some ⟨p, 0, none⟩), .int .i64 (n : Nat)] A Q := by
  refine wF_func (first := []) (captured := []) t95 ⟨rfl, by decide⟩ ?_
  dsimp only [c95]
  have lp := AHeap.get_lt h.g
  simp
  generalize hA1 : A.alloc _ = A1
  obtain ⟨g1, e1, z1⟩ := alloc_facts hA1
  refine pass_ok A1 p c n _ (h.ext e1 id) hn _ (fun hf A2 v h2 e2 => ?_) (fun hf A2 h2 e2 => ?_)
  · have g2 := e2.get g1 (by omega)
    have l2 := AHeap.get_lt g2
    have z2 := e2.size
    have : c.got n = [] := by simp [Cur.got, hf]
    simp [g2, l2]
    generalize hA3 : AHeap.set A2 _ _ = A3
    obtain ⟨g3, e3, z3⟩ := set_facts l2 hA3
    rw [this] at hq
    exact hq A3 (h2.ext e3 (by omega)) (((e1.mono fun _ _ z => z.elim).trans e2).trans2 e3 fun j hj z => by omega)
  · have g2 := e2.get g1 (by omega)
    refine takec_ok A2 (c.got n) A.size _ g2 _ fun A3 v g3 e3 => ?_
    intro w
    have l3 := AHeap.get_lt g3
    simp [g3, l3]
    generalize hA4 : AHeap.set A3 _ _ = A4
    obtain ⟨g4, e4, z4⟩ := set_facts l3 hA4
    have z3 := e3.size
    have z2 := e2.size
    exact hq A4 ((h2.ext e3 (by omega)).ext e4 (by omega)) ((((e1.mono fun _ _ z => z.elim).trans e2).trans2 e3 fun j hj z => by omega).trans2 e4 fun j hj z => by omega)
end Go.Proofs.YtigknpfjhegkgaaGreat
