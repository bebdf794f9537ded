/- Words for areas. -/
import Derived.Test.YtigknpfjhegkgaaGreatKa
import Derived.Test.YtigknpfjhegkgaaGreatKh
import Derived.KernelRfl
namespace Go.Proofs.YtigknpfjhegkgaaGreat.Ar
open Go Go.AS
set_option maxRecDepth 100000
set_option linter.unusedSimpArgs false
set_option linter.unusedVariables false
attribute [local irreducible] Trie.set Trie.get Env.rd
attribute [local simp ↓] wV_b2s
attribute [local simp] Nat.add_assoc wD_cons'' wD_nil' wC_seq wC_ops wC_opsD_nil wC_cond wC_skip wC_ret wC_exit wC_block wO_cons' wO_nil wantedA wV_eq lop qop ev wL_some wL_none wPut envOf rd_set rd_leaf eqA thenC blockC wB_true wB_false endF unwindA resultsA resA tupleA rdCell rdCells wrCells cl fillP AS.lay rep binA unA get_set' AHeap.get_alloc oneCell

theorem wrap_nat (n : Nat) (h : n < 9000000000000000000) : IntKind.i64.wrap (n : Int) = n := IntWalk.i64_in _ (by omega)
theorem wrap_succ (n : Nat) (h : n < 9000000000000000000) : IntKind.i64.wrap ((n : Int) + 1) = ((n + 1 : Nat) : Int) := by
  rw [show ((n : Int) + 1) = ((n + 1 : Nat) : Int) by omega]; exact IntWalk.i64_in _ (by omega)

theorem size_mk (l : List UInt8) : (⟨⟨l⟩⟩ : ByteArray).size = l.length := rfl

theorem sliceS_to (s : ByteArray) (k : IntKind) (j : Int) (h0 : 0 ≤ j) (h : j ≤ s.size) : sliceSA (.string s) none (some (.int k j)) = some (.string ⟨⟨s.data.toList.take j.toNat⟩⟩) := by
  have hb : bnd (.int k j) s.size = some j.toNat := by
    simp only [bnd]; rw [if_pos ⟨h0, by omega⟩]
  unfold sliceSA
  delta bndsA
  simp [hb]

theorem take2 {bs : List Value} {k : Nat} {a b : Value} (h : (bs.drop k).take 2 = [a, b]) : bs[k]? = some a ∧ bs[k + 1]? = some b := by
  have f : ∀ i, i < 2 → bs[k + i]? = [a, b][i]? := fun i hi => by
    rw [← h, List.getElem?_take_of_lt hi, List.getElem?_drop]
  exact ⟨f 0 (by decide), f 1 (by decide)⟩

/-- An item. -/
structure It where
  kind : Int
  body : ByteArray
  deriving DecidableEq

def icells (l : List It) : List Value := l.flatMap fun x => [.int .i64 x.kind, .string x.body]

theorem icells_len (l : List It) : (icells l).length = l.length * 2 := by
  induction l with
  | nil => rfl
  | cons p l ih => simp only [icells, List.flatMap_cons, List.length_append, List.length_cons, List.length_nil] at ih ⊢; omega
theorem icells_app (l : List It) (x : It) : icells (l ++ [x]) = icells l ++ [.int .i64 x.kind, .string x.body] := by simp [icells]
theorem icells_at (l : List It) (i : Nat) (hi : i < l.length) : ((icells l).drop (i * 2)).take 2 = [.int .i64 l[i].kind, .string l[i].body] := by
  induction l generalizing i with
  | nil => simp at hi
  | cons p l ih =>
    cases i with
    | zero => simp [icells]
    | succ i =>
      have := ih i (by simpa using hi)
      rw [show (i + 1) * 2 = 2 + i * 2 by omega, ← List.drop_drop]
      simpa [icells] using this
theorem icells_one (l : List It) : (icells l).all oneCell = true := by
  induction l with
  | nil => rfl
  | cons p l ih => simp only [icells, List.flatMap_cons, List.all_append] at ih ⊢; rw [ih]; rfl
theorem icells_take (l : List It) (k : Nat) : (icells l).take (k * 2) = icells (l.take k) := by
  induction l generalizing k with
  | nil => simp [icells]
  | cons p l ih =>
    cases k with
    | zero => simp [icells]
    | succ k =>
      have := ih k
      rw [show (k + 1) * 2 = k * 2 + 2 by omega]
      simp only [icells, List.flatMap_cons, List.take_succ_cons, List.cons_append, List.nil_append] at this ⊢
      rw [this]

/-- Bytes at a slice's end. -/
theorem appB (A A1 : AHeap) (bv x : Value) (l t : List UInt8) (h : SliceAt A 1 bv l.length (bcells l)) (e : Ext NoB A A1) (hx : lenA x = some t.length) (hf : firstA A1 1 t.length x = some (bcells t)) (hn : l.length + t.length < 1000000) :
    ∃ a' c' A', appA A1 1 1 bv x = some (.slice a' (l.length + t.length) c', A') ∧ SliceAt A' 1 (.slice a' (l.length + t.length) c') (l ++ t).length (bcells (l ++ t)) ∧ Ext (Own bv) A A' ∧ ∀ j, Own (.slice a' (l.length + t.length) c') j → Own bv j ∨ A.size ≤ j := by
  obtain ⟨v', A', k1, k2, k3, k4⟩ := (h.ext e fun _ _ q => q).append (x := x) (m := t.length) (bytes := 1) (new := bcells t) (by decide) hx hf (by simp [bcells, byt, oneCell]) (by simp [bcells, byt]) (by omega) (by decide) (fun _ => rfl)
  obtain ⟨a', c', hv⟩ := k2.read.val
  subst hv
  refine ⟨a', c', A', k1, by simpa [bcells, byt] using k2, (e.mono fun _ _ q => q.elim).trans k3, fun j hj => ?_⟩
  rcases k4 j hj with q | q
  · exact .inl q
  · exact .inr (Nat.le_trans e.size q)

/-- One item at a slice's end. -/
theorem appI (A A1 : AHeap) (v x : Value) (l : List It) (t : It) (h : SliceAt A 2 v l.length (icells l)) (e : Ext NoB A A1) (hx : lenA x = some 1) (hf : firstA A1 2 1 x = some [.int .i64 t.kind, .string t.body]) (hn : l.length < 1000000) :
    ∃ a' c' A', appA A1 2 24 v x = some (.slice a' (l.length + 1) c', A') ∧ SliceAt A' 2 (.slice a' (l.length + 1) c') (l ++ [t]).length (icells (l ++ [t])) ∧ Ext (Own v) A A' ∧ ∀ j, Own (.slice a' (l.length + 1) c') j → Own v j ∨ A.size ≤ j := by
  obtain ⟨v', A', k1, k2, k3, k4⟩ := (h.ext e fun _ _ q => q).append (x := x) (m := 1) (bytes := 24) (new := [.int .i64 t.kind, .string t.body]) (by decide) hx hf (by simp [oneCell]) (by simp) (by omega) (by decide) (by
    intro hs; cases x <;> first | (cases hs; done) | (exfalso; simp only [firstA, Option.some.injEq] at hf; have := congrArg List.length hf; simp at this; omega))
  obtain ⟨a', c', hv⟩ := k2.read.val
  subst hv
  refine ⟨a', c', A', k1, by rw [icells_app]; simpa using k2, (e.mono fun _ _ q => q.elim).trans k3, fun j hj => ?_⟩
  rcases k4 j hj with q | q
  · exact .inl q
  · exact .inr (Nat.le_trans e.size q)

/-! ## What items are laid as -/
def It.ok (x : It) : Prop := 2 ≤ x.kind ∧ x.kind ≤ 255 ∧ x.body.size ≤ 253
instance (x : It) : Decidable x.ok := by unfold It.ok; infer_instance
def It.raw (x : It) : List UInt8 := UInt8.ofNat x.kind.toNat :: UInt8.ofNat (2 + x.body.size) :: x.body.data.toList
def raw (l : List It) : List UInt8 := l.flatMap It.raw
def pad (l : List UInt8) : List UInt8 := l ++ List.replicate ((4 - l.length % 4) % 4) 0
def layR (l : List It) : ByteArray × Int := if l.all (fun x => decide x.ok) then (if (raw l).length ≤ 40 then (⟨⟨pad (raw l)⟩⟩, 0) else (⟨⟨[]⟩⟩, 6)) else (⟨⟨[]⟩⟩, 2)

theorem It.raw_len (x : It) : x.raw.length = 2 + x.body.size := by
  show x.body.data.toList.length + 1 + 1 = _
  have : x.body.data.toList.length = x.body.size := rfl
  omega
theorem raw_app (l : List It) (x : It) : raw (l ++ [x]) = raw l ++ x.raw := by simp [raw]
theorem pad_done (l : List UInt8) (h : l.length % 4 = 0) : pad l = l := by simp [pad, h]
theorem pad_step (l : List UInt8) (h : ¬ l.length % 4 = 0) : pad (l ++ [0]) = pad l := by
  unfold pad
  rw [List.length_append, List.append_assoc]
  congr 1
  simp only [List.length_cons, List.length_nil, Nat.zero_add]
  have : (4 - l.length % 4) % 4 = (4 - (l.length + 1) % 4) % 4 + 1 := by omega
  rw [this, List.replicate_succ]; rfl

theorem rem4 (n : Nat) : ((n : Int).tmod 4) = ((n % 4 : Nat) : Int) := IntWalk.up_tmod (y := 4) rfl rfl
end Go.Proofs.YtigknpfjhegkgaaGreat.Ar
