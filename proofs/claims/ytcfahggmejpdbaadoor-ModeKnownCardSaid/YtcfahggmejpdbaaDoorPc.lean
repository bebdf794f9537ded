/- once: what holds of turns that may come. -/
import Derived.Test.YtcfahggmejpdbaaDoorPa
import Derived.KernelRfl
namespace Go.Proofs.YtcfahggmejpdbaaDoor
open Go Go.AS
set_option maxRecDepth 100000
set_option linter.unusedSimpArgs false
set_option linter.unusedVariables false
attribute [local irreducible] Trie.set Trie.get Env.rd
attribute [local simp] Nat.add_assoc wD_cons'' wD_nil' wC_seq wC_ops wC_opsD_nil wC_cond wC_skip wC_ret wC_exit wC_block wO_cons' wO_nil wantedA wV_eq lop qop ev wL_some wL_none wPut envOf rd_set rd_leaf eqA thenC blockC wB_true wB_false endF unwindA resultsA resA tupleA rdCell rdCells wrCells cl fillP lay rep binA unA get_set' AHeap.get_alloc oneCell beqd bned idxA

theorem fallsN_hit (l : List Tn) (t : Tn) (hn : fallsN l = none) (hf : fallenB t.c = true) : fallsN (l ++ [t]) = some l.length := by
  have h := fallsN_at (l ++ [t]) l.length (by simp) (by simpa using hn) (by simpa using hf)
  exact h
theorem fallsN_more (l : List Tn) (t : Tn) {k : Nat} (hn : fallsN l = some k) : fallsN (l ++ [t]) = some k := by
  induction l generalizing k with
  | nil => cases hn
  | cons u l ih =>
    simp only [fallsN] at hn
    simp only [List.cons_append, fallsN]
    split at hn
    · rename_i hu; rw [if_pos hu]; exact hn
    · rename_i hu
      rw [if_neg hu]
      simp only [Option.map_eq_some_iff] at hn ⊢
      obtain ⟨a, h1, h2⟩ := hn
      exact ⟨a, ih h1, h2⟩
structure FInv (s : MS) (l : List Tn) (falls joined down first : Int) : Prop where
  early : s.md = 0 ∨ s.md = 1 ∨ s.md = 2 → down = 0 ∧ ∀ q, 0 ≤ q → q < 4 → s.up q = false
  so1 : s.so = true → joined = 0 ∧ ∀ q, 0 < q → q < 4 → s.up q = false
  so2 : s.so = true → s.up 0 = true → down = 0
  nn : 0 ≤ joined ∧ joined ≤ l.length ∧ 0 ≤ down ∧ down ≤ l.length
  fl : (falls = 0 ∧ first = -1 ∧ fallsN l = none) ∨ (falls = 1 ∧ (∃ k : Nat, first = k ∧ fallsN l = some k) ∧ (s.md = 4 ∨ s.md = 5 ∨ s.md = 6))
theorem FInv.begin (e : Int) : FInv (ms0 e) [] 0 0 0 (-1) := by
  have h : ∀ q : Int, (ms0 e).up q = false := fun q => by
    unfold MS.up at4 ms0
    (split <;> try split) <;> (try split) <;> rfl
  exact ⟨fun _ => ⟨rfl, fun q _ _ => h q⟩, fun _ => ⟨rfl, fun q _ _ => h q⟩, fun _ _ => rfl, by simp, .inl ⟨rfl, rfl, rfl⟩⟩
theorem fallen_cases {c : Int} (h : fallenB c = true) : c = 2 ∨ c = 4 ∨ c = 6 ∨ c = 10 ∨ c = 11 ∨ c = 12 ∨ c = 13 := by
  simp [fallenB] at h
  omega
theorem fallen_no {c : Int} (h : fallenB c = false) : c ≠ 2 ∧ c ≠ 4 ∧ c ≠ 6 ∧ c ≠ 10 ∧ c ≠ 11 ∧ c ≠ 12 ∧ c ≠ 13 := by
  simp [fallenB] at h
  omega
/-- A turn that falls back. -/
theorem FInv.fall {s : MS} {l : List Tn} {falls joined down first : Int} {t : Tn} (I : FInv s l falls joined down first) (h : okT s t = true) (hf : fallenB t.c = true) :
    FInv (nx s t) (l ++ [t]) 1 joined down l.length ∧ falls = 0 ∧ t.m = 4 ∧ (10 ≤ t.c → joined = 0 ∧ down = 0) := by
  have hcs := fallen_cases hf
  obtain ⟨_, tm, hm⟩ := (okT_in s t).1 h
  have th : thenM t.c = 4 := by rcases hcs with q | q | q | q | q | q | q <;> rw [q] <;> rfl
  have md3 : s.md = 0 ∨ s.md = 1 ∨ s.md = 2 ∨ s.md = 3 := by
    rcases hcs with q | q | q | q | q | q | q <;> rw [q] at hm <;> simp [mayM, solo] at hm <;> omega
  have f0 : falls = 0 ∧ first = -1 ∧ fallsN l = none := by
    rcases I.fl with q | q
    · exact q
    · have := q.2.2; omega
  have sol : 10 ≤ t.c → joined = 0 ∧ down = 0 := fun h10 => by
    have hs : s.so = true ∧ s.u0 = true := by
      rcases hcs with q | q | q | q | q | q | q <;> rw [q] at hm h10 <;> simp [mayM, solo] at hm <;> first | exact hm.1 | (exfalso; omega)
    have hu : s.up 0 = true := hs.2
    exact ⟨(I.so1 hs.1).1, I.so2 hs.1 hu⟩
  refine ⟨?_, f0.1, by rw [tm, th], sol⟩
  rw [nx_other h (by omega) (by omega) (by omega) (by omega), th]
  refine ⟨fun q => by simp at q, I.so1, I.so2, ?_, .inr ⟨rfl, ⟨l.length, rfl, fallsN_hit l t f0.2.2 hf⟩, .inl rfl⟩⟩
  have := I.nn
  simp; omega
theorem FInv.first {s : MS} {l : List Tn} {falls joined down first : Int} (I : FInv s l falls joined down first) (h : s.md = 3) : falls = 0 ∧ first = -1 ∧ fallsN l = none := by
  rcases I.fl with q | q
  · exact q
  · have := q.2.2; omega
/-- A path is begun, or up. -/
theorem FInv.join {s : MS} {l : List Tn} {falls joined down first : Int} {t : Tn} (I : FInv s l falls joined down first) (h : okT s t = true) (hc : t.c = 7 ∨ t.c = 8) :
    FInv (nx s t) (l ++ [t]) falls (joined + 1) down first ∧ first = -1 := by
  have m3 : s.md = 3 := by
    rcases hc with q | q
    · exact (may_7 h q).1
    · exact (may_8 h q).1
  have f0 := I.first m3
  have nf : fallenB t.c = false := by rcases hc with q | q <;> rw [q] <;> decide
  refine ⟨?_, f0.2.1⟩
  have hnn : 0 ≤ joined + 1 ∧ joined + 1 ≤ ((l ++ [t]).length : Nat) ∧ 0 ≤ down ∧ down ≤ ((l ++ [t]).length : Nat) := by
    have := I.nn
    simp; omega
  rcases hc with q | q
  · rw [nx_7 h q]
    have hf := (set_flat ({ s with md := 3 } : MS) t.p true).1
    refine ⟨fun hm => ?_, (fun hs => by cases hs), (fun hs => by cases hs), hnn, .inl ⟨f0.1, f0.2.1, fallsN_snoc l t f0.2.2 nf⟩⟩
    have hm' : (MS.setPre ({ s with md := 3 } : MS) t.p true).md = 0 ∨ (MS.setPre ({ s with md := 3 } : MS) t.p true).md = 1 ∨ (MS.setPre ({ s with md := 3 } : MS) t.p true).md = 2 := hm
    rw [hf.2.1] at hm'; simp at hm'
  · rw [nx_8 h q]
    have hf := (set_flat ({ s with md := 3 } : MS) t.p true).2.1
    refine ⟨fun hm => ?_, (fun hs => by cases hs), (fun hs => by cases hs), hnn, .inl ⟨f0.1, f0.2.1, fallsN_snoc l t f0.2.2 nf⟩⟩
    have hm' : (MS.setUp ({ s with md := 3 } : MS) t.p true).md = 0 ∨ (MS.setUp ({ s with md := 3 } : MS) t.p true).md = 1 ∨ (MS.setUp ({ s with md := 3 } : MS) t.p true).md = 2 := hm
    rw [hf.2.1] at hm'; simp at hm'
/-- A path goes down. -/
theorem FInv.go {s : MS} {l : List Tn} {falls joined down first : Int} {t : Tn} (I : FInv s l falls joined down first) (h : okT s t = true) (hc : t.c = 9) :
    FInv (nx s t) (l ++ [t]) falls joined (down + 1) first ∧ first = -1 := by
  obtain ⟨m3, hu⟩ := may_9 h hc
  have p4 := ((okT_in s t).1 h).1.2.2
  have p0 := ((okT_in s t).1 h).1.2.1
  have f0 := I.first m3
  have nf : fallenB t.c = false := by rw [hc]; decide
  refine ⟨?_, f0.2.1⟩
  rw [nx_9 h hc]
  have hs1 := fun q k0 k4 => at4_in (p := t.p) p0 p4 ({ s with md := 3 } : MS) q false k0 k4
  have hset := fun q k0 k4 => at4_in (p := t.p) p0 p4 (({ s with md := 3 } : MS).setUp t.p false) q true k0 k4
  have hf1 := (set_flat ({ s with md := 3 } : MS) t.p false).2.1
  have hf := (set_flat (({ s with md := 3 } : MS).setUp t.p false) t.p true).2.2
  have hup : ∀ q, 0 ≤ q → q < 4 → ((({ s with md := 3 } : MS).setUp t.p false).setGone t.p true).up q = if q = t.p then false else s.up q := fun q k0 k4 => by
    rw [(hset q k0 k4).2.2.2.2.2.2.2.2, (hs1 q k0 k4).2.1]; rfl
  have hso : ((({ s with md := 3 } : MS).setUp t.p false).setGone t.p true).so = s.so := by rw [hf.2.2, hf1.2.2]
  refine ⟨fun hm => ?_, fun hs => ?_, fun hs hu0 => ?_, ?_, .inl ⟨f0.1, f0.2.1, fallsN_snoc l t f0.2.2 nf⟩⟩
  · rw [hf.2.1, hf1.2.1] at hm; simp at hm
  · rw [hso] at hs
    refine ⟨(I.so1 hs).1, fun q k0 k4 => ?_⟩
    rw [hup q (by omega) k4]
    split
    · rfl
    · exact (I.so1 hs).2 q k0 k4
  · rw [hso] at hs
    rw [hup 0 (by decide) (by decide)] at hu0
    split at hu0
    · cases hu0
    · rename_i hp
      have := (I.so1 hs).2 t.p (by omega) p4
      rw [this] at hu; cases hu
  · have := I.nn
    simp; omega
/-- Another turn. -/
theorem FInv.other {s : MS} {l : List Tn} {falls joined down first : Int} {t : Tn} (I : FInv s l falls joined down first) (h : okT s t = true) (hf : fallenB t.c = false) (h7 : t.c ≠ 7) (h8 : t.c ≠ 8) (h9 : t.c ≠ 9) :
    FInv (nx s t) (l ++ [t]) falls joined down first ∧ (t.c = 16 → first = -1) := by
  have hfast : t.c = 16 → first = -1 := fun q => by
    have := ((okT_in s t).1 h).2.2
    rw [q] at this
    exact (I.first (by simpa [mayM] using this)).2.1
  refine ⟨?_, hfast⟩
  have hnn : 0 ≤ joined ∧ joined ≤ ((l ++ [t]).length : Nat) ∧ 0 ≤ down ∧ down ≤ ((l ++ [t]).length : Nat) := by
    have := I.nn
    simp; omega
  have hfl : ∀ m : Int, (s.md = 4 ∨ s.md = 5 ∨ s.md = 6 → m = 4 ∨ m = 5 ∨ m = 6) → (falls = 0 ∧ first = -1 ∧ fallsN (l ++ [t]) = none) ∨ (falls = 1 ∧ (∃ k : Nat, first = k ∧ fallsN (l ++ [t]) = some k) ∧ (m = 4 ∨ m = 5 ∨ m = 6)) := by
    intro m hm
    rcases I.fl with ⟨a, b, c⟩ | ⟨a, ⟨k, b, c⟩, d⟩
    · exact .inl ⟨a, b, fallsN_snoc l t c hf⟩
    · exact .inr ⟨a, ⟨k, b, fallsN_more l t c⟩, hm d⟩
  by_cases h5 : t.c = 5
  · obtain ⟨m2, p0⟩ := may_5 h h5
    have he := I.early (.inr (.inr m2))
    rw [nx_5 h h5, p0]
    have hset := fun q k0 k4 => at4_in (p := 0) (by decide) (by decide) ({ s with md := 3 } : MS) q true k0 k4
    have hfm := (set_flat ({ s with md := 3 } : MS) 0 true).2.1
    refine ⟨fun hm => by rw [hfm.2.1] at hm; simp at hm, fun hs => ?_, fun _ _ => he.1, hnn, ?_⟩
    · rw [hfm.2.2] at hs
      refine ⟨(I.so1 hs).1, fun q k0 k4 => ?_⟩
      rw [(hset q (by omega) k4).2.1, if_neg (by omega)]
      exact (I.so1 hs).2 q k0 k4
    · rw [hfm.2.1]
      exact hfl 3 (fun q => by omega)
  · rw [nx_other h h5 h7 h8 h9]
    refine ⟨fun hm => ?_, I.so1, I.so2, hnn, hfl _ fun q => ?_⟩
    · have hm' : thenM t.c = 0 ∨ thenM t.c = 1 ∨ thenM t.c = 2 := hm
      rcases md_forth h h5 h7 h8 h9 with q | q
      · exact I.early q
      · omega
    · obtain ⟨⟨⟨c0, c1⟩, _⟩, _, hm⟩ := (okT_in s t).1 h
      have hn := fallen_no hf
      have hc : t.c = 0 ∨ t.c = 1 ∨ t.c = 3 ∨ t.c = 14 ∨ t.c = 15 ∨ t.c = 16 ∨ t.c = 17 := by omega
      rcases hc with hc | hc | hc | hc | hc | hc | hc <;> rw [hc] at hm ⊢ <;> simp [mayM, thenM] at hm ⊢ <;> omega
end Go.Proofs.YtcfahggmejpdbaaDoor
