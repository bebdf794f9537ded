/- The rows' leaf functions: which turns may come. -/
import Derived.Test.YtcfahggmejpdbaaDoorSb
import Derived.KernelRfl
namespace Go.Proofs.YtcfahggmejpdbaaDoor
open Go Go.AS
set_option maxRecDepth 100000
set_option linter.unusedSimpArgs false
set_option linter.unusedVariables false
attribute [local irreducible] Trie.set Trie.get Env.rd
attribute [local simp] Nat.add_assoc wD_cons'' wD_nil' wC_seq wC_ops wC_opsD_nil wC_cond wC_skip wC_ret wC_exit wC_block wO_cons' wO_nil wantedA wV_eq lop qop ev wL_some wL_none wPut envOf rd_set rd_leaf eqA thenC blockC wB_true wB_false endF unwindA resultsA resA tupleA rdCell rdCells wrCells cl fillP lay rep binA unA get_set' AHeap.get_alloc oneCell beqd bned idxA

attribute [local simp] MS.len MS.one MS.take MS.at0 MS.at1 MS.at2 MS.at7 MS.putEn MS.putMd MS.putSo MS.putU0 Tn.len Tn.one Tn.take Tn.at0 Tn.at1 Tn.at2
theorem vb_self (s : MS) : vbeq.vbeqs 3 s.cells s.cells = true := by simp [MS.cells, vbeq, vbeq.vbeqs]
theorem fn_intro {f : Nat} {F : AFunc} {A : AHeap} {g : MS → Int → Bool} (hT : T f = some F) (hn : F.nargs = 2 ∧ 2 ≤ F.n) (h : ∀ (A2 : AHeap) (s : MS) (p : Int) (Q : Value → AHeap → Prop), 0 ≤ p → p < 4 → (∀ A3, Ext NoB A2 A3 → Q (.bool (g s p)) A3) → wC T f none F.body { env := envOf 0 .leaf [.agg ⟨s.cells⟩, .int .i64 p], n := F.n, dfs := [], A := A2 } (endF F.results Q)) : IsFn (.func (.func f) #[] #[]) A g := by
  intro A2 s p Q _ h0 h4 hq
  exact wF_func (first := []) (captured := []) hT ⟨hn.1.symm, by rw [hn.1]; exact hn.2⟩ (h A2 s p Q h0 h4 hq)

theorem sole_fn (A : AHeap) : IsFn (.func (.func 36) #[] #[]) A solo := by
  refine fn_intro t36 ⟨rfl, by decide⟩ fun A2 s p Q h0 h4 hq => ?_
  dsimp only [c36]
  simp
  refine wC_opsD_chk ?_
  unfold solo at hq
  cases h1 : s.so with
  | false =>
    simp [h1]
    refine wE_intro ?_ ?_
    · simp only [List.all_cons, List.all_nil, chkOk, List.nil_append, List.cons_append, List.getElem?_cons_succ, List.getElem?_cons_zero]
      simp [Bx]
    · simp
      have := hq _ (Ext.alloc (A := A2) (x := .cells s.cells false 0))
      simpa [h1] using this
  | true =>
    cases h2 : s.u0 with
    | false =>
      simp [h1, h2]
      refine wE_intro ?_ ?_
      · simp only [List.all_cons, List.all_nil, chkOk, List.nil_append, List.cons_append, List.getElem?_cons_succ, List.getElem?_cons_zero]
        simp [Bx]
      · simp
        have := hq _ (Ext.alloc (A := A2) (x := .cells s.cells false 0))
        simpa [h1, h2] using this
    | true =>
      simp [h1, h2]
      refine in_ok _ _ _ _ ?_
      simp
      refine (in1_fn (d := A2.size + 1) (l := [3]) (by simp) ⟨0, by simp; rfl⟩ (by decide)) _ s p _ Ext.refl h0 h4 fun A3 e3 => ?_
      have g0 := e3.get (b := A2.size) (x := .cells s.cells false 0) (by simp) id
      simp
      refine wE_intro ?_ ?_
      · simp only [List.all_cons, List.all_nil, chkOk, List.nil_append, List.cons_append, List.getElem?_cons_succ, List.getElem?_cons_zero]
        simp [Bx, vbeq, vb_self]
      · simp
        have := hq A3 ((Ext.alloc.trans (Ext.alloc.trans Ext.alloc)).trans e3)
        simpa [h1, h2] using this

theorem idle_fn {A : AHeap} {b : Nat} {x : Int} (hb : A.get b = some (.cells [.int .i64 x] false 0)) : IsFn (.func (.func 54) #[] #[.pointer (some ⟨b, 0, none⟩)]) A (fun s p => s.en == x && (s.md == 0 && p == 0)) := by
  intro A2 s p Q e h0 h4 hq
  have b2 := e.get hb id
  have bl := AHeap.get_lt b2
  refine wF_func (first := []) (captured := [.pointer (some ⟨b, 0, none⟩)]) t54 ⟨rfl, by decide⟩ ?_
  dsimp only [c54]
  simp
  refine wC_opsD_chk ?_
  by_cases h1 : s.en = x
  · simp [h1, show b ≠ A2.size by omega, b2]
    refine in_ok _ _ _ _ ?_
    simp
    refine (in1_fn (d := A2.size + 1) (l := [0]) (by simp) ⟨0, by simp; rfl⟩ (by decide)) _ s p _ Ext.refl h0 h4 fun A3 e3 => ?_
    have g0 := e3.get (b := A2.size) (x := .cells s.cells false 0) (by simp) id
    simp
    refine wE_intro ?_ ?_
    · simp only [List.all_cons, List.all_nil, chkOk, List.nil_append, List.cons_append, List.getElem?_cons_succ, List.getElem?_cons_zero]
      simp [Bx, vbeq, vb_self]
    · simp
      have := hq A3 ((Ext.alloc.trans (Ext.alloc.trans Ext.alloc)).trans e3)
      simpa [h1] using this
  · simp [h1, show b ≠ A2.size by omega, b2]
    refine wE_intro ?_ ?_
    · simp only [List.all_cons, List.all_nil, chkOk, List.nil_append, List.cons_append, List.getElem?_cons_succ, List.getElem?_cons_zero]
      simp [Bx]
    · simp
      have := hq _ (Ext.alloc (A := A2) (x := .cells s.cells false 0))
      simpa [h1] using this

theorem fresh_ok (A : AHeap) (s : MS) (p : Int) (Q : Value → AHeap → Prop) (h0 : 0 ≤ p) (h4 : p < 4) (hq : ∀ A3, Ext NoB A A3 → Q (.bool (fresh s p)) A3) : wF T (.func (.func 41) #[] #[]) [.agg ⟨s.cells⟩, .int .i64 p] A Q := by
  refine wF_func (first := []) (captured := []) t41 ⟨rfl, by decide⟩ ?_
  dsimp only [c41]
  have hq' : Q (.bool (fresh s p)) (A.alloc (.cells s.cells false 0)) := hq _ Ext.alloc
  clear hq
  unfold fresh at hq'
  by_cases h1 : s.md = 3
  · by_cases h2 : 0 < p
    · cases h3 : s.up p with
      | true => simp [h1, h2, h0, h4, h3, MS.atUp]; simpa [h1, h2, h3] using hq'
      | false => cases h5 : s.gone p <;> (simp [h1, h2, h0, h4, h3, h5, MS.atUp, MS.atGone]; simpa [h1, h2, h3, h5] using hq')
    · simp [h1, h2]; simpa [h1, h2] using hq'
  · simp [h1]; simpa [h1] using hq'

theorem pre_fn (A : AHeap) : IsFn (.func (.func 40) #[] #[]) A (fun s p => s.en == 0 && fresh s p && !s.pre p) := by
  refine fn_intro t40 ⟨rfl, by decide⟩ fun A2 s p Q h0 h4 hq => ?_
  dsimp only [c40]
  by_cases h1 : s.en = 0
  · simp [h1]
    refine fresh_ok _ s p _ h0 h4 fun A3 e3 => ?_
    have g0 := e3.get (b := A2.size) (x := .cells s.cells false 0) (by simp) id
    have hq' := hq A3 (Ext.alloc.trans e3)
    cases h2 : fresh s p with
    | false => simp [h2]; simpa [h1, h2] using hq'
    | true => cases h3 : s.pre p <;> (simp [h2, g0, h0, h4, h3, MS.atPre]; simpa [h1, h2, h3] using hq')
  · simp [h1]
    have hq' := hq _ (Ext.alloc (A := A2) (x := .cells s.cells false 0))
    simpa [h1] using hq'

theorem up_fn (A : AHeap) : IsFn (.func (.func 43) #[] #[]) A (fun s p => fresh s p && (s.pre p || s.en != 0)) := by
  refine fn_intro t43 ⟨rfl, by decide⟩ fun A2 s p Q h0 h4 hq => ?_
  dsimp only [c43]
  simp
  refine fresh_ok _ s p _ h0 h4 fun A3 e3 => ?_
  have g0 := e3.get (b := A2.size) (x := .cells s.cells false 0) (by simp) id
  have hq' := hq A3 (Ext.alloc.trans e3)
  cases h2 : fresh s p with
  | false => simp [h2, undef]; simpa [h2] using hq'
  | true => cases h3 : s.pre p with
    | true => simp [h2, g0, h0, h4, h3, MS.atPre]; simpa [h2, h3] using hq'
    | false => by_cases h1 : s.en = 0 <;> (simp [h2, g0, h0, h4, h3, h1, MS.atPre]; simpa [h2, h3, h1] using hq')

theorem down_fn (A : AHeap) : IsFn (.func (.func 45) #[] #[]) A (fun s p => s.md == 3 && s.up p) := by
  refine fn_intro t45 ⟨rfl, by decide⟩ fun A2 s p Q h0 h4 hq => ?_
  dsimp only [c45]
  have hq' := hq _ (Ext.alloc (A := A2) (x := .cells s.cells false 0))
  by_cases h1 : s.md = 3
  · simp [h1, h0, h4, MS.atUp]; simpa [h1] using hq'
  · simp [h1]; simpa [h1] using hq'

theorem open_fn (A : AHeap) : IsFn (.func (.func 47) #[] #[]) A (fun s p => p == 0 && s.md != 0 && s.md != 5 && s.md != 6) := by
  refine fn_intro t47 ⟨rfl, by decide⟩ fun A2 s p Q h0 h4 hq => ?_
  dsimp only [c47]
  have hq' := hq _ (Ext.alloc (A := A2) (x := .cells s.cells false 0))
  by_cases h1 : p = 0
  · by_cases h2 : s.md = 0
    · simp [h1, h2]; simpa [h1, h2] using hq'
    · by_cases h3 : s.md = 5
      · simp [h1, h3]; simpa [h1, h3] using hq'
      · by_cases h5 : s.md = 6
        · simp [h1, h5]; simpa [h1, h5] using hq'
        · simp [h1, h2, h3, h5]; simpa [h1, h2, h3, h5] using hq'
  · simp [h1]; simpa [h1] using hq'

theorem fast_fn (A : AHeap) : IsFn (.func (.func 48) #[] #[]) A (fun s _ => s.md == 3) := by
  refine fn_intro t48 ⟨rfl, by decide⟩ fun A2 s p Q h0 h4 hq => ?_
  dsimp only [c48]
  have hq' := hq _ (Ext.alloc (A := A2) (x := .cells s.cells false 0))
  simp; simpa using hq'

theorem vb_self4 (s : MS) : (List.take 4 (List.drop 7 s.cells)) = [.bool s.u0, .bool s.u1, .bool s.u2, .bool s.u3] := rfl
theorem reset_fn (A : AHeap) : IsFn (.func (.func 49) #[] #[]) A (fun s p => (s.md == 3 && (!s.u0 && !s.u1 && !s.u2 && !s.u3) && s.gone p) || (s.md == 1 || s.md == 2 || s.md == 4) && p == 0) := by
  refine fn_intro t49 ⟨rfl, by decide⟩ fun A2 s p Q h0 h4 hq => ?_
  dsimp only [c49]
  have key : ∀ env : Env, env.rd 2 = .pointer (some ⟨A2.size, 0, none⟩) → env.rd 1 = .int .i64 p → env.rd 5 = .bool (s.md == 3 && (!s.u0 && !s.u1 && !s.u2 && !s.u3) && s.gone p) →
      wC T 49 none (ACode.seq (.opsD [⟨some 21, none, .mov (.tmp 5)⟩,
      ⟨some 22, none, .mov (.tmp 21)⟩,
      ⟨some 23, some (22, false), .bslice 3 3 [.int .i64 (0)] [(0, 1, (.const (.int .i64 (1)))), (1, 1, (.const (.int .i64 (2)))), (2, 1, (.const (.int .i64 (4))))]⟩,
      ⟨some 24, some (22, false), .call 38 [(.tmp 23)]⟩,
      ⟨some 25, some (22, false), .loadN 15 (.tmp 2)⟩,
      ⟨some 26, some (22, false), .mov (.tmp 1)⟩,
      ⟨some 27, some (22, false), .callv (.tmp 24) [(.tmp 25), (.tmp 26)]⟩,
      ⟨some 28, none, .pick (.tmp 22) (.const (.bool true)) (.tmp 27)⟩,
      ⟨some 4, none, .mov (.tmp 28)⟩] [(4, 3), (4, 4)]) .ret) { env := env, n := 29, dfs := [], A := A2.alloc (.cells s.cells false 0) } (endF [.inl 4] Q) := by
    intro env r2 r1 r5
    simp
    refine wC_opsD_chk ?_
    cases hl : (s.md == 3 && (!s.u0 && !s.u1 && !s.u2 && !s.u3) && s.gone p) with
    | true =>
      rw [hl] at r5
      simp [r5]
      refine wE_intro ?_ ?_
      · simp only [List.all_cons, List.all_nil, chkOk, List.nil_append, List.cons_append, List.getElem?_cons_succ, List.getElem?_cons_zero]
        simp [Bx, r5]
      · simp
        have hq' : Q (.bool ((s.md == 3 && (!s.u0 && !s.u1 && !s.u2 && !s.u3) && s.gone p) || (s.md == 1 || s.md == 2 || s.md == 4) && p == 0)) _ := hq _ (Ext.alloc (A := A2) (x := .cells s.cells false 0))
        rw [hl] at hq'
        simpa using hq'
    | false =>
      rw [hl] at r5
      simp [r5]
      refine in_ok _ _ _ _ ?_
      simp [r1, r2]
      refine (in1_fn (d := A2.size + 1) (l := [1, 2, 4]) (by simp) ⟨0, by simp; rfl⟩ (by decide)) _ s p _ Ext.refl h0 h4 fun A3 e3 => ?_
      have g0 := e3.get (b := A2.size) (x := .cells s.cells false 0) (by simp) id
      simp
      refine wE_intro ?_ ?_
      · simp only [List.all_cons, List.all_nil, chkOk, List.nil_append, List.cons_append, List.getElem?_cons_succ, List.getElem?_cons_zero]
        simp [Bx, vbeq, vb_self, r1, r2]
      · simp
        have hq' : Q (.bool ((s.md == 3 && (!s.u0 && !s.u1 && !s.u2 && !s.u3) && s.gone p) || (s.md == 1 || s.md == 2 || s.md == 4) && p == 0)) _ := hq A3 ((Ext.alloc.trans (Ext.alloc.trans Ext.alloc)).trans e3)
        rw [hl] at hq'
        simpa [Bool.or_assoc] using hq'
  by_cases h1 : s.md = 3
  · cases h2 : (!s.u0 && !s.u1 && !s.u2 && !s.u3) with
    | false =>
      have h2' : eqL [(0, .b), (1, .b), (2, .b), (3, .b)] [.bool s.u0, .bool s.u1, .bool s.u2, .bool s.u3] [.bool false, .bool false, .bool false, .bool false] = some false := by
        revert h2; cases s.u0 <;> cases s.u1 <;> cases s.u2 <;> cases s.u3 <;> simp [eqL, leafEq]
      simp [h1, vb_self4, h2']
      refine wC_seq.1 (key _ ?_ ?_ ?_) <;> simp [h1, h2]
    | true =>
      have h2' : eqL [(0, .b), (1, .b), (2, .b), (3, .b)] [.bool s.u0, .bool s.u1, .bool s.u2, .bool s.u3] [.bool false, .bool false, .bool false, .bool false] = some true := by
        revert h2; cases s.u0 <;> cases s.u1 <;> cases s.u2 <;> cases s.u3 <;> simp [eqL, leafEq]
      simp [h1, vb_self4, h2', h0, h4, MS.atGone]
      refine wC_seq.1 (key _ ?_ ?_ ?_) <;> simp [h1, h2]
  · simp [h1]
    refine wC_seq.1 (key _ ?_ ?_ ?_) <;> simp [h1]
end Go.Proofs.YtcfahggmejpdbaaDoor
