/- Items, read as options. -/
import Derived.Test.YtigknpfjhegkgaaGreatDoorVj
import Derived.Test.YtigknpfjhegkgaaGreatDoorKf
import Derived.KernelRfl
namespace Go.Proofs.YtigknpfjhegkgaaGreatDoor
open Go Go.AS
set_option maxRecDepth 100000
set_option linter.unusedSimpArgs false
set_option linter.unusedVariables false
attribute [local irreducible] Trie.set Trie.get Env.rd
attribute [local simp ↓] wV_b2s
attribute [local simp] Nat.add_assoc wD_cons'' wD_nil' wC_seq wC_ops wC_opsD_nil wC_cond wC_skip wC_ret wC_exit wC_block wO_cons' wO_nil wantedA wV_eq lop qop ev wL_some wL_none wPut envOf rd_set rd_leaf eqA thenC blockC wB_true wB_false endF unwindA resultsA resA tupleA rdCell rdCells wrCells cl fillP lay rep bi_eql bi_neq bi_lss bi_leq bi_gtr bi_geq bi_add bi_sub bs_eql bs_neq bi_shr4 unA get_set' AHeap.get_alloc oneCell beqd bned idxA
attribute [local simp] Op.len Op.one Cap.ln Jn.len Ds.ln Ad.len Cap.one Jn.one Ds.one Ad.one Op.take Op.at0 Op.head? Op.getCap Op.tCap Op.getJn Op.getDs Op.getAd Op.getIds Op.getPrio Op.getFail Op.getFast Op.getRst Op.putCap Op.putJn Op.putDs Op.putAd Op.putSub Op.putIds Op.putPrio Op.putFail Op.putFast Op.putRf Op.putRr Op.layAll Op.zeroC Op.vb
theorem cap_err {s : List UInt8} {e : Int} (h : Cap.dec s = .error e) : e ≠ 0 := by
  intro he; subst he
  match s, h with
  | a :: t, h =>
    simp only [Cap.dec] at h
    split at h
    · cases h
    split at h
    · cases h
    split at h
    · split at h <;> cases h
    · cases h
theorem jn_err {s : List UInt8} {e : Int} (h : Jn.dec s = .error e) : e ≠ 0 := by
  intro he; subst he
  match s, h with
  | a :: t, h =>
    simp only [Jn.dec] at h
    split at h
    · cases h
    split at h
    · cases h
    split at h
    · cases h
    split at h
    · cases h
    split at h <;> cases h
theorem ds_err {s : List UInt8} {e : Int} (h : Ds.dec s = .error e) : e ≠ 0 := by
  intro he; subst he
  match s, h with
  | a :: t, h =>
    simp only [Ds.dec] at h
    split at h
    · cases h
    split at h
    · cases h
    rename_i b r
    generalize (if decide (b.toNat % 2 = 1) = true then wide (decide (b.toNat % 2 = 1) && decide (b.toNat / 2 % 2 = 1)) else 0) + (if decide (b.toNat / 4 % 2 = 1) = true then wide (decide (b.toNat / 4 % 2 = 1) && decide (b.toNat / 8 % 2 = 1)) else 0) + (if decide (b.toNat / 4 % 2 = 1) = true then 6 else 0) = n at h
    by_cases h1 : (!decide (b.toNat % 2 = 1) && !decide (b.toNat / 4 % 2 = 1)) = true
    · rw [if_pos h1] at h; cases h
    rw [if_neg h1] at h
    by_cases h2 : r.length < n
    · rw [if_pos h2] at h; cases h
    rw [if_neg h2] at h
    by_cases h3 : r.length = n ∨ decide (b.toNat / 4 % 2 = 1) = true ∧ r.length = n + 2
    · rw [if_pos h3] at h; cases h
    · rw [if_neg h3] at h; cases h
theorem ad_err {s : List UInt8} {e : Int} (h : Ad.dec s = .error e) : e ≠ 0 := by
  intro he; subst he
  match s, h with
  | a :: t, h =>
    simp only [Ad.dec] at h
    split at h
    · cases h
    split at h
    · cases h
    generalize (if decide (a.toNat % 2 = 1) = true then 0 else 8) = m at h
    split at h
    · cases h
    split at h
    · cases h
    split at h
    · cases h
    split at h <;> cases h
theorem rem_err {s : List UInt8} {e : Int} (h : remD s = .error e) : e ≠ 0 := by
  intro he; subst he
  match s, h with
  | a :: t, h =>
    simp only [remD] at h
    split at h
    · cases h
    split at h <;> cases h
theorem prio_err {s : List UInt8} {e : Int} (h : prioD s = .error e) : e ≠ 0 := by
  intro he; subst he
  match s, h with
  | a :: t, h =>
    simp only [prioD] at h
    split at h
    · cases h
    split at h <;> cases h
theorem big_err {k : Nat} {s : List UInt8} {e : Int} (h : bigD k s = .error e) : e ≠ 0 := by
  intro he; subst he
  match s, h with
  | a :: t, h =>
    simp only [bigD] at h
    split at h
    · cases h
    split at h
    · cases h
    split at h <;> cases h
theorem rst_err {s : List UInt8} {e : Int} (h : rstD s = .error e) : e ≠ 0 := by
  intro he; subst he
  match s, h with
  | a :: t, h =>
    simp only [rstD] at h
    split at h
    · cases h
    split at h
    · cases h
    split at h <;> cases h
theorem czL : cz.length = 8 ∧ cz.all oneCell = true ∧ AS.lay (Op.only 0).cells 1 cz = (Op.only 0).cells := ⟨rfl, rfl, rfl⟩
theorem jzL : jz.length = 6 ∧ jz.all oneCell = true ∧ AS.lay (Op.only 1).cells 9 jz = (Op.only 1).cells := ⟨rfl, rfl, rfl⟩
theorem dzL : dz.length = 11 ∧ dz.all oneCell = true ∧ AS.lay (Op.only 2).cells 15 dz = (Op.only 2).cells := ⟨rfl, rfl, rfl⟩
theorem azL : az.length = 6 ∧ az.all oneCell = true ∧ AS.lay (Op.only 3).cells 26 az = (Op.only 3).cells := ⟨rfl, rfl, rfl⟩
theorem e4L : (Op.only 4).cells.set 32 (.string ⟨⟨[]⟩⟩) = (Op.only 4).cells := rfl
theorem e5L : (Op.only 5).cells.set 33 (.bool false) = (Op.only 5).cells := rfl
theorem e6L : (Op.only 6).cells.set 34 (.int .u64 0) = (Op.only 6).cells := rfl
theorem e7L : (Op.only 7).cells.set 35 (.int .u64 0) = (Op.only 7).cells := rfl
theorem e8L : ((Op.only 8).cells.set 36 (.int .i64 0)).set 37 (.int .i64 0) = (Op.only 8).cells := rfl
theorem read0_ok (A : AHeap) (q : Nat) (s : List UInt8) (hs : s.length < 1000000) (g : A.get q = some (.cells (Op.only 0).cells false 0)) (Q : Value → AHeap → Prop)
    (h1 : ∀ x A', mapE (fun x => { Op.only 0 with cap := x }) (Cap.dec s) = .ok x → A'.get q = some (.cells x.cells false 0) → Ext (fun j => j = q) A A' → Q (.int .i64 0) A') (h2 : ∀ e A', mapE (fun x => { Op.only 0 with cap := x }) (Cap.dec s) = .error e → e ≠ 0 → A'.get q = some (.cells (Op.only 0).cells false 0) → Ext (fun j => j = q) A A' → Q (.int .i64 e) A') :
    wF T (.func (.func 74) #[] #[]) [.pointer (some ⟨q, 0, none⟩), .string ⟨⟨s⟩⟩] A Q := by
  refine wF_func (first := []) (captured := []) t74 ⟨rfl, by decide⟩ ?_
  dsimp only [c74]
  simp
  refine cdec_ok A s hs _ fun B eB => ?_
  have gB := eB.get g id
  have lB := AHeap.get_lt gB
  have fin : ∀ y, Ext (fun j => j = q) A (B.set q y) := fun y => (eB.mono fun _ _ z => z.elim).trans (Ext.set rfl)
  cases hx : Cap.dec s with
  | ok x =>
    rw [hx] at h1
    simp [resD, gB, lB]
    exact h1 _ _ rfl (by simp [lB]; try rfl) (fin _)
  | error e =>
    have he := cap_err hx
    rw [hx] at h2
    simp [resD, gB, lB, czL]
    exact h2 _ _ rfl he (by simp [lB]; try rfl) (fin _)
theorem read1_ok (A : AHeap) (q : Nat) (s : List UInt8) (hs : s.length < 1000000) (g : A.get q = some (.cells (Op.only 1).cells false 0)) (Q : Value → AHeap → Prop)
    (h1 : ∀ x A', mapE (fun x => { Op.only 1 with jn := x }) (Jn.dec s) = .ok x → A'.get q = some (.cells x.cells false 0) → Ext (fun j => j = q) A A' → Q (.int .i64 0) A') (h2 : ∀ e A', mapE (fun x => { Op.only 1 with jn := x }) (Jn.dec s) = .error e → e ≠ 0 → A'.get q = some (.cells (Op.only 1).cells false 0) → Ext (fun j => j = q) A A' → Q (.int .i64 e) A') :
    wF T (.func (.func 78) #[] #[]) [.pointer (some ⟨q, 0, none⟩), .string ⟨⟨s⟩⟩] A Q := by
  refine wF_func (first := []) (captured := []) t78 ⟨rfl, by decide⟩ ?_
  dsimp only [c78]
  simp
  refine jdec_ok A s hs _ fun B eB => ?_
  have gB := eB.get g id
  have lB := AHeap.get_lt gB
  have fin : ∀ y, Ext (fun j => j = q) A (B.set q y) := fun y => (eB.mono fun _ _ z => z.elim).trans (Ext.set rfl)
  cases hx : Jn.dec s with
  | ok x =>
    rw [hx] at h1
    simp [resD, gB, lB]
    exact h1 _ _ rfl (by simp [lB]; try rfl) (fin _)
  | error e =>
    have he := jn_err hx
    rw [hx] at h2
    simp [resD, gB, lB, jzL]
    exact h2 _ _ rfl he (by simp [lB]; try rfl) (fin _)
theorem read2_ok (A : AHeap) (q : Nat) (s : List UInt8) (hs : s.length < 1000000) (g : A.get q = some (.cells (Op.only 2).cells false 0)) (Q : Value → AHeap → Prop)
    (h1 : ∀ x A', mapE (fun x => { Op.only 2 with ds := x }) (Ds.dec s) = .ok x → A'.get q = some (.cells x.cells false 0) → Ext (fun j => j = q) A A' → Q (.int .i64 0) A') (h2 : ∀ e A', mapE (fun x => { Op.only 2 with ds := x }) (Ds.dec s) = .error e → e ≠ 0 → A'.get q = some (.cells (Op.only 2).cells false 0) → Ext (fun j => j = q) A A' → Q (.int .i64 e) A') :
    wF T (.func (.func 82) #[] #[]) [.pointer (some ⟨q, 0, none⟩), .string ⟨⟨s⟩⟩] A Q := by
  refine wF_func (first := []) (captured := []) t82 ⟨rfl, by decide⟩ ?_
  dsimp only [c82]
  simp
  refine ddec_ok A s hs _ fun B eB => ?_
  have gB := eB.get g id
  have lB := AHeap.get_lt gB
  have fin : ∀ y, Ext (fun j => j = q) A (B.set q y) := fun y => (eB.mono fun _ _ z => z.elim).trans (Ext.set rfl)
  cases hx : Ds.dec s with
  | ok x =>
    rw [hx] at h1
    simp [resD, gB, lB]
    exact h1 _ _ rfl (by simp [lB]; try rfl) (fin _)
  | error e =>
    have he := ds_err hx
    rw [hx] at h2
    simp [resD, gB, lB, dzL]
    exact h2 _ _ rfl he (by simp [lB]; try rfl) (fin _)
theorem read3_ok (A : AHeap) (q : Nat) (s : List UInt8) (hs : s.length < 1000000) (g : A.get q = some (.cells (Op.only 3).cells false 0)) (Q : Value → AHeap → Prop)
    (h1 : ∀ x A', mapE (fun x => { Op.only 3 with ad := x }) (Ad.dec s) = .ok x → A'.get q = some (.cells x.cells false 0) → Ext (fun j => j = q) A A' → Q (.int .i64 0) A') (h2 : ∀ e A', mapE (fun x => { Op.only 3 with ad := x }) (Ad.dec s) = .error e → e ≠ 0 → A'.get q = some (.cells (Op.only 3).cells false 0) → Ext (fun j => j = q) A A' → Q (.int .i64 e) A') :
    wF T (.func (.func 86) #[] #[]) [.pointer (some ⟨q, 0, none⟩), .string ⟨⟨s⟩⟩] A Q := by
  refine wF_func (first := []) (captured := []) t86 ⟨rfl, by decide⟩ ?_
  dsimp only [c86]
  simp
  refine adec_ok A s hs _ fun B eB => ?_
  have gB := eB.get g id
  have lB := AHeap.get_lt gB
  have fin : ∀ y, Ext (fun j => j = q) A (B.set q y) := fun y => (eB.mono fun _ _ z => z.elim).trans (Ext.set rfl)
  cases hx : Ad.dec s with
  | ok x =>
    rw [hx] at h1
    simp [resD, gB, lB]
    exact h1 _ _ rfl (by simp [lB]; try rfl) (fin _)
  | error e =>
    have he := ad_err hx
    rw [hx] at h2
    simp [resD, gB, lB, azL]
    exact h2 _ _ rfl he (by simp [lB]; try rfl) (fin _)
theorem read4_ok (A : AHeap) (q : Nat) (s : List UInt8) (hs : s.length < 1000000) (g : A.get q = some (.cells (Op.only 4).cells false 0)) (Q : Value → AHeap → Prop)
    (h1 : ∀ x A', mapE (fun x => { Op.only 4 with ids := x }) (remD s) = .ok x → A'.get q = some (.cells x.cells false 0) → Ext (fun j => j = q) A A' → Q (.int .i64 0) A') (h2 : ∀ e A', mapE (fun x => { Op.only 4 with ids := x }) (remD s) = .error e → e ≠ 0 → A'.get q = some (.cells (Op.only 4).cells false 0) → Ext (fun j => j = q) A A' → Q (.int .i64 e) A') :
    wF T (.func (.func 90) #[] #[]) [.pointer (some ⟨q, 0, none⟩), .string ⟨⟨s⟩⟩] A Q := by
  refine wF_func (first := []) (captured := []) t90 ⟨rfl, by decide⟩ ?_
  dsimp only [c90]
  simp
  refine rdec_ok A s hs _ fun B eB => ?_
  have gB := eB.get g id
  have lB := AHeap.get_lt gB
  have fin : ∀ y, Ext (fun j => j = q) A (B.set q y) := fun y => (eB.mono fun _ _ z => z.elim).trans (Ext.set rfl)
  cases hx : remD s with
  | ok x =>
    rw [hx] at h1
    simp [resD, gB, lB]
    exact h1 _ _ rfl (by simp [lB]; try rfl) (fin _)
  | error e =>
    have he := rem_err hx
    rw [hx] at h2
    simp [resD, gB, lB, e4L]
    exact h2 _ _ rfl he (by simp [lB]; try rfl) (fin _)
theorem read5_ok (A : AHeap) (q : Nat) (s : List UInt8) (hs : s.length < 1000000) (g : A.get q = some (.cells (Op.only 5).cells false 0)) (Q : Value → AHeap → Prop)
    (h1 : ∀ x A', mapE (fun x => { Op.only 5 with prio := x }) (prioD s) = .ok x → A'.get q = some (.cells x.cells false 0) → Ext (fun j => j = q) A A' → Q (.int .i64 0) A') (h2 : ∀ e A', mapE (fun x => { Op.only 5 with prio := x }) (prioD s) = .error e → e ≠ 0 → A'.get q = some (.cells (Op.only 5).cells false 0) → Ext (fun j => j = q) A A' → Q (.int .i64 e) A') :
    wF T (.func (.func 94) #[] #[]) [.pointer (some ⟨q, 0, none⟩), .string ⟨⟨s⟩⟩] A Q := by
  refine wF_func (first := []) (captured := []) t94 ⟨rfl, by decide⟩ ?_
  dsimp only [c94]
  simp
  refine pdec_ok A s hs _ fun B eB => ?_
  have gB := eB.get g id
  have lB := AHeap.get_lt gB
  have fin : ∀ y, Ext (fun j => j = q) A (B.set q y) := fun y => (eB.mono fun _ _ z => z.elim).trans (Ext.set rfl)
  cases hx : prioD s with
  | ok x =>
    rw [hx] at h1
    simp [resD, gB, lB]
    exact h1 _ _ rfl (by simp [lB]; try rfl) (fin _)
  | error e =>
    have he := prio_err hx
    rw [hx] at h2
    simp [resD, gB, lB, e5L]
    exact h2 _ _ rfl he (by simp [lB]; try rfl) (fin _)
theorem read6_ok (A : AHeap) (q : Nat) (s : List UInt8) (hs : s.length < 1000000) (g : A.get q = some (.cells (Op.only 6).cells false 0)) (Q : Value → AHeap → Prop)
    (h1 : ∀ x A', mapE (fun x => { Op.only 6 with fail := x }) (bigD 6 s) = .ok x → A'.get q = some (.cells x.cells false 0) → Ext (fun j => j = q) A A' → Q (.int .i64 0) A') (h2 : ∀ e A', mapE (fun x => { Op.only 6 with fail := x }) (bigD 6 s) = .error e → e ≠ 0 → A'.get q = some (.cells (Op.only 6).cells false 0) → Ext (fun j => j = q) A A' → Q (.int .i64 e) A') :
    wF T (.func (.func 98) #[] #[]) [.pointer (some ⟨q, 0, none⟩), .string ⟨⟨s⟩⟩] A Q := by
  refine wF_func (first := []) (captured := []) t98 ⟨rfl, by decide⟩ ?_
  dsimp only [c98]
  simp
  refine fdec_ok A s hs _ fun B eB => ?_
  have gB := eB.get g id
  have lB := AHeap.get_lt gB
  have fin : ∀ y, Ext (fun j => j = q) A (B.set q y) := fun y => (eB.mono fun _ _ z => z.elim).trans (Ext.set rfl)
  cases hx : bigD 6 s with
  | ok x =>
    rw [hx] at h1
    simp [resD, gB, lB]
    exact h1 _ _ rfl (by simp [lB]; try rfl) (fin _)
  | error e =>
    have he := big_err hx
    rw [hx] at h2
    simp [resD, gB, lB, e6L]
    exact h2 _ _ rfl he (by simp [lB]; try rfl) (fin _)
theorem read7_ok (A : AHeap) (q : Nat) (s : List UInt8) (hs : s.length < 1000000) (g : A.get q = some (.cells (Op.only 7).cells false 0)) (Q : Value → AHeap → Prop)
    (h1 : ∀ x A', mapE (fun x => { Op.only 7 with fast := x }) (bigD 7 s) = .ok x → A'.get q = some (.cells x.cells false 0) → Ext (fun j => j = q) A A' → Q (.int .i64 0) A') (h2 : ∀ e A', mapE (fun x => { Op.only 7 with fast := x }) (bigD 7 s) = .error e → e ≠ 0 → A'.get q = some (.cells (Op.only 7).cells false 0) → Ext (fun j => j = q) A A' → Q (.int .i64 e) A') :
    wF T (.func (.func 102) #[] #[]) [.pointer (some ⟨q, 0, none⟩), .string ⟨⟨s⟩⟩] A Q := by
  refine wF_func (first := []) (captured := []) t102 ⟨rfl, by decide⟩ ?_
  dsimp only [c102]
  simp
  refine kdec_ok A s hs _ fun B eB => ?_
  have gB := eB.get g id
  have lB := AHeap.get_lt gB
  have fin : ∀ y, Ext (fun j => j = q) A (B.set q y) := fun y => (eB.mono fun _ _ z => z.elim).trans (Ext.set rfl)
  cases hx : bigD 7 s with
  | ok x =>
    rw [hx] at h1
    simp [resD, gB, lB]
    exact h1 _ _ rfl (by simp [lB]; try rfl) (fin _)
  | error e =>
    have he := big_err hx
    rw [hx] at h2
    simp [resD, gB, lB, e7L]
    exact h2 _ _ rfl he (by simp [lB]; try rfl) (fin _)
theorem read8_ok (A : AHeap) (q : Nat) (s : List UInt8) (hs : s.length < 1000000) (g : A.get q = some (.cells (Op.only 8).cells false 0)) (Q : Value → AHeap → Prop)
    (h1 : ∀ x A', mapE (fun x => { Op.only 8 with rf := x.1, rr := x.2 }) (rstD s) = .ok x → A'.get q = some (.cells x.cells false 0) → Ext (fun j => j = q) A A' → Q (.int .i64 0) A') (h2 : ∀ e A', mapE (fun x => { Op.only 8 with rf := x.1, rr := x.2 }) (rstD s) = .error e → e ≠ 0 → A'.get q = some (.cells (Op.only 8).cells false 0) → Ext (fun j => j = q) A A' → Q (.int .i64 e) A') :
    wF T (.func (.func 106) #[] #[]) [.pointer (some ⟨q, 0, none⟩), .string ⟨⟨s⟩⟩] A Q := by
  refine wF_func (first := []) (captured := []) t106 ⟨rfl, by decide⟩ ?_
  dsimp only [c106]
  simp
  refine tdec_ok A s hs _ fun B eB => ?_
  have gB := eB.get g id
  have lB := AHeap.get_lt gB
  have fin : ∀ y, Ext (fun j => j = q) A (B.set q y) := fun y => (eB.mono fun _ _ z => z.elim).trans (Ext.set rfl)
  cases hx : rstD s with
  | ok x =>
    rw [hx] at h1
    simp [resD, gB, lB]
    exact h1 _ _ rfl (by simp [lB]; try rfl) (fin _)
  | error e =>
    have he := rst_err hx
    rw [hx] at h2
    simp [resD, gB, lB, e8L]
    exact h2 _ _ rfl he (by simp [lB]; try rfl) (fin _)
end Go.Proofs.YtigknpfjhegkgaaGreatDoor
