/- The closed law: its rows of options. -/
import Derived.Test.YtigknpfjhegkgaaGreatDoorWem
import Derived.Test.YtigknpfjhegkgaaGreatDoorKk
import Derived.Test.YtigknpfjhegkgaaGreatDoorEk
import Derived.KernelRfl
namespace Go.Proofs.YtigknpfjhegkgaaGreatDoor
open Go Go.AS
set_option maxRecDepth 100000
set_option linter.unusedSimpArgs false
set_option linter.unusedVariables false
attribute [local irreducible] Trie.set Trie.get Env.rd
attribute [local simp ↓] wV_b2s
attribute [local simp] Nat.add_assoc wD_cons'' wD_nil' wC_seq wC_ops wC_opsD_nil wC_cond wC_skip wC_ret wC_exit wC_block wO_cons' wO_nil wantedA wV_eq lop qop ev wL_some wL_none wPut envOf rd_set rd_leaf eqA thenC blockC wB_true wB_false endF unwindA resultsA resA tupleA rdCell rdCells wrCells cl fillP lay rep bi_eql bi_neq bi_lss bi_leq bi_gtr bi_geq bi_add bi_sub bs_eql bs_neq bi_shr4 unA get_set' AHeap.get_alloc oneCell beqd bned idxA
attribute [local simp] Op.len Op.one Cap.ln Jn.len Ds.ln Ad.len Cap.one Jn.one Ds.one Ad.one Op.take Op.at0 Op.head? Op.getCap Op.tCap Op.getJn Op.getDs Op.getAd Op.getIds Op.getPrio Op.getFail Op.getFast Op.getRst Op.putCap Op.putJn Op.putDs Op.putAd Op.putSub Op.putIds Op.putPrio Op.putFail Op.putFast Op.putRf Op.putRr Op.layAll Op.zeroC Op.vb


def partsO : Nat → List Op → List (Nat × Nat × Value)
  | _, [] => []
  | k, x :: r => (k * 38, 38, .agg ⟨x.cells⟩) :: partsO (k + 1) r
theorem fill_parts : ∀ (xs pre : List Op), fillP (opsC pre ++ rep xs.length opZ) (partsO pre.length xs) = some (opsC (pre ++ xs))
  | [], pre => by simp [partsO, fillP, rep]
  | x :: xs, pre => by
    have ih := fill_parts xs (pre ++ [x])
    have hl : (opsC pre).length = pre.length * 38 := opsC_len pre
    have hz : opZ.length = 38 := rfl
    have hr : rep (x :: xs).length opZ = opZ ++ rep xs.length opZ := by simp only [rep, List.length_cons, List.replicate_succ, List.flatten_cons]
    have hlay : AS.lay (opsC pre ++ (opZ ++ rep xs.length opZ)) (pre.length * 38) x.cells = opsC (pre ++ [x]) ++ rep xs.length opZ := by
      have g : ∀ (vs pre' mid rest : List Value), mid.length = vs.length → AS.lay (pre' ++ (mid ++ rest)) pre'.length vs = pre' ++ (vs ++ rest) := by
        intro vs
        induction vs with
        | nil => intro pre' mid rest h; obtain rfl := List.length_eq_zero_iff.1 h; rfl
        | cons v vs ih =>
          intro pre' mid rest h
          cases mid with
          | nil => simp at h
          | cons m mid =>
            have := ih (pre' ++ [v]) mid rest (by simpa using h)
            simp only [List.append_assoc, List.cons_append, List.nil_append, List.length_append, List.length_cons, List.length_nil] at this
            show AS.lay ((pre' ++ (m :: (mid ++ rest))).set pre'.length v) (pre'.length + 1) vs = _
            rw [List.set_append_right _ _ (Nat.le_refl _), Nat.sub_self, List.set_cons_zero]
            exact this
      have := g x.cells (opsC pre) opZ (rep xs.length opZ) (by rw [hz, Op.len])
      rw [← hl, this, opsC_app, List.append_assoc]
    show (if (x.cells).length ≠ 38 || pre.length * 38 + (x.cells).length > (opsC pre ++ rep (x :: xs).length opZ).length then none else fillP (AS.lay (opsC pre ++ rep (x :: xs).length opZ) (pre.length * 38) x.cells) (partsO (pre.length + 1) xs)) = _
    rw [hr, hlay]
    rw [if_neg (by simp [Op.len, hl, hz])]
    have e : (pre ++ [x]).length = pre.length + 1 := by simp
    rw [e] at ih
    rw [ih]; simp
theorem fill_row (xs : List Op) : fillP (rep xs.length opZ) (partsO 0 xs) = some (opsC xs) := by simpa [opsC] using fill_parts xs []
theorem prio_ok (A : AHeap) (b : Bool) (Q : Value → AHeap → Prop) (hq : ∀ A', Ext NoB A A' → Q (.agg ⟨({ Op.only 5 with prio := b } : Op).cells⟩) A') : wF T (.func (.func 27) #[] #[]) [.bool b] A Q := by
  refine wF_func (first := []) (captured := []) t27 ⟨rfl, by decide⟩ ?_
  dsimp only [c27]
  simp
  refine hq _ ?_
  (repeat first | exact Ext.refl | assumption | refine Ext.allocN ?_ | refine Ext.setN ?_ (by first | omega | (simp; done) | (simp; omega)))
theorem rst_ok (A : AHeap) (f r : Int) (Q : Value → AHeap → Prop) (hq : ∀ A', Ext NoB A A' → Q (.agg ⟨({ Op.only 8 with rf := f, rr := r } : Op).cells⟩) A') : wF T (.func (.func 28) #[] #[]) [.int .i64 f, .int .i64 r] A Q := by
  refine wF_func (first := []) (captured := []) t28 ⟨rfl, by decide⟩ ?_
  dsimp only [c28]
  simp
  refine hq _ ?_
  (repeat first | exact Ext.refl | assumption | refine Ext.allocN ?_ | refine Ext.setN ?_ (by first | omega | (simp; done) | (simp; omega)))
/-- The options that may be, and those that may not. -/
def good : List Op := [{ Op.zero with cap := { Op.zero.cap with ver := 1 } }, Op.only 1, { Op.only 2 with ds := { Op.zero.ds with hasAck := true } }, { Op.only 3 with ad := { Op.zero.ad with echo := true, ip := [97, 98, 99, 100] } }, { Op.only 4 with ids := [97] }, { Op.only 5 with prio := false }, Op.only 6, Op.only 7, { Op.only 8 with rf := 0, rr := 0 }]
def bads : List Op := [Op.only 9, Op.only (-1), Op.only 2, Op.only 3, Op.only 4, { Op.only 5 with rf := 0, rr := 1 }, { Op.only 8 with rf := 16, rr := 0 }, { Op.only 7 with fail := 1 }]
def zids : List UInt8 := List.replicate 37 0
def sizes : List Int := [2, 10, 6, 6, 2, 1, 10, 10, 2]
theorem good_w : ∀ x ∈ good, x.W := by
  intro x hx
  simp only [good, List.mem_cons, List.not_mem_nil, or_false] at hx
  rcases hx with rfl | rfl | rfl | rfl | rfl | rfl | rfl | rfl | rfl <;> exact ⟨⟨by decide, by decide, by decide⟩, ⟨by decide, by decide, by decide⟩, ⟨by decide, by decide, by decide, by decide⟩, ⟨by decide, by decide⟩, by decide, by decide, by decide⟩
theorem bads_w : ∀ x ∈ bads, x.W := by
  intro x hx
  simp only [bads, List.mem_cons, List.not_mem_nil, or_false] at hx
  rcases hx with rfl | rfl | rfl | rfl | rfl | rfl | rfl | rfl <;> exact ⟨⟨by decide, by decide, by decide⟩, ⟨by decide, by decide, by decide⟩, ⟨by decide, by decide, by decide, by decide⟩, ⟨by decide, by decide⟩, by decide, by decide, by decide⟩
theorem bads_enc : ∀ x ∈ bads, x.enc = none := by decide +kernel
def goodAt (i : Nat) : Bool := match good[i]?, sizes[i]? with
  | some x, some n => match x.enc with
    | some (b :: r) => decide ((r.length + 1 : Nat) = n) && (decide (i = 3) || decide ((b.toNat : Int) = (i * 16 : Nat) + x.cap.ver)) && decide (0 ≤ x.cap.ver) && decide (x.cap.ver < 16)
    | _ => false
  | _, _ => false
theorem goods : ∀ i, i < 9 → goodAt i = true := by decide +kernel
end Go.Proofs.YtigknpfjhegkgaaGreatDoor
