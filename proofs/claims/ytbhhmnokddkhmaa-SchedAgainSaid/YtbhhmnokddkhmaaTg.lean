/- SchedAgain of stage 25: plain law. -/
import Derived.Test.YtbhhmnokddkhmaaTf
import Derived.KernelRfl
namespace Go.Proofs.Ytbhhmnokddkhmaa
open Go Go.AS
set_option maxRecDepth 100000
set_option linter.unusedSimpArgs false
set_option linter.unusedVariables false
attribute [local irreducible] Trie.set Trie.get Env.rd
attribute [local simp] Nat.add_assoc wD_cons'' wD_nil' wC_seq wC_ops wC_opsD_nil wC_cond wC_skip wC_ret wC_exit wC_block wO_cons' wO_nil wantedA wV_eq lop qop ev wL_some wL_none wPut envOf rd_set rd_leaf eqA thenC blockC wB_true wB_false endF unwindA resultsA resA tupleA rdCell rdCells wrCells cl fillP lay rep binA unA get_set' AHeap.get_alloc oneCell

def at0 (L : List La) (k : Nat) : La := L.getD k ⟨0, false, false, 0⟩
/-- The first i lanes have their paths. -/
def pth (L : List La) (i : Nat) : List La := (List.range L.length).map fun k => if k < i then { at0 L k with path := 2 * (k : Int) } else at0 L k
def crow (cb : List Bool) (i : Nat) : List Int := ((List.range i).filter fun k => cb.getD k false).map fun (k : Nat) => 2 * (k : Int)
def alv (L : List La) (cb : List Bool) (i : Nat) : Bool := (List.range i).any fun k => cb.getD k false && (at0 L k).up
def isk (L : List La) (cb : List Bool) (ago limit : Int) (k : Nat) : Bool := (at0 L k).up && decide ((at0 L k).flight < limit) && !cb.getD k false && (decide (3 ≤ ago) || !alv L cb L.length)
def gots (L : List La) (cb : List Bool) (ago limit : Int) (i : Nat) : List Int := ((List.range i).filter (isk L cb ago limit)).map fun (k : Nat) => 2 * (k : Int)

theorem at0_get (L : List La) (k : Nat) (h : k < L.length) : at0 L k = L[k] := by simp [at0, h]
theorem pth_len (L : List La) (i : Nat) : (pth L i).length = L.length := by simp [pth]
theorem pth_zero (L : List La) : pth L 0 = L := by
  refine List.ext_getElem (pth_len L 0) fun k h1 h2 => ?_
  simp [pth, at0_get L k h2]
theorem pth_get (L : List La) (i k : Nat) (h : k < (pth L i).length) : (pth L i)[k] = if k < i then { at0 L k with path := 2 * (k : Int) } else at0 L k := by simp [pth]
theorem pth_succ (L : List La) (i : Nat) (h : i < (pth L i).length) : (pth L i).set i { (pth L i)[i] with path := 2 * (i : Int) } = pth L (i + 1) := by
  refine List.ext_getElem (by simp [pth]) fun k h1 h2 => ?_
  rw [List.getElem_set]
  by_cases hk : i = k
  · subst hk; simp [pth_get]
  · rw [if_neg hk, pth_get, pth_get]
    by_cases h3 : k < i
    · rw [if_pos h3, if_pos (by omega)]
    · rw [if_neg h3, if_neg (by omega)]
theorem crow_succ (cb : List Bool) (i : Nat) : crow cb (i + 1) = if cb.getD i false = true then crow cb i ++ [2 * (i : Int)] else crow cb i := by
  unfold crow
  rw [List.range_succ, List.filter_append, List.map_append]
  cases h : cb.getD i false
  · simp at h; simp [h]
  · simp at h; simp [h]
theorem alv_succ (L : List La) (cb : List Bool) (i : Nat) : alv L cb (i + 1) = (alv L cb i || (cb.getD i false && (at0 L i).up)) := by
  unfold alv
  rw [List.range_succ, List.any_append]
  simp
theorem crow_len (cb : List Bool) (i : Nat) : (crow cb i).length ≤ i := by
  unfold crow
  rw [List.length_map]
  exact Nat.le_trans (List.length_filter_le _ _) (by simp)
theorem gots_len (L : List La) (cb : List Bool) (ago limit : Int) (i : Nat) : (gots L cb ago limit i).length ≤ i := by
  unfold gots
  rw [List.length_map]
  exact Nat.le_trans (List.length_filter_le _ _) (by simp)
theorem gots_succ (L : List La) (cb : List Bool) (ago limit : Int) (i : Nat) : gots L cb ago limit (i + 1) = if isk L cb ago limit i = true then gots L cb ago limit i ++ [2 * (i : Int)] else gots L cb ago limit i := by
  unfold gots
  rw [List.range_succ, List.filter_append, List.map_append]
  cases h : isk L cb ago limit i <;> simp [h]
/-- The number at its place. -/
theorem gots_at (L : List La) (cb : List Bool) (ago limit : Int) (i z : Nat) (hi : i < z) (h : isk L cb ago limit i = true) : ∃ hk : (gots L cb ago limit i).length < (gots L cb ago limit z).length, (gots L cb ago limit z)[(gots L cb ago limit i).length] = 2 * (i : Int) := by
  have e : ∀ r, ∃ t, gots L cb ago limit (i + 1 + r) = gots L cb ago limit (i + 1) ++ t := by
    intro r
    induction r with
    | zero => exact ⟨[], by simp⟩
    | succ r ih =>
      obtain ⟨t, ht⟩ := ih
      rw [show i + 1 + (r + 1) = i + 1 + r + 1 by omega, gots_succ, ht]
      split
      · exact ⟨t ++ [2 * ((i + 1 + r : Nat) : Int)], by rw [List.append_assoc]⟩
      · exact ⟨t, rfl⟩
  obtain ⟨t, ht⟩ := e (z - (i + 1))
  rw [show i + 1 + (z - (i + 1)) = z by omega, gots_succ, if_pos h] at ht
  refine ⟨by rw [ht]; simp, ?_⟩
  simp only [ht]
  simp
theorem has_crow (cb : List Bool) (z k : Nat) (hk : k < z) : has (crow cb z) (2 * (k : Int)) = cb.getD k false := by
  unfold has crow
  rw [Bool.eq_iff_iff]
  simp only [List.any_eq_true, List.mem_map, List.mem_filter, List.mem_range, beq_iff_eq]
  constructor
  · rintro ⟨x, ⟨q, ⟨h1, h2⟩, rfl⟩, h3⟩
    have : k = q := by omega
    subst this; exact h2
  · intro h
    exact ⟨_, ⟨k, ⟨hk, h⟩, rfl⟩, rfl⟩
theorem pth_full (L : List La) : pth L L.length = (List.range L.length).map fun k => { at0 L k with path := 2 * (k : Int) } := by
  unfold pth
  refine List.map_congr_left fun k hk => ?_
  rw [if_pos (by simpa using hk)]
theorem alive_pth (L : List La) (cb : List Bool) : alive (crow cb L.length) (pth L L.length) = alv L cb L.length := by
  unfold alive alv
  rw [pth_full, List.any_map, Bool.eq_iff_iff]
  simp only [List.any_eq_true, List.mem_range, Function.comp]
  constructor
  · rintro ⟨k, hk, h⟩
    rw [has_crow cb _ k hk] at h
    exact ⟨k, hk, by rw [Bool.and_comm]; exact h⟩
  · rintro ⟨k, hk, h⟩
    exact ⟨k, hk, by rw [has_crow cb _ k hk, Bool.and_comm]; exact h⟩
theorem fpth (L : List La) (cb : List Bool) (limit : Int) : ((pth L L.length).filter (agR (crow cb L.length) limit)).map (·.path) = ((List.range L.length).filter fun k => (at0 L k).up && decide ((at0 L k).flight < limit) && !cb.getD k false).map fun (k : Nat) => 2 * (k : Int) := by
  rw [pth_full, List.filter_map, List.map_map]
  refine congrArg (List.map _) (List.filter_congr fun k hk => ?_)
  have hk' : k < L.length := by simpa using hk
  simp only [Function.comp, agR, has_crow cb _ k hk']
theorem inc_pth (l : List Nat) (h : l.Pairwise (· < ·)) : Inc (l.map fun (k : Nat) => 2 * (k : Int)) := by
  intro i j hi hj hij
  rw [List.length_map] at hi hj
  have := List.pairwise_iff_getElem.1 h i j hi hj hij
  simp only [List.getElem_map]
  omega
theorem gots_no (L : List La) (cb : List Bool) (ago limit : Int) (h1 : ago < 3) (h2 : alv L cb L.length = true) : gots L cb ago limit L.length = [] := by
  unfold gots
  have : (List.range L.length).filter (isk L cb ago limit) = [] := by
    rw [List.filter_eq_nil_iff]
    intro k _
    have : ¬ 3 ≤ ago := by omega
    simp [isk, h2, this]
  rw [this]; rfl
theorem gots_all (L : List La) (cb : List Bool) (ago limit : Int) (h : ¬ (ago < 3 ∧ alv L cb L.length = true)) : gots L cb ago limit L.length = ((pth L L.length).filter (agR (crow cb L.length) limit)).map (·.path) := by
  rw [fpth]
  unfold gots
  refine congrArg (List.map _) (List.filter_congr fun k hk => ?_)
  have : (decide (3 ≤ ago) || !alv L cb L.length) = true := by
    by_cases h1 : ago < 3
    · have : alv L cb L.length = false := by
        cases hh : alv L cb L.length
        · rfl
        · exact absurd ⟨h1, hh⟩ h
      simp [this]
    · have : (3 : Int) ≤ ago := by omega
      simp [this]
  simp [isk, this]
theorem bcell {A : AHeap} {v : Value} {cb : List Bool} (h : ReadAt A 1 v cb.length (cb.map .bool)) {i : Nat} (hi : i < cb.length) : ∃ d o c bs ro opn, v = .slice (some ⟨d, o, none⟩) cb.length c ∧ A.get d = some (.cells bs ro opn) ∧ bs[o + i]? = some (.bool (cb.getD i false)) := by
  obtain ⟨d, o, c, bs, ro, opn, h1, h2, h3⟩ := h.cell hi
  refine ⟨d, o, c, bs, ro, opn, h1, h2, ?_⟩
  rw [h3]; simp [hi]
theorem app1 (A : AHeap) (wv : Value) (W : List Int) (x : Int) (h : SliceAt A 1 wv W.length (ints W)) (hn : W.length < 1000000) :
    ∃ a' c' A', appA (A.alloc (.cells [.int .i64 x] false 0)) 1 8 wv (.slice (some ⟨A.size, 0, none⟩) 1 1) = some (.slice a' (W.length + 1) c', A') ∧ SliceAt A' 1 (.slice a' (W.length + 1) c') (W ++ [x]).length (ints (W ++ [x])) ∧ Ext (Own wv) A A' ∧ ∀ j, Own (.slice a' (W.length + 1) c') j → Own wv j ∨ A.size ≤ j := by
  have e : Ext NoB A (A.alloc (.cells [.int .i64 x] false 0)) := Ext.alloc
  obtain ⟨v', A', k1, k2, k3, k4⟩ := (h.ext e fun _ _ q => q).append (x := .slice (some ⟨A.size, 0, none⟩) 1 1) (m := 1) (bytes := 8) (new := [.int .i64 x]) (by decide) rfl (by simp [firstA, rdCells, ENDCAP]) (by simp [oneCell]) rfl (by omega) (by decide) (by simp [isStr])
  obtain ⟨a', c', hv⟩ := k2.read.val
  subst hv
  refine ⟨a', c', A', k1, by simpa [ints] using k2, (e.mono fun _ _ q => q.elim).trans k3, fun j hj => ?_⟩
  rcases k4 j hj with q | q
  · exact .inl q
  · simp at q; exact .inr (by omega)
end Go.Proofs.Ytbhhmnokddkhmaa
