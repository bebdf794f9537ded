/- What a text is walked through as; the contract of walk of stage 4. -/
import Derived.Test.YtkojapepiojnjaaQd
import Derived.KernelRfl
namespace Go.Proofs.Ytkojapepiojnjaa
open Go Go.AS
set_option maxRecDepth 100000
set_option linter.unusedSimpArgs false
set_option linter.unusedVariables false
attribute [local irreducible] Trie.set Trie.get Env.rd
attribute [local simp] Nat.add_assoc wD_cons'' wD_nil' wC_seq wC_ops wC_opsD_nil wC_cond wC_skip wC_ret wC_exit wC_block wO_cons' wO_nil wantedA wV_eq lop qop ev wL_some wL_none wPut envOf rd_set rd_leaf eqA thenC blockC wB_true wB_false endF unwindA resultsA resA tupleA rdCell rdCells wrCells cl fillP lay rep binA unA get_set' AHeap.get_alloc oneCell

theorem sliceS_mid (s : ByteArray) (k1 k2 : IntKind) (i j : Nat) (hij : i ≤ j) (hj : j ≤ s.size) : sliceSA (.string s) (some (.int k1 (i : Int))) (some (.int k2 (j : Int))) = some (.string ⟨⟨(s.data.toList.drop i).take (j - i)⟩⟩) := by
  have h1 : bnd (.int k2 (j : Int)) s.size = some j := bnd_nat k2 j s.size hj
  have h2 : bnd (.int k1 (i : Int)) j = some i := bnd_nat k1 i j hij
  unfold sliceSA
  delta bndsA
  simp [h1, h2]

/-- What stands in a text: its items up to its end or what is wrong, and what is wrong. -/
def walkL : List UInt8 → List It × Int
  | [] => ([], 0)
  | k :: r =>
    if k = 0 then ([], 0) else if k = 1 then walkL r else
    match r with
    | [] => ([], 4)
    | n :: r' => if n.toNat < 2 then ([], 5) else if r'.length + 2 < n.toNat then ([], 4) else
      ((⟨(k.toNat : Int), ⟨⟨r'.take (n.toNat - 2)⟩⟩⟩ : It) :: (walkL (r'.drop (n.toNat - 2))).1, (walkL (r'.drop (n.toNat - 2))).2)
termination_by l => l.length
decreasing_by all_goals (simp only [List.length_cons, List.length_drop]; omega)

theorem walkL_nil : walkL [] = ([], 0) := by rw [walkL.eq_def]
theorem walkL_zero (r : List UInt8) : walkL (0 :: r) = ([], 0) := by rw [walkL.eq_def]; simp
theorem walkL_one (r : List UInt8) : walkL (1 :: r) = walkL r := by rw [walkL.eq_def]; simp
theorem walkL_short (k : UInt8) (h0 : k ≠ 0) (h1 : k ≠ 1) : walkL [k] = ([], 4) := by rw [walkL.eq_def]; simp [h0, h1]
theorem walkL_form (k n : UInt8) (r : List UInt8) (h0 : k ≠ 0) (h1 : k ≠ 1) (hn : n.toNat < 2) : walkL (k :: n :: r) = ([], 5) := by rw [walkL.eq_def]; simp [h0, h1, hn]
theorem walkL_long (k n : UInt8) (r : List UInt8) (h0 : k ≠ 0) (h1 : k ≠ 1) (hn : ¬ n.toNat < 2) (hl : r.length + 2 < n.toNat) : walkL (k :: n :: r) = ([], 4) := by rw [walkL.eq_def]; simp [h0, h1, hn, hl]
theorem walkL_item (k n : UInt8) (r : List UInt8) (h0 : k ≠ 0) (h1 : k ≠ 1) (hn : ¬ n.toNat < 2) (hl : ¬ r.length + 2 < n.toNat) : walkL (k :: n :: r) = ((⟨(k.toNat : Int), ⟨⟨r.take (n.toNat - 2)⟩⟩⟩ : It) :: (walkL (r.drop (n.toNat - 2))).1, (walkL (r.drop (n.toNat - 2))).2) := by rw [walkL.eq_def]; simp [h0, h1, hn, hl]

/-- Walk's answer. -/
def walkR (s : List UInt8) : List It × Int := if 40 < s.length then ([], 6) else if s.length % 4 ≠ 0 then ([], 5) else if (walkL s).2 = 0 then walkL s else ([], (walkL s).2)

def c13a : ACode := (.ops [⟨some 4, none, .alloc 51 [.int .i64 (0), .int .i64 (0), .string ⟨⟨[]⟩⟩]⟩,
         ⟨none, none, .store 3 (.tmp 4) (.tmp 17)⟩])
def c13b : ACode := (.block 2
        (.seq
         (.seq
          (.ops [⟨some 18, none, .faddr 0 (.tmp 4)⟩,
            ⟨some 19, none, .load1 (.tmp 18)⟩,
            ⟨some 20, none, .faddr 1 (.tmp 4)⟩,
            ⟨some 21, none, .load1 (.tmp 20)⟩,
            ⟨some 22, none, .build [.int .i64 (0), .int .i64 (0), .string ⟨⟨[]⟩⟩] [(0, 1, (.tmp 19)), (1, 1, (.tmp 21)), (2, 1, (.const (.string ⟨⟨[]⟩⟩)))]⟩,
            ⟨some 5, none, .alloc 51 [.int .i64 (0), .int .i64 (0), .string ⟨⟨[]⟩⟩]⟩,
            ⟨none, none, .store 3 (.tmp 5) (.tmp 22)⟩])
          (.seq
           (.ops [⟨some 23, none, .loadN 3 (.tmp 4)⟩,
             ⟨some 24, none, .loadN 3 (.tmp 5)⟩,
             ⟨some 25, none, .eqF false [(0, .i), (1, .i), (2, .s)] (.tmp 23) (.tmp 24)⟩,
             ⟨some 26, none, .mov (.tmp 25)⟩,
             ⟨some 27, some (26, true), .faddr 1 (.tmp 4)⟩,
             ⟨some 28, some (26, true), .load1 (.tmp 27)⟩,
             ⟨some 29, some (26, true), .bin .neq (.tmp 28) (.const (.int .i64 (0)))⟩,
             ⟨some 30, none, .pick (.tmp 26) (.tmp 29) (.const (.bool false))⟩])
           (.cond (.tmp 30)
            (.seq
             (.opsD [⟨some 31, none, .faddr 1 (.tmp 4)⟩,
               ⟨some 32, none, .load1 (.tmp 31)⟩,
               ⟨none, none, .store 1 (.tmp 2) (.const (.slice none 0 0))⟩,
               ⟨none, none, .store 1 (.tmp 3) (.tmp 32)⟩] [(1, 2), (1, 3)])
             .ret)
            .skip)))
         (.ops [⟨some 33, none, .load1 (.tmp 2)⟩,
           ⟨some 34, none, .faddr 0 (.tmp 4)⟩,
           ⟨some 35, none, .load1 (.tmp 34)⟩,
           ⟨some 36, none, .faddr 2 (.tmp 4)⟩,
           ⟨some 37, none, .load1 (.tmp 36)⟩,
           ⟨some 38, none, .build [.int .i64 (0), .string ⟨⟨[]⟩⟩] [(0, 1, (.tmp 35)), (1, 1, (.tmp 37))]⟩,
           ⟨some 39, none, .bslice 24 1 [.int .i64 (0), .string ⟨⟨[]⟩⟩] [(0, 2, (.tmp 38))]⟩,
           ⟨some 40, none, .append 24 2 24 (.tmp 33) (.tmp 39)⟩,
           ⟨none, none, .store 1 (.tmp 2) (.tmp 40)⟩])))

theorem yield_ok (l t u d : Nat) (e : Env) (lv : Value) (its : List It) (k : Int) (x : ByteArray) (A : AHeap) (Q : Value → AHeap → Prop) (hl : A.get l = some (.loop .ready none 13 42 e [17] c13a c13b d)) (he : e.rd 2 = .pointer (some ⟨t, 0, none⟩)) (ht : A.get t = some (.cells [lv] false 0)) (hs : SliceAt A 2 lv its.length (icells its)) (hk : its.length < 1000) (hlt : l ≠ t) (hol : ¬ Own lv l) (hot : ¬ Own lv t)
    (hq : ∀ A' lv', A'.get l = some (.loop .ready none 13 42 e [17] c13a c13b d) → A'.get t = some (.cells [lv'] false 0) → SliceAt A' 2 lv' (its ++ [(⟨k, x⟩ : It)]).length (icells (its ++ [(⟨k, x⟩ : It)])) → Ext (fun j => j = t ∨ j = l ∨ Own lv j) A A' → (∀ j, Own lv' j → Own lv j ∨ A.size ≤ j) → Q (.bool true) A') :
    wF T (.func (.yield l) #[] #[]) [.agg ⟨[.int .i64 k, .int .i64 0, .string x]⟩] A Q := by
  have b1 := AHeap.get_lt hl
  have b2 := AHeap.get_lt ht
  have n1 : l ≠ A.size := by omega
  have n2 : t ≠ A.size := by omega
  have n3 : l ≠ A.size + 1 := by omega
  have n4 : t ≠ A.size + 1 := by omega
  have n5 : l < A.size + 1 := by omega
  obtain ⟨al, cl', hv⟩ := hs.read.val
  subst hv
  refine wF_yield hl rfl (by decide) ?_
  dsimp only [c13a, c13b]
  cases hx : x.data.isEmpty
  all_goals
    simp [midY, hl, b1, n1, n1.symm, n5, he, ht, n2, n2.symm, n3, n3.symm, n4, n4.symm, hlt, hlt.symm, eqL, leafEq, hx]
    generalize hH : AHeap.set (AHeap.alloc (AHeap.set (AHeap.set (AHeap.alloc A _) A.size _) l _) _) (A.size + 1) _ = H
    have zH : H.size = A.size + 2 := by rw [← hH]; rfl
    have eH : Ext (fun j => j = l) A H := ⟨by omega, fun j hj hs => by rw [← hH]; simp [show j ≠ A.size by omega, show j ≠ A.size + 1 by omega, show ¬ j = l from hs]⟩
    have gl : H.get l = some (.loop .busy none 13 42 e [17] c13a c13b d) := by rw [← hH]; simp [n3, n5, c13a, c13b]
    have gt := eH.get ht hlt.symm
    obtain ⟨a2, c2, A2, s2, t2, u2, v2⟩ := appI H (H.alloc (.cells [.int .i64 k, .string x] false 0)) _ (.slice (some ⟨A.size + 2, 0, none⟩) 1 1) its ⟨k, x⟩ (hs.ext eH fun j hj q => hol (q ▸ hj)) Ext.alloc rfl (by simp [firstA, rdCells, ENDCAP, zH]) (by omega)
    have gl2 := u2.get gl hol
    have gt2 := u2.get gt hot
    have z2 := u2.size
    have z3 : l < A2.size := by omega
    have z4 : t < A2.size := by omega
    simp [s2, gl2, gt2, z3, z4, he, hlt, hlt.symm, endY, jumpOf]
    have o1 : ¬ Own (.slice a2 (its.length + 1) c2) t := fun q => by rcases v2 t q with q | q; exact hot q; omega
    have o2 : ¬ Own (.slice a2 (its.length + 1) c2) l := fun q => by rcases v2 l q with q | q; exact hol q; omega
    have f : Ext (fun j => j = t ∨ j = l) A2 ((A2.set t (.cells [.slice a2 (its.length + 1) c2] false 0)).set l (.loop .ready none 13 42 e [17] c13a c13b d)) := (Ext.set (.inl rfl)).trans (Ext.set (.inr rfl))
    refine hq _ (.slice a2 (its.length + 1) c2) (by simp [z3, hlt]) (by simp [z4, hlt.symm]) (SliceAt.ext t2 f fun j hj q => ?_) (((eH.mono fun _ _ q => .inr (.inl q)).trans (u2.mono fun _ _ q => .inr (.inr q))).trans (f.mono fun _ _ q => q.imp id .inl)) fun j hj => (v2 j hj).imp id fun q => by omega
    rcases q with q | q
    · exact o1 (q ▸ hj)
    · exact o2 (q ▸ hj)

/-- The yield of what is wrong. -/
theorem yield_bad (l t u d : Nat) (e : Env) (lv ev : Value) (k code : Int) (A : AHeap) (Q : Value → AHeap → Prop) (hl : A.get l = some (.loop .ready none 13 42 e [17] c13a c13b d)) (he : e.rd 2 = .pointer (some ⟨t, 0, none⟩)) (hu : e.rd 3 = .pointer (some ⟨u, 0, none⟩)) (ht : A.get t = some (.cells [lv] false 0)) (hu2 : A.get u = some (.cells [ev] false 0)) (hc : ¬ code = 0) (hlt : l ≠ t) (hlu : l ≠ u) (htu : t ≠ u)
    (hq : ∀ A', A'.get l = some (.loop .done (some .ret) 13 42 e [17] c13a c13b d) → A'.get t = some (.cells [.slice none 0 0] false 0) → A'.get u = some (.cells [.int .i64 code] false 0) → Ext (fun j => j = t ∨ j = l ∨ j = u) A A' → Q (.bool false) A') :
    wF T (.func (.yield l) #[] #[]) [.agg ⟨[.int .i64 k, .int .i64 code, .string ⟨⟨[]⟩⟩]⟩] A Q := by
  have b1 := AHeap.get_lt hl
  have b2 := AHeap.get_lt ht
  have b3 := AHeap.get_lt hu2
  have n1 : l ≠ A.size := by omega
  have n2 : t ≠ A.size := by omega
  have n3 : l ≠ A.size + 1 := by omega
  have n4 : t ≠ A.size + 1 := by omega
  have n5 : l < A.size + 1 := by omega
  have n6 : u ≠ A.size := by omega
  have n7 : u ≠ A.size + 1 := by omega
  have hc' : (code != 0) = true := by simp [hc]
  refine wF_yield hl rfl (by decide) ?_
  dsimp only [c13a, c13b]
  simp [midY, hl, b1, n1, n1.symm, n5, he, hu, ht, hu2, n2, n2.symm, n3, n3.symm, n4, n4.symm, n6, n7, n6.symm, n7.symm, hlt, hlt.symm, eqL, leafEq, hc']
  generalize hH : AHeap.set (AHeap.alloc (AHeap.set (AHeap.set (AHeap.alloc A _) A.size _) l _) _) (A.size + 1) _ = H
  have zH : H.size = A.size + 2 := by rw [← hH]; rfl
  have eH : Ext (fun j => j = l) A H := ⟨by omega, fun j hj hs => by rw [← hH]; simp [show j ≠ A.size by omega, show j ≠ A.size + 1 by omega, show ¬ j = l from hs]⟩
  have gl : H.get l = some (.loop .busy none 13 42 e [17] c13a c13b d) := by rw [← hH]; simp [n3, n5, c13a, c13b]
  have gx : H.get A.size = some (.cells [.int .i64 k, .int .i64 code, .string ⟨⟨[]⟩⟩] false 0) := by rw [← hH]; simp [n1.symm]
  have gt := eH.get ht hlt.symm
  have gu := eH.get hu2 hlu.symm
  have z1 : l < H.size := by omega
  have z2 : t < H.size := by omega
  have z3 : u < H.size := by omega
  refine wC_opsD_chk ?_
  simp [he, hu, gl, gt, gu, gx, z1, z2, z3, n1.symm, n2.symm, n6.symm, hlt, hlt.symm, hlu, hlu.symm, htu, htu.symm]
  refine wE_intro ?_ ?_
  · simp only [List.all_cons, List.all_nil, chkOk, List.nil_append, List.cons_append, List.getElem?_cons_succ, List.getElem?_cons_zero]
    simp [Bx, gx, vbeq, z2, z3, n2.symm, n6.symm, htu]
  · simp [he, hu, gl, gt, gu, gx, z1, z2, z3, n1.symm, n2.symm, n6.symm, hlt, hlt.symm, hlu, hlu.symm, htu, htu.symm, endY, jumpOf]
    refine hq _ (by simp [z1]) (by simp [z2, hlt.symm, htu]) (by simp [z3, hlu.symm]) ⟨by simp; omega, fun j hj hs => ?_⟩
    have s1 : ¬ j = t := fun q => hs (.inl q)
    have s2 : ¬ j = l := fun q => hs (.inr (.inl q))
    have s3 : ¬ j = u := fun q => hs (.inr (.inr q))
    simp [s1, s2, s3]
    exact eH.keep j hj s2
end Go.Proofs.Ytkojapepiojnjaa
