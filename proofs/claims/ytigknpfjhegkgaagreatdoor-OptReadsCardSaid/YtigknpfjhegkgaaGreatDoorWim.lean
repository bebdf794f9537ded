/- A text of this claim. -/
import Derived.Test.YtigknpfjhegkgaaGreatDoorWam
import Derived.Test.YtigknpfjhegkgaaGreatDoorNj
import Derived.Test.YtigknpfjhegkgaaGreatDoorRfm
import Derived.KernelRfl
namespace Go.Proofs.YtigknpfjhegkgaaGreatDoor
open Go Go.AS
set_option maxRecDepth 100000
set_option linter.unusedSimpArgs false
set_option linter.unusedVariables false
attribute [local irreducible] Trie.set Trie.get Env.rd
attribute [local simp ↓] wV_b2s
attribute [local simp] Nat.add_assoc wD_cons'' wD_nil' wC_seq wC_ops wC_opsD_nil wC_cond wC_skip wC_ret wC_exit wC_block wO_cons' wO_nil wantedA wV_eq lop qop ev wL_some wL_none wPut envOf rd_set rd_leaf eqA thenC blockC wB_true wB_false endF unwindA resultsA resA tupleA rdCell rdCells wrCells cl fillP lay rep bi_eql bi_neq bi_lss bi_leq bi_gtr bi_geq bi_add bi_sub bs_eql bs_neq bi_shr4 unA get_set' AHeap.get_alloc oneCell beqd bned idxA
attribute [local simp] Op.len Op.one Cap.ln Jn.len Ds.ln Ad.len Cap.one Jn.one Ds.one Ad.one Op.take Op.at0 Op.head? Op.getCap Op.tCap Op.getJn Op.getDs Op.getAd Op.getIds Op.getPrio Op.getFail Op.getFast Op.getRst Op.putCap Op.putJn Op.putDs Op.putAd Op.putSub Op.putIds Op.putPrio Op.putFail Op.putFast Op.putRf Op.putRr Op.layAll Op.zeroC Op.vb
def itC (l : List (Int × List UInt8)) : List Value := l.flatMap fun x => [.int .i64 x.1, .string ⟨⟨x.2⟩⟩]
theorem itC_len : ∀ l : List (Int × List UInt8), (itC l).length = l.length * 2
  | [] => rfl
  | x :: l => by
    have := itC_len l
    simp only [itC, List.flatMap_cons, List.length_append, List.length_cons, List.length_nil] at this ⊢
    omega
theorem itC_at : ∀ (l : List (Int × List UInt8)) (k : Nat) (h : k < l.length), ((itC l).drop (k * 2)).take 2 = [.int .i64 (l[k]).1, .string ⟨⟨(l[k]).2⟩⟩]
  | [], k, h => by simp at h
  | y :: l, 0, h => by simp [itC]
  | y :: l, k + 1, h => by
    have := itC_at l k (by simpa using h)
    rw [show (k + 1) * 2 = 2 + k * 2 by omega, ← List.drop_drop]
    simpa [itC] using this
def RdI (l : List (Int × List UInt8)) (A0 : AHeap) (m : Nat) (st : St) : Prop := ∃ j : Nat, j ≤ 6 ∧ m = 6 - j ∧ st.n = 99 ∧ st.dfs = [] ∧ (st.env.rd 75 = .agg ⟨itC l⟩ ∧ st.env.rd 76 = .int .i64 (j : Nat)) ∧ Ext NoB A0 st.A
theorem rdloop_ok (A0 A : AHeap) (q3 q5 q7 : Nat) (v9 : Value) (kx : Int) (x' la bent cut : List UInt8) (n0 n1 j : Nat) (hx' : x'.length ≤ 60) (hla : la.length ≤ 38) (hb : bent.length ≤ 38) (hc : cut.length ≤ 38) (hE : EH A0) (ex : Ext NoB A0 A)
    (f0 : A.get q3 = some (.cells [.int .i64 kx, .string ⟨⟨x'⟩⟩] false 0)) (f2 : A.get q5 = some (.cells [.int .u8 (n0 : Nat), .int .u8 (n1 : Nat)] false 0)) (f7 : A.get q7 = some (.cells [.int .i64 30, .string ⟨⟨la⟩⟩] false 0)) (hbs : b2s A v9 = some (.string ⟨⟨bent⟩⟩))
    (wn0 : IntKind.i64.wrap ((n0 : Nat) : Int) = (n0 : Nat)) (hrem : binA .rem (.int .i64 (n0 : Nat)) (.int .i64 (la.length : Nat)) = some (.int .i64 (j : Nat))) (hcut : sliceSA (.string ⟨⟨la⟩⟩) none (some (.int .i64 (j : Nat))) = some (.string ⟨⟨cut⟩⟩))
    (env : Env) (r3 : env.rd 3 = .pointer (some ⟨q3, 0, none⟩)) (r5 : env.rd 5 = .pointer (some ⟨q5, 0, none⟩)) (r7 : env.rd 7 = .pointer (some ⟨q7, 0, none⟩)) (r9 : env.rd 9 = v9) :
    wC T 3 none c3l { env := env, n := 99, dfs := [], A := A } (endF [.inl 6] (fun v _ => v = .bool true)) := by
  dsimp only [c3l]
  have h6 : [(kx, x'), (30, x'), (30, la), (30, bent), (30, cut), (kx, la)].length = 6 := rfl
  have hl : ∀ x ∈ [(kx, x'), (30, x'), (30, la), (30, bent), (30, cut), (kx, la)], x.2.length < 900000 := by
    intro x hx
    simp only [List.mem_cons, List.not_mem_nil, or_false] at hx
    rcases hx with rfl | rfl | rfl | rfl | rfl | rfl <;> simp only <;> omega
  have hfl : itC [(kx, x'), (30, x'), (30, la), (30, bent), (30, cut), (kx, la)] = [.int .i64 kx, .string ⟨⟨x'⟩⟩, .int .i64 30, .string ⟨⟨x'⟩⟩, .int .i64 30, .string ⟨⟨la⟩⟩, .int .i64 30, .string ⟨⟨bent⟩⟩, .int .i64 30, .string ⟨⟨cut⟩⟩, .int .i64 kx, .string ⟨⟨la⟩⟩] := rfl
  generalize [(kx, x'), (30, x'), (30, la), (30, bent), (30, cut), (kx, la)] = l at h6 hl hfl
  simp [r3, r5, r7, r9, f0, f2, f7, hbs, wn0, hrem, hcut]
  refine wC_loop_inv (RdI l A0) ?_ 6 _ ⟨0, by omega, rfl, rfl, rfl, ⟨by simp [hfl], by simp⟩, ex⟩
  rintro m ⟨env, nn, dfs, F⟩ ⟨k, hk, rfl, s1, s2, ⟨r75, r76⟩, ex⟩
  simp only at s1 s2 r75 r76 ex
  subst s1; subst s2
  by_cases c : k < 6
  · have fa := itC_at l k (by omega)
    have hx := hl l[k] (List.getElem_mem (by omega))
    generalize l[k] = x at fa hx
    obtain ⟨kd, b⟩ := x
    simp only at fa hx
    have kc : (k : Int) < 6 := by omega
    have hf : (itC l).length = 12 := by rw [itC_len, h6]
    have kl : k * 2 + 2 ≤ 12 := by omega
    have w1 : IntKind.i64.wrap ((k : Int) + 1) = ((k + 1 : Nat) : Int) := IntWalk.i64_in _ (by omega)
    simp [r75, r76, c, kc, hf, kl, fa]
    generalize hG : AHeap.set _ _ _ = G
    have g11 : G.get F.size = some (.cells [.int .i64 kd, .string ⟨⟨b⟩⟩] false 0) := by subst hG; simp
    have eG : Ext NoB A0 G := by subst hG; have := ex.size; (repeat first | exact Ext.refl | assumption | refine Ext.allocN ?_ | refine Ext.setN ?_ (by first | omega | (simp; done) | (simp; omega)))
    refine decode_ok G kd b (by omega) (hE.extN eG) _ fun H eH => ?_
    have h11 := eH.get g11 id
    have l11 := AHeap.get_lt h11
    have eGH := eG.trans eH
    have fin : ∀ (I : AHeap) (env' : Env), Ext NoB A0 I → env'.rd 75 = .agg ⟨itC l⟩ → env'.rd 76 = .int .i64 ((k + 1 : Nat) : Int) → ∃ m', m' < 6 - k ∧ RdI l A0 m' { env := env', n := 99, dfs := [], A := I } :=
      fun I env' ei q1 q2 => ⟨6 - (k + 1), by omega, k + 1, by omega, rfl, rfl, rfl, ⟨q1, q2⟩, ei⟩
    cases hd : Op.dec kd b with
    | ok x =>
      simp [resO, resD, h11, show F.size ≠ H.size by omega]
      generalize hI : AHeap.set _ _ _ = I
      have i11 : I.get F.size = some (.cells [.int .i64 kd, .string ⟨⟨b⟩⟩] false 0) := by subst hI; simp [h11, show F.size ≠ H.size by omega]
      have i12 : I.get H.size = some (.cells x.cells false 0) := by subst hI; simp
      have eI : Ext NoB A0 I := by subst hI; have := eGH.size; (repeat first | exact Ext.refl | assumption | refine Ext.allocN ?_ | refine Ext.setN ?_ (by first | omega | (simp; done) | (simp; omega)))
      refine rdecode_ok I kd b hx _ fun J eJ => ?_
      have j12 := eJ.get i12 id
      have l12 := AHeap.get_lt j12
      rw [hd]
      simp [resO, resD, j12, show H.size ≠ J.size by omega, eqOp, r76, w1]
      refine fin _ _ ?_ (by simp [r75]) (by simp)
      have := eI.trans eJ
      have := this.size
      (repeat first | exact Ext.refl | assumption | refine Ext.allocN ?_ | refine Ext.setN ?_ (by first | omega | (simp; done) | (simp; omega)))
    | error e =>
      simp [resO, resD, h11, show F.size ≠ H.size by omega]
      generalize hI : AHeap.set _ _ _ = I
      have i12 : I.get H.size = some (.cells Op.zero.cells false 0) := by subst hI; simp
      have eI : Ext NoB A0 I := by subst hI; have := eGH.size; (repeat first | exact Ext.refl | assumption | refine Ext.allocN ?_ | refine Ext.setN ?_ (by first | omega | (simp; done) | (simp; omega)))
      refine rdecode_ok I kd b hx _ fun J eJ => ?_
      have j12 := eJ.get i12 id
      have l12 := AHeap.get_lt j12
      rw [hd]
      simp [resO, resD, j12, show H.size ≠ J.size by omega, eqOp, r76, w1]
      refine fin _ _ ?_ (by simp [r75]) (by simp)
      have := eI.trans eJ
      have := this.size
      (repeat first | exact Ext.refl | assumption | refine Ext.allocN ?_ | refine Ext.setN ?_ (by first | omega | (simp; done) | (simp; omega)))
  · have kc : ¬ (k : Int) < 6 := by omega
    simp [r75, r76, c, kc]
    refine works_ok F _ (hE.extN ex) ?_
    simp
set_option maxHeartbeats 1000000 in
theorem reads_ok (A : AHeap) (kx : Int) (xb : List UInt8) (d : Dr) (n0 n1 : Nat) (hd : d.W) (ho : d.opt.W) (h0 : n0 < 256) (h1 : n1 < 256) (hE : EH A) : wF T (.func (.func 3) #[] #[]) [.agg ⟨[.int .i64 kx, .string ⟨⟨xb⟩⟩]⟩, .agg ⟨d.cells⟩, .agg ⟨[.int .u8 (n0 : Nat), .int .u8 (n1 : Nat)]⟩] A (fun v _ => v = .bool true) := by
  refine wF_func (first := []) (captured := []) t3 ⟨rfl, by decide⟩ ?_
  dsimp only [c3]
  have hl := d.len hd.bytes
  have ht := d.take hd.bytes
  have hmin := min60 xb
  have hsl : sliceSA (.string ⟨⟨xb⟩⟩) none (some (.int .i64 ((min xb.length 60 : Nat) : Int))) = some (.string ⟨⟨short60 xb⟩⟩) := sl_to xb .i64 _ (Nat.min_le_left _ _)
  have hs60 := short60_len xb
  generalize short60 xb = x' at hsl hs60
  generalize min xb.length 60 = kk at hmin hsl
  simp [hl, ht, hmin, hsl]
  generalize hB : AHeap.set _ _ _ = B
  have b0 : B.get A.size = some (.cells [.int .i64 kx, .string ⟨⟨x'⟩⟩] false 0) := by subst hB; simp
  have b1 : B.get (A.size + 1) = some (.cells d.cells false 0) := by subst hB; simp
  have b2 : B.get (A.size + 2) = some (.cells [.int .u8 (n0 : Nat), .int .u8 (n1 : Nat)] false 0) := by subst hB; simp
  have eB : Ext NoB A B := by subst hB; (repeat first | exact Ext.refl | assumption | refine Ext.allocN ?_ | refine Ext.setN ?_ (by first | omega | (simp; done) | (simp; omega)))
  refine dopt_ok _ d hd _ fun C eC => ?_
  have c0 := eC.get b0 id
  have c2 := eC.get b2 id
  simp
  refine rencode_ok C d.opt ho _ fun D eD => ?_
  have d0 := eD.get c0 id
  have d2 := eD.get c2 id
  have ld0 := AHeap.get_lt d0
  have ld2 := AHeap.get_lt d2
  have eeD := (eB.trans eC).trans eD
  obtain ⟨la, ha, ha1, ha2⟩ := Dr.enc hd
  rw [ha]
  have hne : ¬ (la.length : Int) = 0 := by omega
  have hnil : ¬ la = [] := by rintro rfl; simp at ha1
  have hrem : binA .rem (.int .i64 (n0 : Nat)) (.int .i64 (la.length : Nat)) = some (.int .i64 ((n0 % la.length : Nat) : Int)) := by
    simp only [binA, ne_eq, not_true_eq_false, if_false]
    rw [if_neg hne, tmodN]
  have hj : n0 % la.length < la.length := Nat.mod_lt _ (by omega)
  have hcut : sliceSA (.string ⟨⟨la⟩⟩) none (some (.int .i64 ((n0 % la.length : Nat) : Int))) = some (.string ⟨⟨la.take (n0 % la.length)⟩⟩) := sl_to la .i64 _ (Nat.le_of_lt hj)
  generalize n0 % la.length = j at hrem hj hcut
  have wn0 : IntKind.i64.wrap ((n0 : Nat) : Int) = (n0 : Nat) := IntWalk.i64_in _ (by omega)
  have hji : (j : Int) < (la.length : Int) := by omega
  have hcl : (la.take j).length ≤ 38 := by rw [List.length_take]; omega
  generalize la.take j = cut at hcut hcl
  simp [resI, itemV, hnil, hne, d2, wn0, hrem, hji, hj, show ¬ (A.size + 2 = D.size) by omega, show ¬ (A.size + 2 = D.size + 1) by omega, show ¬ (A.size + 1 = D.size) by omega, show j + 1 ≤ la.length by omega]
  generalize hF : AHeap.set (AHeap.alloc (AHeap.set _ _ _) _) (D.size + 1) _ = F
  have hn1 : (Value.int .u8 (n1 : Nat)) = byt (UInt8.ofNat n1) := by rw [byt, ofNat_toNat h1]
  have f9 : F.get (D.size + 1) = some (.cells (bcells (la.set j (UInt8.ofNat n1))) false 1) := by
    subst hF; simp [bcells, List.map_set, hn1]; rfl
  have f0 : F.get A.size = some (.cells [.int .i64 kx, .string ⟨⟨x'⟩⟩] false 0) := by subst hF; simp [d0, show A.size ≠ D.size by omega, show A.size ≠ D.size + 1 by omega]
  have f2 : F.get (A.size + 2) = some (.cells [.int .u8 (n0 : Nat), .int .u8 (n1 : Nat)] false 0) := by subst hF; simp [d2, show A.size + 2 ≠ D.size by omega, show A.size + 1 ≠ D.size by omega]
  have f7 : F.get D.size = some (.cells [.int .i64 30, .string ⟨⟨la⟩⟩] false 0) := by subst hF; simp
  have eF : Ext NoB A F := by subst hF; have := eeD.size; (repeat first | exact Ext.refl | assumption | refine Ext.allocN ?_ | refine Ext.setN ?_ (by first | omega | (simp; done) | (simp; omega)))
  have hlen : (la.set j (UInt8.ofNat n1)).length = la.length := by simp
  have hbs : b2s F (.slice (some ⟨D.size + 1, 0, none⟩) la.length OPEN) = some (.string ⟨⟨la.set j (UInt8.ofNat n1)⟩⟩) := by
    have := b2s_ok (A := F) (v := .slice (some ⟨D.size + 1, 0, none⟩) (la.set j (UInt8.ofNat n1)).length OPEN) (l := la.set j (UInt8.ofNat n1)) (.inr (.inl ⟨D.size + 1, 0, OPEN, _, false, 1, rfl, f9, by simp [bcells], by rw [List.drop_zero, Nat.mul_one, List.take_of_length_le (by simp [bcells])], fun z => absurd z (by decide)⟩))
    rwa [hlen] at this
  have hb2 : (la.set j (UInt8.ofNat n1)).length ≤ 38 := by rw [hlen]; exact ha2
  generalize la.set j (UInt8.ofNat n1) = bent at hbs hb2
  exact rdloop_ok A F A.size (A.size + 2) D.size _ kx x' la bent cut n0 n1 j hs60 ha2 hb2 hcl hE eF f0 f2 f7 hbs wn0 hrem hcut _ (by simp) (by simp) (by simp) (by simp)
end Go.Proofs.YtigknpfjhegkgaaGreatDoor
