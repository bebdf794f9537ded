/- What the law of canons answers: one text. -/
import Derived.Test.YtigknpfjhegkgaaGreatDoorWa
import Derived.Test.YtigknpfjhegkgaaGreatDoorVl
import Derived.Test.YtigknpfjhegkgaaGreatDoorKg
import Derived.KernelRfl
namespace Go.Proofs.YtigknpfjhegkgaaGreatDoor
open Go Go.AS
set_option maxRecDepth 100000
set_option linter.unusedSimpArgs false
set_option linter.unusedVariables false
attribute [local irreducible] Trie.set Trie.get Env.rd
attribute [local simp ↓] wV_b2s
attribute [local simp] Nat.add_assoc wD_cons'' wD_nil' wC_seq wC_ops wC_opsD_nil wC_cond wC_skip wC_ret wC_exit wC_block wO_cons' wO_nil wantedA wV_eq lop qop ev wL_some wL_none wPut envOf rd_set rd_leaf eqA thenC blockC wB_true wB_false endF unwindA resultsA resA tupleA rdCell rdCells wrCells cl fillP lay rep bi_eql bi_neq bi_lss bi_leq bi_gtr bi_geq bi_add bi_sub bs_eql bs_neq bi_shr4 unA get_set' AHeap.get_alloc oneCell beqd bned idxA
attribute [local simp] Op.len Op.one Cap.ln Jn.len Ds.ln Ad.len Cap.one Jn.one Ds.one Ad.one Op.take Op.at0 Op.head? Op.getCap Op.tCap Op.getJn Op.getDs Op.getAd Op.getIds Op.getPrio Op.getFail Op.getFast Op.getRst Op.putCap Op.putJn Op.putDs Op.putAd Op.putSub Op.putIds Op.putPrio Op.putFail Op.putFast Op.putRf Op.putRr Op.layAll Op.zeroC Op.vb
theorem bv8 (b : UInt8) : BitVec.ofInt 8 (b.toNat : Int) = b.toBitVec := by
  apply BitVec.eq_of_toNat_eq
  rw [BitVec.ofInt_natCast, BitVec.toNat_ofNat]
  exact Nat.mod_eq_of_lt b.toNat_lt
theorem bandnot (b c : UInt8) (h : b &&& ~~~c = 0) : binA .andNot (.int .u8 (b.toNat : Nat)) (.int .u8 (c.toNat : Nat)) = some (.int .u8 0) := by
  simp only [binA, ne_eq, not_true_eq_false, if_false]
  show some (Value.int .u8 (IntKind.u8.wrap ((BitVec.ofInt 8 (b.toNat : Int) &&& ~~~ BitVec.ofInt 8 (c.toNat : Int)).toNat : Nat))) = _
  rw [bv8, bv8]
  have := congrArg UInt8.toBitVec h
  rw [UInt8.toBitVec_and, UInt8.toBitVec_not] at this
  rw [this]; rfl
def BitI (q : Nat) (x t : List UInt8) (w : Value) (j : Int) (A : AHeap) (m : Nat) (st : St) : Prop := ∃ i : Nat, i ≤ t.length ∧ m = t.length - i ∧ st.n = 130 ∧ st.dfs = [] ∧ st.A = A ∧
  (st.env.rd 11 = .string ⟨⟨t⟩⟩ ∧ st.env.rd 14 = .pointer (some ⟨q, 0, none⟩) ∧ st.env.rd 18 = .int .i64 (i : Nat) ∧ st.env.rd 58 = w ∧ st.env.rd 59 = .int .i64 j)
theorem cbits_ok (A : AHeap) (q : Nat) (k : Int) (x t : List UInt8) (w : Value) (j : Int) (hs : subB x t) (ht : t.length < 1000) (g : A.get q = some (.cells [.int .i64 k, .string ⟨⟨x⟩⟩] false 0)) (env : Env) (r11 : env.rd 11 = .string ⟨⟨t⟩⟩) (r14 : env.rd 14 = .pointer (some ⟨q, 0, none⟩)) (r58 : env.rd 58 = w) (r59 : env.rd 59 = .int .i64 j) (K : AExit → St → Prop)
    (hK : ∀ env', env'.rd 58 = w → env'.rd 59 = .int .i64 j → K .normal { env := env', n := 130, dfs := [], A := A }) : wC T 7 none c7c { env := env, n := 130, dfs := [], A := A } K := by
  dsimp only [c7c]
  simp
  refine wC_loop_inv (BitI q x t w j A) ?_ t.length _ ⟨0, by omega, rfl, rfl, rfl, rfl, by simp [r11], by simp [r14], by simp, by simp [r58], by simp [r59]⟩
  rintro m ⟨env, nn, dfs, B⟩ ⟨i, hi, rfl, s1, s2, s3, r11, r14, r18, r58, r59⟩
  simp only at s1 s2 s3 r11 r14 r18 r58 r59
  subst s1; subst s2; subst s3
  by_cases c : i < t.length
  · have hx : i < x.length := by rw [hs.1]; exact c
    have e1 : x[i]? = some x[i] := List.getElem?_eq_getElem hx
    have e2 : t[i]? = some t[i] := List.getElem?_eq_getElem c
    have hb := bandnot x[i] t[i] (hs.2 i _ _ e1 e2)
    have w1 : IntKind.i64.wrap ((i : Int) + 1) = ((i + 1 : Nat) : Int) := IntWalk.i64_in _ (by omega)
    have ci : (i : Int) < (t.length : Int) := by omega
    simp [r11, r14, r18, g, e1, e2, hb, c]
    exact ⟨t.length - (i + 1), by omega, i + 1, by omega, rfl, rfl, rfl, rfl, by simp [r11], by simp [r14], by simpa using w1, by simp [r58], by simp [r59]⟩
  · simp [r11, r14, r18, c]
    exact hK _ (by simp [r58]) (by simp [r59])
theorem cbody_ok (A0 A : AHeap) (t : List UInt8) (ht : t.length < 1000) (w : List Value) (hw : w.length = 2) (j : Nat) (hj : w[j]? = some (.string ⟨⟨t⟩⟩)) (hE : EH A) (ex : Ext NoB A0 A) (env : Env) (r58 : env.rd 58 = .agg ⟨w⟩) (r59 : env.rd 59 = .int .i64 (j : Nat)) (K : AExit → St → Prop)
    (hK : ∀ env' A' x, x = .normal ∨ x = .exit 1 → env'.rd 58 = .agg ⟨w⟩ → env'.rd 59 = .int .i64 (j : Nat) → Ext NoB A0 A' → K x { env := env', n := 130, dfs := [], A := A' }) : wC T 7 none c7b { env := env, n := 130, dfs := [], A := A } K := by
  dsimp only [c7b]
  have hj2 : j < 2 := by rw [← hw]; exact (List.getElem?_eq_some_iff.1 hj).1
  have hj3 : (j : Int) < 2 := by omega
  have hj4 : ∀ h : j < w.length, w[j]'h = .string ⟨⟨t⟩⟩ := fun h => Option.some.inj ((List.getElem?_eq_getElem h).symm.trans hj)
  simp [r58, r59, hj, hj2, hj3, hj4, hw]
  refine decode_ok A 30 t (by omega) hE _ fun B eB => ?_
  have eeB := ex.trans eB
  cases hd : Op.dec 30 t with
  | error e =>
    have he := op_err hd
    simp [resO, resD, he, eqOp]
    refine may_ok _ Op.zero Op.zw _ fun C eC => ?_
    simp
    refine may_ok _ Op.zero Op.zw _ fun D eD => ?_
    simp
    refine hK _ _ _ (.inr rfl) (by simp [r58]) (by simp [r59]) ?_
    have : Ext NoB A0 ((B.alloc (ABlk.cells Op.zero.cells false 0)).set B.size (ABlk.cells Op.zero.cells false 0)) := by have := eeB.size; (repeat first | exact Ext.refl | assumption | refine Ext.allocN ?_ | refine Ext.setN ?_ (by first | omega | (simp; done) | (simp; omega)))
    exact (this.trans eC).trans eD
  | ok x =>
    obtain ⟨hxw, l, hl, hsub⟩ := Op.canon hd ht
    simp [resO, resD]
    generalize hC : AHeap.set _ _ _ = C
    have c12 : C.get B.size = some (.cells x.cells false 0) := by subst hC; simp
    have eC : Ext NoB A0 C := by subst hC; have := eeB.size; (repeat first | exact Ext.refl | assumption | refine Ext.allocN ?_ | refine Ext.setN ?_ (by first | omega | (simp; done) | (simp; omega)))
    refine encode_ok C x hxw _ fun D eD => ?_
    have d12 := eD.get c12 id
    have l12 := AHeap.get_lt d12
    rw [hl]
    simp [resI, itemV]
    generalize hF : AHeap.set _ _ _ = F
    have f12 : F.get B.size = some (.cells x.cells false 0) := by subst hF; simp [d12, show B.size ≠ D.size by omega]
    have f14 : F.get D.size = some (.cells [.int .i64 30, .string ⟨⟨l⟩⟩] false 0) := by subst hF; simp
    have eF : Ext NoB A0 F := by subst hF; have := eC.trans eD; have := this.size; (repeat first | exact Ext.refl | assumption | refine Ext.allocN ?_ | refine Ext.setN ?_ (by first | omega | (simp; done) | (simp; omega)))
    have eAF : Ext NoB A F := by
      have h1 : Ext NoB A C := by subst hC; have := eB.size; (repeat first | exact Ext.refl | assumption | refine Ext.allocN ?_ | refine Ext.setN ?_ (by first | omega | (simp; done) | (simp; omega)))
      have h2 := h1.trans eD
      subst hF; have := h2.size; (repeat first | exact Ext.refl | assumption | refine Ext.allocN ?_ | refine Ext.setN ?_ (by first | omega | (simp; done) | (simp; omega)))
    have hll : l.length < 1000000 := by rw [hsub.1]; omega
    refine decode_ok F 30 l hll (hE.extN eAF) _ fun G eG => ?_
    have g12 := eG.get f12 id
    have g14 := eG.get f14 id
    have l14 := AHeap.get_lt g14
    rw [Op.rt hxw hl]
    simp [resO, resD, g12, show B.size ≠ G.size by omega]
    generalize hH : AHeap.set _ _ _ = H
    have h12 : H.get B.size = some (.cells x.cells false 0) := by subst hH; simp [g12, show B.size ≠ G.size by omega]
    have h14 : H.get D.size = some (.cells [.int .i64 30, .string ⟨⟨l⟩⟩] false 0) := by subst hH; simp [g14, show D.size ≠ G.size by omega]
    have h16 : H.get G.size = some (.cells x.cells false 0) := by subst hH; simp
    have eH : Ext NoB A0 H := by subst hH; have := eF.trans eG; have := this.size; (repeat first | exact Ext.refl | assumption | refine Ext.allocN ?_ | refine Ext.setN ?_ (by first | omega | (simp; done) | (simp; omega)))
    refine may_ok H x hxw _ fun I eI => ?_
    have i12 := eI.get h12 id
    have i14 := eI.get h14 id
    have i16 := eI.get h16 id
    rw [hl]
    simp [i12, i14, i16, eqOp, hsub.1]
    refine cbits_ok I D.size 30 l t (.agg ⟨w⟩) j hsub ht i14 _ (by simp) (by simp) (by simp [r58]) (by simp [r59]) _ fun env' q1 q2 => ?_
    exact hK _ _ _ (.inl rfl) q1 q2 (eH.trans eI)
theorem min60' (l : List UInt8) : foldV minV (.int .i64 ((l.length : Nat) : Int)) [.int .i64 60] = some (.int .i64 ((min l.length 60 : Nat) : Int)) := min60 l
def CanI (w : List Value) (A0 : AHeap) (m : Nat) (st : St) : Prop := ∃ j : Nat, j ≤ 2 ∧ m = 2 - j ∧ st.n = 130 ∧ st.dfs = [] ∧ (st.env.rd 58 = .agg ⟨w⟩ ∧ st.env.rd 59 = .int .i64 (j : Nat)) ∧ Ext NoB A0 st.A
/-- One byte with some bits turned. -/
theorem bxor (a b : Nat) : ∃ c : UInt8, binA .xor (.int .u8 (a : Nat)) (.int .u8 (b : Nat)) = some (.int .u8 (c.toNat : Nat)) := by
  refine ⟨UInt8.ofBitVec (BitVec.ofInt 8 (a : Int) ^^^ BitVec.ofInt 8 (b : Int)), ?_⟩
  simp only [binA, ne_eq, not_true_eq_false, if_false]
  have : (BitVec.ofInt IntKind.u8.bits (a : Int) ^^^ BitVec.ofInt IntKind.u8.bits (b : Int)).toNat < 256 := (BitVec.ofInt IntKind.u8.bits (a : Int) ^^^ BitVec.ofInt IntKind.u8.bits (b : Int)).isLt
  rw [IntWalk.u8_in _ (by omega)]
  rfl
set_option maxHeartbeats 1000000 in
theorem canon_ok (A : AHeap) (s : List UInt8) (d : Dr) (n0 n1 : Nat) (hd : d.W) (ho : d.opt.W) (h0 : n0 < 256) (hE : EH A) : wF T (.func (.func 7) #[] #[]) [.string ⟨⟨s⟩⟩, .agg ⟨d.cells⟩, .agg ⟨[.int .u8 (n0 : Nat), .int .u8 (n1 : Nat)]⟩] A (fun v _ => v = .bool true) := by
  refine wF_func (first := []) (captured := []) t7 ⟨rfl, by decide⟩ ?_
  dsimp only [c7]
  have hl := d.len hd.bytes
  have ht := d.take hd.bytes
  simp [hl]
  generalize hB : AHeap.alloc _ _ = B
  have b0 : B.get A.size = some (.cells d.cells false 0) := by subst hB; simp
  have b1 : B.get (A.size + 1) = some (.cells [.int .u8 (n0 : Nat), .int .u8 (n1 : Nat)] false 0) := by subst hB; simp
  have eB : Ext NoB A B := by subst hB; (repeat first | exact Ext.refl | assumption | refine Ext.allocN ?_ | refine Ext.setN ?_ (by first | omega | (simp; done) | (simp; omega)))
  refine works_ok B _ (hE.extN eB) ?_
  simp [b0, hl, ht]
  refine dopt_ok _ d hd _ fun C eC => ?_
  have c1 := eC.get b1 id
  simp
  refine encode_ok C d.opt ho _ fun D eD => ?_
  have d1 := eD.get c1 id
  have ld1 := AHeap.get_lt d1
  obtain ⟨la, ha, ha1, ha2⟩ := Dr.enc hd
  rw [ha]
  have hne : ¬ (la.length : Int) = 0 := by omega
  have eeD := (eB.trans eC).trans eD
  have hrem : binA .rem (.int .i64 (n0 : Nat)) (.int .i64 (la.length : Nat)) = some (.int .i64 ((n0 % la.length : Nat) : Int)) := by
    simp only [binA, ne_eq, not_true_eq_false, if_false]
    rw [if_neg hne, tmodN]
  have hj : n0 % la.length < la.length := Nat.mod_lt _ (by omega)
  generalize n0 % la.length = j at hrem hj
  have wn0 : IntKind.i64.wrap ((n0 : Nat) : Int) = (n0 : Nat) := IntWalk.i64_in _ (by omega)
  have hji : (j : Int) < (la.length : Int) := by omega
  obtain ⟨c, hx⟩ := bxor la[j].toNat n1
  have hla : la[j]? = some la[j] := List.getElem?_eq_getElem hj
  have hnil : ¬ la = [] := by rintro rfl; simp at ha1
  simp [resI, itemV, hnil, hne, d1, wn0, hrem, hji, show ¬ (A.size + 1 = D.size) by omega, show ¬ (A.size = D.size) by omega, hj, hx, hla]
  generalize hF : AHeap.set (AHeap.alloc (AHeap.set _ _ _) _) (D.size + 1) _ = F
  have f9 : F.get (D.size + 1) = some (.cells (bcells (la.set j c)) false 1) := by
    subst hF; simp [bcells, List.map_set]; rfl
  have eF : Ext NoB A F := by subst hF; have := eeD.size; (repeat first | exact Ext.refl | assumption | refine Ext.allocN ?_ | refine Ext.setN ?_ (by first | omega | (simp; done) | (simp; omega)))
  have hlen : (la.set j c).length = la.length := by simp
  have hbs : b2s F (.slice (some ⟨D.size + 1, 0, none⟩) la.length OPEN) = some (.string ⟨⟨la.set j c⟩⟩) := by
    have := b2s_ok (A := F) (v := .slice (some ⟨D.size + 1, 0, none⟩) (la.set j c).length OPEN) (l := la.set j c) (.inr (.inl ⟨D.size + 1, 0, OPEN, _, false, 1, rfl, f9, by simp [bcells], by rw [List.drop_zero, Nat.mul_one, List.take_of_length_le (by simp [bcells])], fun z => absurd z (by decide)⟩))
    rwa [hlen] at this
  have hmin := min60 s
  have hsl : sliceSA (.string ⟨⟨s⟩⟩) none (some (.int .i64 ((min s.length 60 : Nat) : Int))) = some (.string ⟨⟨short60 s⟩⟩) := sl_to s .i64 _ (Nat.min_le_left _ _)
  have hs60 := short60_len s
  generalize short60 s = s' at hsl hs60
  generalize min s.length 60 = kk at hmin hsl
  have hb2 : (la.set j c).length ≤ 38 := by rw [hlen]; exact ha2
  generalize la.set j c = bent at hbs hb2
  simp [hmin, hsl, hbs, show j + 1 ≤ la.length by omega]
  refine wC_loop_inv (CanI [.string ⟨⟨s'⟩⟩, .string ⟨⟨bent⟩⟩] A) ?_ 2 _ ⟨0, by omega, rfl, rfl, rfl, ⟨by simp, by simp⟩, eF⟩
  rintro m ⟨env, nn, dfs, G⟩ ⟨i, hi, rfl, s1, s2, ⟨r58, r59⟩, ex⟩
  simp only at s1 s2 r58 r59 ex
  subst s1; subst s2
  by_cases ci : i < 2
  · have ci' : (i : Int) < 2 := by omega
    obtain ⟨t, ht1, ht2⟩ : ∃ t : List UInt8, t.length < 1000 ∧ [Value.string ⟨⟨s'⟩⟩, .string ⟨⟨bent⟩⟩][i]? = some (.string ⟨⟨t⟩⟩) := by
      have : i = 0 ∨ i = 1 := by omega
      rcases this with rfl | rfl
      · exact ⟨s', by omega, rfl⟩
      · exact ⟨bent, by omega, rfl⟩
    have w1 : IntKind.i64.wrap ((i : Int) + 1) = ((i + 1 : Nat) : Int) := IntWalk.i64_in _ (by omega)
    simp [r59, ci']
    refine cbody_ok A G t ht1 _ rfl i ht2 (hE.extN ex) ex _ (by simp [r58]) (by simp [r59]) _ fun env' A' x hx q58 q59 ex' => ?_
    rcases hx with rfl | rfl
    · simp [q59, w1]
      exact ⟨2 - (i + 1), by omega, i + 1, by omega, rfl, rfl, rfl, ⟨by simp [q58], by simp⟩, ex'⟩
    · simp [q59, w1]
      exact ⟨2 - (i + 1), by omega, i + 1, by omega, rfl, rfl, rfl, ⟨by simp [q58], by simp⟩, ex'⟩
  · have ci' : ¬ (i : Int) < 2 := by omega
    simp [r59, ci']
end Go.Proofs.YtigknpfjhegkgaaGreatDoor
