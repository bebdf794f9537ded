/- Addresses, told and taken back, read. -/
import Derived.Test.YtigknpfjhegkgaaGreatDoorVg
import Derived.KernelRfl
namespace Go.Proofs.YtigknpfjhegkgaaGreatDoor
open Go Go.AS
set_option maxRecDepth 100000
set_option linter.unusedSimpArgs false
set_option linter.unusedVariables false
attribute [local irreducible] Trie.set Trie.get Env.rd
attribute [local simp ↓] wV_b2s
attribute [local simp] Nat.add_assoc wD_cons'' wD_nil' wC_seq wC_ops wC_opsD_nil wC_cond wC_skip wC_ret wC_exit wC_block wO_cons' wO_nil wantedA wV_eq lop qop ev wL_some wL_none wPut envOf rd_set rd_leaf eqA thenC blockC wB_true wB_false endF unwindA resultsA resA tupleA rdCell rdCells wrCells cl fillP lay rep bi_eql bi_neq bi_lss bi_leq bi_gtr bi_geq bi_add bi_sub bs_eql bs_neq bi_shr4 unA get_set' AHeap.get_alloc oneCell beqd bned idxA

theorem begins_ok (A : AHeap) (s : List UInt8) (k : Nat) (Q : Value → AHeap → Prop) (hq : Q (.int .i64 (match s with | [] => 4 | a :: _ => if a.toNat / 16 ≠ k then 7 else 0)) A) : wF T (.func (.func 146) #[] #[]) [.string ⟨⟨s⟩⟩, .int .u8 (k : Nat)] A Q := by
  refine wF_func (first := []) (captured := []) t146 ⟨rfl, by decide⟩ ?_
  dsimp only [c146]
  match s, hq with
  | [], hq => simp; exact hq
  | a :: t, hq =>
    by_cases h : a.toNat / 16 = k
    · have y : (a.toNat : Int) / 16 = (k : Int) := by omega
      simp only [ne_eq, h, not_true_eq_false, if_false] at hq
      simp [y]; exact hq
    · have y : ¬ (a.toNat : Int) / 16 = (k : Int) := by omega
      simp only [ne_eq, h, not_false_eq_true, if_true] at hq
      simp [y]; exact hq
theorem part_ok (A : AHeap) (q p : Nat) (c : Cur) (n : Nat) (hn : n < 1000000) (g : A.get q = some (.cells [.pointer (some ⟨p, 0, none⟩)] false 0)) (hc : CurAt A p c) (Q : Value → AHeap → Prop) (hq : ∀ A', CurAt A' p (c.go n) → Ext (fun j => j = p) A A' → Q (.string ⟨⟨c.got n⟩⟩) A') :
    wF T (.func (.func 148) ⟨[]⟩ ⟨[.pointer (some ⟨q, 0, none⟩)]⟩) [.int .i64 (n : Nat)] A Q := by
  refine wF_func (first := []) (captured := [.pointer (some ⟨q, 0, none⟩)]) t148 ⟨rfl, by decide⟩ ?_
  dsimp only [c148]
  simp [g]
  refine Take_ok A p c n hc hn _ fun A1 h1 e1 => ?_
  simp
  exact hq A1 h1 e1
def az : List Value := [.bool false, .int .i64 0, .string ⟨⟨[]⟩⟩, .bool false, .int .i64 0, .string ⟨⟨[]⟩⟩]
structure AR (A0 A : AHeap) (q2 q6 q8 p ip po : Nat) (x : List Value) (c : Cur) : Prop where
  g2 : A.get q2 = some (.cells x false 0)
  g6 : A.get q6 = some (.cells [.int .i64 (ip : Nat), .int .i64 (po : Nat)] false 0)
  g8 : A.get q8 = some (.cells [.pointer (some ⟨p, 0, none⟩)] false 0)
  hc : CurAt A p c
  n26 : q2 ≠ q6
  n28 : q2 ≠ q8
  n2p : q2 ≠ p
  n6p : q6 ≠ p
  n8p : q8 ≠ p
  ex : Ext NoB A0 A
  l2 : A0.size ≤ q2
  lp : A0.size ≤ p
theorem AR.cur {A0 A A' : AHeap} {q2 q6 q8 p ip po : Nat} {x : List Value} {c c' : Cur} (h : AR A0 A q2 q6 q8 p ip po x c) (hc : CurAt A' p c') (e : Ext (fun j => j = p) A A') : AR A0 A' q2 q6 q8 p ip po x c' :=
  ⟨e.get h.g2 h.n2p, e.get h.g6 h.n6p, e.get h.g8 h.n8p, hc, h.n26, h.n28, h.n2p, h.n6p, h.n8p, h.ex.past e h.lp, h.l2, h.lp⟩
theorem AR.put {A0 A : AHeap} {q2 q6 q8 p ip po : Nat} {x : List Value} {c : Cur} (h : AR A0 A q2 q6 q8 p ip po x c) (y : List Value) : AR A0 (A.set q2 (.cells y false 0)) q2 q6 q8 p ip po y c :=
  have e : Ext (fun j => j = q2) A (A.set q2 (.cells y false 0)) := Ext.set rfl
  ⟨by simp [AHeap.get_lt h.g2], e.get h.g6 (Ne.symm h.n26), e.get h.g8 (Ne.symm h.n28), h.hc.ext e (Ne.symm h.n2p), h.n26, h.n28, h.n2p, h.n6p, h.n8p, h.ex.past e h.l2, h.l2, h.lp⟩
theorem at_ok (A0 A : AHeap) (q2 q6 ip po m : Nat) (a b : UInt8) (r : List UInt8) (hs : (a :: b :: r).length < 1000000) (hr : r.length = ip + po + m) (hpo : po = 0 ∨ po = 2) (g2 : A.get q2 = some (.cells az false 0)) (g6 : A.get q6 = some (.cells [.int .i64 (ip : Nat), .int .i64 (po : Nat)] false 0)) (n26 : q2 ≠ q6) (ex : Ext NoB A0 A) (l2 : A0.size ≤ q2)
    (env : Env) (Q : Value → AHeap → Prop) (r0 : env.rd 0 = .string ⟨⟨a :: b :: r⟩⟩) (r2 : env.rd 2 = .pointer (some ⟨q2, 0, none⟩)) (r5 : env.rd 5 = .int .i64 (m : Nat)) (r6 : env.rd 6 = .pointer (some ⟨q6, 0, none⟩))
    (hq : ∀ A', Ext NoB A0 A' → Q (.tuple ⟨[.agg ⟨(⟨decide (m = 0), (b.toNat : Nat), seg r 0 ip, decide (po = 2), (if po = 2 then val (seg r ip 2) else 0 : Nat), seg r (ip + po) m⟩ : Ad).cells⟩, .int .i64 0]⟩) A') : wC T 87 none c87t { env := env, n := 65, dfs := [], A := A } (endF [.inr (2, 6, true), .inl 3] Q) := by
  dsimp only [c87t]
  simp [r0]
  refine Read_ok A (a :: b :: r) hs _ fun D p hp eD lp => ?_
  have d2 := eD.get g2 id
  have d6 := eD.get g6 id
  have k2 := AHeap.get_lt g2
  have k6 := AHeap.get_lt g6
  have zD := eD.size
  have lpD := AHeap.get_lt hp.g
  have zA := ex.size
  simp
  generalize hE : AHeap.set _ _ _ = E
  have SE : AR A0 E q2 q6 D.size p ip po az ⟨a :: b :: r, 0, false⟩ := by
    have eDE : Ext NoB D E := by subst hE; (repeat first | exact Ext.refl | assumption | refine Ext.allocN ?_ | refine Ext.setN ?_ (by first | omega | (simp; done) | (simp; omega)))
    exact ⟨eDE.get d2 id, eDE.get d6 id, by subst hE; simp, hp.ext eDE id, n26, by omega, by omega, by omega, by omega, (ex.trans eD).trans eDE, l2, by omega⟩
  obtain ⟨k1, k2, k3, k4⟩ := first2 _ a b r rfl
  simp [SE.g8]
  refine U8_ok E p _ SE.hc _ fun F fc eF => ?_
  have SF := SE.cur fc eF
  rw [k1] at SF
  have f2 := SF.g2
  have lF := AHeap.get_lt f2
  have wb : IntKind.i64.wrap ((b.toNat : Nat) : Int) = (b.toNat : Nat) := IntWalk.i64_in _ (by have := b.toNat_lt; omega)
  simp [r2, r5, f2, lF, az, SF.g8, Ne.symm SF.n28]
  generalize hG : AHeap.set _ _ _ = G
  have SG : AR A0 G q2 q6 D.size p ip po (⟨decide (m = 0), 0, [], false, 0, []⟩ : Ad).cells ⟨a :: b :: r, 1, false⟩ := by subst hG; exact SF.put (⟨decide (m = 0), 0, [], false, 0, []⟩ : Ad).cells
  refine U8_ok G p _ SG.hc _ fun H hc eH => ?_
  have SH := SG.cur hc eH
  rw [k3] at SH
  rw [k4]
  have h2 := SH.g2
  have lH := AHeap.get_lt h2
  simp only [Ad.cells] at h2
  simp [val_one, wb, r2, r6, h2, lH, SH.g6, Ne.symm SH.n26]
  generalize hI : AHeap.set _ _ _ = I
  have SI : AR A0 I q2 q6 D.size p ip po (⟨decide (m = 0), (b.toNat : Nat), [], false, 0, []⟩ : Ad).cells ⟨a :: b :: r, 2, false⟩ := by subst hI; exact SH.put (⟨decide (m = 0), (b.toNat : Nat), [], false, 0, []⟩ : Ad).cells
  have hrl : r.length < 1000000 := by simp at hs; omega
  refine part_ok I D.size p _ ip (by omega) SI.g8 SI.hc _ fun J jc eJ => ?_
  have SJ := SI.cur jc eJ
  obtain ⟨q1, q2'⟩ := go2 a b r 0 ip (by omega)
  simp only [Nat.add_zero, Nat.zero_add] at q1 q2'
  rw [q1] at SJ
  rw [q2']
  have j2 := SJ.g2
  have lJ := AHeap.get_lt j2
  simp only [Ad.cells] at j2
  obtain ⟨q3, q4⟩ := go2 a b r ip po (by omega)
  obtain ⟨q5, q6'⟩ := go2 a b r (ip + po) m (by omega)
  rcases hpo with rfl | rfl
  · simp only [Nat.add_zero] at q5 q6'
    simp [r2, r5, r6, j2, lJ, SJ.g6, Ne.symm SJ.n26]
    generalize hK : AHeap.set _ _ _ = K
    have SK : AR A0 K q2 q6 D.size p ip 0 (⟨decide (m = 0), (b.toNat : Nat), seg r 0 ip, false, 0, []⟩ : Ad).cells ⟨a :: b :: r, 2 + ip, false⟩ := by subst hK; exact (SJ.put (⟨decide (m = 0), (b.toNat : Nat), seg r 0 ip, false, 0, []⟩ : Ad).cells).put _
    refine part_ok K D.size p _ m (by omega) SK.g8 SK.hc _ fun L lc eL => ?_
    have SL := SK.cur lc eL
    rw [q6']
    have s2 := SL.g2
    have lL := AHeap.get_lt s2
    simp only [Ad.cells] at s2
    simp [r2, s2, lL]
    refine hq _ ?_
    have := SL.ex
    (repeat first | exact Ext.refl | assumption | refine Ext.allocN ?_ | refine Ext.setN ?_ (by first | omega | (simp; done) | (simp; omega)))
  · simp [r2, r5, r6, j2, lJ, SJ.g6, SJ.g8, Ne.symm SJ.n26, Ne.symm SJ.n28]
    generalize hK : AHeap.set _ _ _ = K
    have SK : AR A0 K q2 q6 D.size p ip 2 (⟨decide (m = 0), (b.toNat : Nat), seg r 0 ip, true, 0, []⟩ : Ad).cells ⟨a :: b :: r, 2 + ip, false⟩ := by subst hK; exact (SJ.put (⟨decide (m = 0), (b.toNat : Nat), seg r 0 ip, false, 0, []⟩ : Ad).cells).put _
    refine U16_ok K p _ SK.hc _ fun L lc eL => ?_
    have SL := SK.cur lc eL
    rw [q3] at SL
    rw [q4]
    have s2 := SL.g2
    have lL := AHeap.get_lt s2
    simp only [Ad.cells] at s2
    have wp : IntKind.i64.wrap ((val (seg r ip 2) : Nat) : Int) = (val (seg r ip 2) : Nat) := IntWalk.i64_in _ (by have := val_p r ip 2; omega)
    simp [r2, r5, s2, lL, wp]
    generalize hM : AHeap.set _ _ _ = M
    have SM : AR A0 M q2 q6 D.size p ip 2 (⟨decide (m = 0), (b.toNat : Nat), seg r 0 ip, true, (val (seg r ip 2) : Nat), []⟩ : Ad).cells ⟨a :: b :: r, 2 + (ip + 2), false⟩ := by subst hM; exact SL.put (⟨decide (m = 0), (b.toNat : Nat), seg r 0 ip, true, (val (seg r ip 2) : Nat), []⟩ : Ad).cells
    refine part_ok M D.size p _ m (by omega) SM.g8 SM.hc _ fun N nc eN => ?_
    have SN := SM.cur nc eN
    rw [q6']
    have t2 := SN.g2
    have lN := AHeap.get_lt t2
    simp only [Ad.cells] at t2
    simp [r2, t2, lN]
    refine hq _ ?_
    have := SN.ex
    (repeat first | exact Ext.refl | assumption | refine Ext.allocN ?_ | refine Ext.setN ?_ (by first | omega | (simp; done) | (simp; omega)))
theorem adec_ok (A : AHeap) (s : List UInt8) (hs : s.length < 1000000) (Q : Value → AHeap → Prop) (hq : ∀ A', Ext NoB A A' → Q (resD Ad.cells az (Ad.dec s)) A') : wF T (.func (.func 87) #[] #[]) [.string ⟨⟨s⟩⟩] A Q := by
  refine wF_func (first := []) (captured := []) t87 ⟨rfl, by decide⟩ ?_
  dsimp only [c87]
  simp
  refine begins_ok _ s 3 _ ?_
  match s, hs, hq with
  | [], hs, hq =>
    simp
    exact hq _ (by (repeat first | exact Ext.refl | assumption | refine Ext.allocN ?_ | refine Ext.setN ?_ (by first | omega | (simp; done) | (simp; omega))))
  | a :: t, hs, hq =>
    have ht : t.length < 999999 := by simp at hs; omega
    by_cases h0 : a.toNat / 16 ≠ 3
    · have hd : Ad.dec (a :: t) = .error 7 := by simp only [Ad.dec, if_pos h0]
      rw [hd] at hq
      simp [h0]
      exact hq _ (by (repeat first | exact Ext.refl | assumption | refine Ext.allocN ?_ | refine Ext.setN ?_ (by first | omega | (simp; done) | (simp; omega))))
    have h3 : a.toNat / 16 = 3 := by omega
    have m1 := bm1 a
    simp only [Nat.div_one] at m1
    obtain ⟨ec, hec⟩ : ∃ x, x = decide (a.toNat % 2 = 1) := ⟨_, rfl⟩
    rw [← hec] at m1
    have w1 : IntKind.i64.wrap ((t.length : Int) + 1 - 2) = (t.length : Int) - 1 := by rw [IntWalk.i64_in _ (by omega)]; omega
    have main : ∀ (B : AHeap) (env : Env), B.get A.size = some (.cells az false 0) → Ext NoB A B → env.rd 0 = .string ⟨⟨a :: t⟩⟩ → env.rd 2 = .pointer (some ⟨A.size, 0, none⟩) → env.rd 5 = .int .i64 (if ec then 0 else 8 : Nat) → wC T 87 none c87u { env := env, n := 65, dfs := [], A := B } (endF [.inr (2, 6, true), .inl 3] Q) := by
      intro B env b2 eB r0 r2 r5
      dsimp only [c87u]
      obtain ⟨m, hm⟩ : ∃ m, m = (if ec then 0 else 8 : Nat) := ⟨_, rfl⟩
      have hm8 : m ≤ 8 := by rw [hm]; split <;> omega
      rw [← hm] at r5
      simp
      refine shapes_ok B _ fun C mp eC hmp => ?_
      have c2 := eC.get b2 id
      have lC := AHeap.get_lt c2
      have eeC := eB.trans eC
      have w2 : IntKind.i64.wrap ((t.length : Int) - 1 - (m : Int)) = (t.length : Int) - 1 - (m : Int) := IntWalk.i64_in _ (by omega)
      obtain ⟨es, ck, k1, k2⟩ := hmp.get ((t.length : Int) - 1 - (m : Int))
      have hcase : (shF ((t.length : Int) - 1 - (m : Int)) = none ∧ Ad.dec (a :: t) = .error 5) ∨ ∃ (ip po : Nat) (b : UInt8) (r : List UInt8), t = b :: r ∧ (po = 0 ∨ po = 2) ∧ shF ((t.length : Int) - 1 - (m : Int)) = some (sh ip po) ∧ r.length = ip + po + m ∧ Ad.dec (a :: b :: r) = .ok ⟨ec, (b.toNat : Nat), seg r 0 ip, decide (po = 2), (if po = 2 then val (seg r ip 2) else 0 : Nat), seg r (ip + po) m⟩ := by
        match t with
        | [] =>
          refine .inl ⟨?_, ?_⟩
          · unfold shF; rw [if_neg (by simp; omega), if_neg (by simp; omega), if_neg (by simp; omega), if_neg (by simp; omega)]
          · simp only [Ad.dec, if_neg h0]
        | b :: r =>
          have e1 : ((b :: r).length : Int) - 1 - (m : Int) = (r.length : Int) - (m : Int) := by simp
          rw [e1]
          by_cases f1 : r.length = m + 4
          · exact .inr ⟨4, 0, b, r, rfl, .inl rfl, by unfold shF; rw [if_pos (by omega)]; rfl, by omega, by simp only [Ad.dec, if_neg h0]; rw [← hec, ← hm, if_pos f1]; rfl⟩
          by_cases f2 : r.length = m + 6
          · exact .inr ⟨4, 2, b, r, rfl, .inr rfl, by unfold shF; rw [if_neg (by omega), if_pos (by omega)]; rfl, by omega, by simp only [Ad.dec, if_neg h0]; rw [← hec, ← hm, if_neg f1, if_pos f2]; rfl⟩
          by_cases f3 : r.length = m + 16
          · exact .inr ⟨16, 0, b, r, rfl, .inl rfl, by unfold shF; rw [if_neg (by omega), if_neg (by omega), if_pos (by omega)]; rfl, by omega, by simp only [Ad.dec, if_neg h0]; rw [← hec, ← hm, if_neg f1, if_neg f2, if_pos f3]; rfl⟩
          by_cases f4 : r.length = m + 18
          · exact .inr ⟨16, 2, b, r, rfl, .inr rfl, by unfold shF; rw [if_neg (by omega), if_neg (by omega), if_neg (by omega), if_pos (by omega)]; rfl, by omega, by simp only [Ad.dec, if_neg h0]; rw [← hec, ← hm, if_neg f1, if_neg f2, if_neg f3, if_pos f4]; rfl⟩
          · exact .inl ⟨by unfold shF; rw [if_neg (by omega), if_neg (by omega), if_neg (by omega), if_neg (by omega)], by simp only [Ad.dec, if_neg h0]; rw [← hec, ← hm, if_neg f1, if_neg f2, if_neg f3, if_neg f4]⟩
      rcases hcase with ⟨hbad, hd⟩ | ⟨ip, po, b, r, e1, hpo, hsh, hr, hd⟩
      · rw [hbad] at k2
        simp only at k2
        rw [hd] at hq
        simp [r0, r2, r5, w1, w2, k1, k2, getRes, c2, lC, az, show A.size ≠ C.size by omega, show A.size < C.size + 1 by omega]
        exact hq _ (by have := eeC.size; (repeat first | exact Ext.refl | assumption | refine Ext.allocN ?_ | refine Ext.setN ?_ (by first | omega | (simp; done) | (simp; omega))))
      · rw [hsh] at k2
        obtain ⟨i, k2⟩ := k2
        simp [r0, r2, r5, w1, w2, k1, k2, getRes, sh]
        generalize hG : AHeap.set _ _ _ = G
        have eCG : Ext NoB C G := by subst hG; (repeat first | exact Ext.refl | assumption | refine Ext.allocN ?_ | refine Ext.setN ?_ (by first | omega | (simp; done) | (simp; omega)))
        refine at_ok A G A.size C.size ip po m a b r (by rw [← e1]; exact hs) hr hpo (eCG.get c2 id) (by subst hG; simp) (by omega) (eeC.trans eCG) (Nat.le_refl _) _ Q (by simp [r0, e1]) (by simp [r2]) (by simp [r5]) (by simp) ?_
        have e0 : decide (m = 0) = ec := by rw [hm]; cases ec <;> simp
        rw [e0]
        rw [e1, hd] at hq
        exact hq
    simp [h3]
    generalize hB : AHeap.alloc _ _ = B
    have b0 : B.get A.size = some (.cells az false 0) := by subst hB; simp [az]
    have eB : Ext NoB A B := by subst hB; (repeat first | exact Ext.refl | assumption | refine Ext.allocN ?_ | refine Ext.setN ?_ (by first | omega | (simp; done) | (simp; omega)))
    cases ec <;> simp [m1, bitI] <;> refine main B _ b0 eB ?_ ?_ ?_ <;> simp
theorem rdec_ok (A : AHeap) (s : List UInt8) (hs : s.length < 1000000) (Q : Value → AHeap → Prop) (hq : ∀ A', Ext NoB A A' → Q (resD (fun l => [.string ⟨⟨l⟩⟩]) [.string ⟨⟨[]⟩⟩] (remD s)) A') : wF T (.func (.func 91) #[] #[]) [.string ⟨⟨s⟩⟩] A Q := by
  refine wF_func (first := []) (captured := []) t91 ⟨rfl, by decide⟩ ?_
  dsimp only [c91]
  simp
  refine begins_ok _ s 4 _ ?_
  match s, hs, hq with
  | [], hs, hq =>
    simp
    exact hq _ (by (repeat first | exact Ext.refl | assumption | refine Ext.allocN ?_ | refine Ext.setN ?_ (by first | omega | (simp; done) | (simp; omega))))
  | a :: t, hs, hq =>
    by_cases h0 : a.toNat / 16 ≠ 4
    · have hd : remD (a :: t) = .error 7 := by simp only [remD, if_pos h0]
      rw [hd] at hq
      simp [h0]
      exact hq _ (by (repeat first | exact Ext.refl | assumption | refine Ext.allocN ?_ | refine Ext.setN ?_ (by first | omega | (simp; done) | (simp; omega))))
    have h3 : a.toNat / 16 = 4 := by omega
    have hsl : sliceSA (.string ⟨⟨a :: t⟩⟩) (some (.int .i64 1)) none = some (.string ⟨⟨t⟩⟩) := sl_from (a :: t) .i64 1 (by simp)
    by_cases h1 : t.length + 1 < 2
    · have hd : remD (a :: t) = .error 5 := by simp only [remD, if_neg h0]; rw [if_neg (by omega)]
      rw [hd] at hq
      have y1 : (t.length : Int) + 1 < 2 := by omega
      simp [h3, y1]
      exact hq _ (by (repeat first | exact Ext.refl | assumption | refine Ext.allocN ?_ | refine Ext.setN ?_ (by first | omega | (simp; done) | (simp; omega))))
    have y1 : ¬ (t.length : Int) + 1 < 2 := by omega
    by_cases h2 : 38 < t.length + 1
    · have hd : remD (a :: t) = .error 5 := by simp only [remD, if_neg h0]; rw [if_neg (by omega)]
      rw [hd] at hq
      have y2 : (38 : Int) < (t.length : Int) + 1 := by omega
      simp [h3, y1, y2]
      exact hq _ (by (repeat first | exact Ext.refl | assumption | refine Ext.allocN ?_ | refine Ext.setN ?_ (by first | omega | (simp; done) | (simp; omega))))
    have y2 : ¬ (38 : Int) < (t.length : Int) + 1 := by omega
    have hd : remD (a :: t) = .ok t := by simp only [remD, if_neg h0]; rw [if_pos (by omega)]
    rw [hd] at hq
    simp [h3, y1, y2, hsl]
    exact hq _ (by (repeat first | exact Ext.refl | assumption | refine Ext.allocN ?_ | refine Ext.setN ?_ (by first | omega | (simp; done) | (simp; omega))))
end Go.Proofs.YtigknpfjhegkgaaGreatDoor
