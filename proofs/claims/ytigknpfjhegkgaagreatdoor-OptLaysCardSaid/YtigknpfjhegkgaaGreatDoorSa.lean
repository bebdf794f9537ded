/- Options with short texts; the law of encoders. -/
import Derived.Test.YtigknpfjhegkgaaGreatDoorDb
import Derived.KernelRfl
namespace Go.Proofs.YtigknpfjhegkgaaGreatDoor
open Go Go.AS
set_option maxRecDepth 100000
set_option linter.unusedSimpArgs false
set_option linter.unusedVariables false
attribute [local irreducible] Trie.set Trie.get Env.rd
attribute [local simp ↓] wV_b2s
attribute [local simp] Nat.add_assoc wD_cons'' wD_nil' wC_seq wC_ops wC_opsD_nil wC_cond wC_skip wC_ret wC_exit wC_block wO_cons' wO_nil wantedA wV_eq lop qop ev wL_some wL_none wPut envOf rd_set rd_leaf eqA thenC blockC wB_true wB_false endF unwindA resultsA resA tupleA rdCell rdCells wrCells cl fillP lay rep binA unA get_set' AHeap.get_alloc oneCell beqd bned idxA
attribute [local simp] Op.len Op.one Cap.ln Jn.len Ds.ln Ad.len Cap.one Jn.one Ds.one Ad.one Op.take Op.at0 Op.head? Op.getCap Op.tCap Op.getJn Op.getDs Op.getAd Op.getIds Op.getPrio Op.getFail Op.getFast Op.getRst Op.putCap Op.putJn Op.putDs Op.putAd Op.putSub Op.putIds Op.putPrio Op.putFail Op.putFast Op.putRf Op.putRr Op.layAll Op.zeroC Op.vb
def EH (A : AHeap) : Prop := errT 174 93 (A.get 0) = true
theorem EH.ext {S : Nat → Prop} {A A' : AHeap} (h : EH A) (e : Ext S A A') (hs : ¬ S 0) : EH A' := by
  unfold EH at h ⊢
  cases hb : A.get 0 with
  | none => rw [hb] at h; cases h
  | some b => rw [e.get hb hs, ← hb]; exact h
theorem EH.extN {A A' : AHeap} (h : EH A) (e : Ext NoB A A') : EH A' := h.ext e id
theorem works_ok (A : AHeap) (Q : Value → AHeap → Prop) (hE : EH A) (hq : Q (.bool true) A) : wF T (.func (.func 14) #[] #[]) [] A Q := by
  refine wF_func (first := []) (captured := []) t14 ⟨rfl, by decide⟩ ?_
  dsimp only [specFn]
  unfold EH at hE
  simp [specA, hE]
  exact hq
def short60 (l : List UInt8) : List UInt8 := l.take (min l.length 60)
theorem short60_len (l : List UInt8) : (short60 l).length ≤ 60 := by simp [short60]; omega
def Op.short (x : Op) : Op := { x with jn := { x.jn with mac := short60 x.jn.mac }, ad := { x.ad with ip := short60 x.ad.ip, mac := short60 x.ad.mac }, ids := short60 x.ids }
/-- What any option's numbers are. -/
structure Op.W0 (x : Op) : Prop where
  cap : x.cap.W
  token : x.jn.token < 256 ^ 4
  nonce : x.jn.nonce < 256 ^ 4
  ds : x.ds.W
  fail : x.fail < 256 ^ 8
  fast : x.fast < 256 ^ 8
theorem Op.W0.short {x : Op} (h : x.W0) : x.short.W where
  cap := h.cap
  jn := ⟨h.token, h.nonce, Nat.lt_of_le_of_lt (short60_len _) (by decide)⟩
  ds := h.ds
  ad := ⟨Nat.lt_of_le_of_lt (short60_len _) (by decide), Nat.lt_of_le_of_lt (short60_len _) (by decide)⟩
  ids := Nat.lt_of_le_of_lt (short60_len _) (by decide)
  fail := h.fail
  fast := h.fast
theorem min60 (l : List UInt8) : foldV minV (.int .i64 ((l.length : Nat) : Int)) [.int .i64 60] = some (.int .i64 ((min l.length 60 : Nat) : Int)) := by
  simp only [foldV, minV]
  by_cases h : (60 : Int) < (l.length : Int)
  · rw [if_pos h, Nat.min_eq_right (by omega)]; rfl
  · rw [if_neg h, Nat.min_eq_left (by omega)]
theorem Op.e14 (x : Op) (h : 14 < x.cells.length) : x.cells[14]'h = .string ⟨⟨x.jn.mac⟩⟩ := rfl
theorem Op.e28 (x : Op) (h : 28 < x.cells.length) : x.cells[28]'h = .string ⟨⟨x.ad.ip⟩⟩ := rfl
theorem Op.e31 (x : Op) (h : 31 < x.cells.length) : x.cells[31]'h = .string ⟨⟨x.ad.mac⟩⟩ := rfl
theorem Op.e32 (x : Op) (h : 32 < x.cells.length) : x.cells[32]'h = .string ⟨⟨x.ids⟩⟩ := rfl
theorem Op.p14 (x : Op) (l : List UInt8) : x.cells.set 14 (.string ⟨⟨l⟩⟩) = ({ x with jn := { x.jn with mac := l } } : Op).cells := rfl
theorem Op.p28 (x : Op) (l : List UInt8) : x.cells.set 28 (.string ⟨⟨l⟩⟩) = ({ x with ad := { x.ad with ip := l } } : Op).cells := rfl
theorem Op.p31 (x : Op) (l : List UInt8) : x.cells.set 31 (.string ⟨⟨l⟩⟩) = ({ x with ad := { x.ad with mac := l } } : Op).cells := rfl
theorem Op.f14 (x : Op) : x.cells[14]? = some (.string ⟨⟨x.jn.mac⟩⟩) := rfl
theorem Op.f28 (x : Op) : x.cells[28]? = some (.string ⟨⟨x.ad.ip⟩⟩) := rfl
theorem Op.f31 (x : Op) : x.cells[31]? = some (.string ⟨⟨x.ad.mac⟩⟩) := rfl
theorem Op.f32 (x : Op) : x.cells[32]? = some (.string ⟨⟨x.ids⟩⟩) := rfl
attribute [local simp] Op.f14 Op.f28 Op.f31 Op.f32 Op.e14 Op.e28 Op.e31 Op.e32 Op.p14 Op.p28 Op.p31
theorem short_ok (A : AHeap) (x : Op) (Q : Value → AHeap → Prop) (hq : ∀ A', Ext NoB A A' → Q (.agg ⟨x.short.cells⟩) A') : wF T (.func (.func 15) #[] #[]) [.agg ⟨x.cells⟩] A Q := by
  refine wF_func (first := []) (captured := []) t15 ⟨rfl, by decide⟩ ?_
  dsimp only [c15]
  have m1 := min60 x.jn.mac
  have m2 := min60 x.ad.ip
  have m3 := min60 x.ad.mac
  have m4 := min60 x.ids
  have s : ∀ l : List UInt8, sliceSA (.string ⟨⟨l⟩⟩) none (some (.int .i64 ((min l.length 60 : Nat) : Int))) = some (.string ⟨⟨short60 l⟩⟩) := fun l => sl_to l .i64 _ (Nat.min_le_left _ _)
  have s1 := s x.jn.mac
  have s2 := s x.ad.ip
  have s3 := s x.ad.mac
  have s4 := s x.ids
  generalize min x.jn.mac.length 60 = k1 at m1 s1
  generalize min x.ad.ip.length 60 = k2 at m2 s2
  generalize min x.ad.mac.length 60 = k3 at m3 s3
  generalize min x.ids.length 60 = k4 at m4 s4
  simp [m1, m2, m3, m4, s1, s2, s3, s4]
  exact hq _ (by (repeat first | exact Ext.refl | assumption | refine Ext.allocN ?_ | refine Ext.setN ?_ (by first | omega | (simp; done) | (simp; omega))))
theorem eqItem (a c : Int) (l m : List UInt8) : eqL [(0, .i), (1, .s)] [.int .i64 a, .string ⟨⟨l⟩⟩] [.int .i64 c, .string ⟨⟨m⟩⟩] = some (decide (a = c ∧ l = m)) := by
  simp only [eqL, leafEq, List.getElem?_cons_zero, List.getElem?_cons_succ, if_true]
  rw [Option.some.injEq, Bool.eq_iff_iff]
  simp only [Bool.and_eq_true, beq_iff_eq, decide_eq_true_eq, and_true]
def fiveO (l : List Op) : List Value := l.flatMap Op.cells
def LyI (xs : List Op) (A0 : AHeap) (m : Nat) (st : St) : Prop := ∃ k : Nat, k ≤ 5 ∧ m = 5 - k ∧ st.n = 63 ∧ st.dfs = [] ∧
  (st.env.rd 32 = .agg ⟨fiveO xs⟩ ∧ st.env.rd 33 = .int .i64 (k : Nat)) ∧ Ext NoB A0 st.A
theorem fiveO_len : ∀ xs : List Op, (fiveO xs).length = xs.length * 38
  | [] => rfl
  | x :: xs => by
    have := fiveO_len xs
    simp only [fiveO, List.flatMap_cons, List.length_append, List.length_cons, Op.len] at this ⊢
    omega
theorem flat_at : ∀ (xs : List Op) (k : Nat) (x : Op), xs[k]? = some x → ((fiveO xs).drop (k * 38)).take 38 = x.cells
  | [], k, x, h => by simp at h
  | y :: xs, 0, x, h => by
    obtain rfl : y = x := by simpa using h
    show ((y.cells ++ fiveO xs).drop 0).take 38 = y.cells
    rw [List.drop_zero, List.take_left' (Op.len y)]
  | y :: xs, k + 1, x, h => by
    have := flat_at xs k x (by simpa using h)
    show ((y.cells ++ fiveO xs).drop ((k + 1) * 38)).take 38 = x.cells
    rw [Nat.succ_mul, Nat.add_comm, ← List.drop_drop, List.drop_left' (Op.len y)]
    exact this
theorem lay_at (pre mid post vs : List Value) (n : Nat) (hn : pre.length = n) (h : mid.length = vs.length) : AS.lay (pre ++ (mid ++ post)) n vs = pre ++ (vs ++ post) := by
  subst hn
  rw [← List.append_assoc]
  have : ∀ (vs mid pre post : List Value), mid.length = vs.length → AS.lay ((pre ++ mid) ++ post) pre.length vs = (pre ++ vs) ++ post := by
    intro vs
    induction vs with
    | nil => intro mid pre post h; rw [List.length_eq_zero_iff.1 h]; simp [AS.lay]
    | cons v vs ih =>
      intro mid pre post h
      match mid, h with
      | r :: mid, h =>
        have hs : ((pre ++ r :: mid) ++ post).set pre.length v = (((pre ++ [v]) ++ mid) ++ post) := by simp
        have := ih mid (pre ++ [v]) post (by simpa using h)
        rw [AS.lay, hs]
        simpa using this
  rw [this vs mid pre post h, List.append_assoc]
theorem fill5 (a b c d e : Op) : fillP opZ5 [(0, 38, .agg ⟨a.cells⟩), (38, 38, .agg ⟨b.cells⟩), (76, 38, .agg ⟨c.cells⟩), (114, 38, .agg ⟨d.cells⟩), (152, 38, .agg ⟨e.cells⟩)] = some (fiveO [a, b, c, d, e]) := by
  have z : opZ.length = 38 := rfl
  have h0 : AS.lay opZ5 0 a.cells = a.cells ++ (opZ ++ (opZ ++ (opZ ++ opZ))) := lay_at [] opZ _ a.cells 0 rfl rfl
  have h1 : AS.lay (a.cells ++ (opZ ++ (opZ ++ (opZ ++ opZ)))) 38 b.cells = a.cells ++ (b.cells ++ (opZ ++ (opZ ++ opZ))) := lay_at a.cells opZ _ b.cells 38 rfl rfl
  have h2 : AS.lay (a.cells ++ (b.cells ++ (opZ ++ (opZ ++ opZ)))) 76 c.cells = a.cells ++ (b.cells ++ (c.cells ++ (opZ ++ opZ))) := by
    have := lay_at (a.cells ++ b.cells) opZ (opZ ++ opZ) c.cells 76 (by rw [List.length_append, Op.len, Op.len]) rfl
    simpa only [List.append_assoc] using this
  have h3 : AS.lay (a.cells ++ (b.cells ++ (c.cells ++ (opZ ++ opZ)))) 114 d.cells = a.cells ++ (b.cells ++ (c.cells ++ (d.cells ++ opZ))) := by
    have := lay_at (a.cells ++ (b.cells ++ c.cells)) opZ opZ d.cells 114 (by rw [List.length_append, List.length_append, Op.len, Op.len, Op.len]) rfl
    simpa only [List.append_assoc] using this
  have h4 : AS.lay (a.cells ++ (b.cells ++ (c.cells ++ (d.cells ++ opZ)))) 152 e.cells = a.cells ++ (b.cells ++ (c.cells ++ (d.cells ++ e.cells))) := by
    have := lay_at (a.cells ++ (b.cells ++ (c.cells ++ d.cells))) opZ [] e.cells 152 (by rw [List.length_append, List.length_append, List.length_append, Op.len, Op.len, Op.len, Op.len]) rfl
    simpa only [List.append_assoc, List.append_nil] using this
  have l5 : opZ5.length = 190 := rfl
  simp only [fillP, cl, Op.len, ne_eq, not_true_eq_false, decide_false, Bool.false_or, l5, List.length_append, z, h0, h1, h2, h3, h4, gt_iff_lt, decide_eq_true_eq]
  simp [fiveO]
theorem Op.W.has {x : Op} (h : x.W) : x.has.W := by
  have z0 : Op.zero.W := ⟨⟨by decide, by decide, by decide⟩, ⟨by decide, by decide, by decide⟩, ⟨by decide, by decide, by decide, by decide⟩, ⟨by decide, by decide⟩, by decide, by decide, by decide⟩
  have z : ∀ s, (Op.only s).W := fun s => ⟨z0.cap, z0.jn, z0.ds, z0.ad, z0.ids, z0.fail, z0.fast⟩
  unfold Op.has
  have q := z x.sub
  split
  · exact ⟨h.cap, q.jn, q.ds, q.ad, q.ids, q.fail, q.fast⟩
  split
  · exact ⟨q.cap, h.jn, q.ds, q.ad, q.ids, q.fail, q.fast⟩
  split
  · exact ⟨q.cap, q.jn, h.ds, q.ad, q.ids, q.fail, q.fast⟩
  split
  · exact ⟨q.cap, q.jn, q.ds, h.ad, q.ids, q.fail, q.fast⟩
  split
  · exact ⟨q.cap, q.jn, q.ds, q.ad, h.ids, q.fail, q.fast⟩
  split
  · exact ⟨q.cap, q.jn, q.ds, q.ad, q.ids, q.fail, q.fast⟩
  split
  · exact ⟨q.cap, q.jn, q.ds, q.ad, q.ids, h.fail, q.fast⟩
  split
  · exact ⟨q.cap, q.jn, q.ds, q.ad, q.ids, q.fail, h.fast⟩
  split
  · exact ⟨q.cap, q.jn, q.ds, q.ad, q.ids, q.fail, q.fast⟩
  exact q
set_option maxHeartbeats 1000000 in
theorem lays_ok (A : AHeap) (x : Op) (d : Dr) (hx : x.W0) (hd : d.W) (ho : d.opt.W) (hE : EH A) : wF T (.func (.func 5) #[] #[]) [.agg ⟨x.cells⟩, .agg ⟨d.cells⟩] A (fun v _ => v = .bool true) := by
  refine wF_func (first := []) (captured := []) t5 ⟨rfl, by decide⟩ ?_
  dsimp only [c5]
  have hl := d.len hd.bytes
  have ht := d.take hd.bytes
  simp [hl]
  generalize hA2 : (A.alloc (ABlk.cells x.cells false 0)).alloc (ABlk.cells d.cells false 0) = A2
  have g1 : A2.get A.size = some (.cells x.cells false 0) := by subst hA2; simp
  have g2 : A2.get (A.size + 1) = some (.cells d.cells false 0) := by subst hA2; simp
  have e2 : Ext NoB A A2 := by subst hA2; (repeat first | exact Ext.refl | assumption | refine Ext.allocN ?_ | refine Ext.setN ?_ (by first | omega | (simp; done) | (simp; omega)))
  refine short_ok A2 x _ fun A3 e3 => ?_
  have g1' := e3.get g1 id
  have g2' := e3.get g2 id
  have l3 := AHeap.get_lt g2'
  have l3' := AHeap.get_lt g1'
  simp [g1', l3', hl, ht, g2']
  refine dopt_ok _ d hd _ fun A4 e4 => ?_
  have hs3 : (A3.set A.size (.cells x.short.cells false 0)).get A.size = some (.cells x.short.cells false 0) := by simp [l3']
  have h1 := e4.get hs3 id
  have e34 : Ext NoB A A4 := by
    have q : Ext NoB A (A3.set A.size (.cells x.short.cells false 0)) := by have := e2.trans e3; (repeat first | exact Ext.refl | assumption | refine Ext.allocN ?_ | refine Ext.setN ?_ (by first | omega | (simp; done) | (simp; omega)))
    exact q.trans e4
  have z4 : A.size < A4.size := AHeap.get_lt h1
  have n0 : ¬ A.size = A4.size := by omega
  have n1 : ¬ A.size = A4.size + 1 := by omega
  have n2 : ¬ A.size = A4.size + 2 := by omega
  simp
  generalize hB : AHeap.set _ _ _ = B
  have b1 : B.get A.size = some (.cells x.short.cells false 0) := by subst hB; simp [h1, n0]
  have b5 : B.get A4.size = some (.cells d.opt.cells false 0) := by subst hB; simp
  have zB : B.size = A4.size + 1 := by subst hB; simp
  have eB : Ext NoB A B := by subst hB; have := e34.size; (repeat first | exact Ext.refl | assumption | refine Ext.allocN ?_ | refine Ext.setN ?_ (by first | omega | (simp; done) | (simp; omega)))
  refine wC_opsD_chk ?_
  simp [b1, b5, zB, n0, n1, n2]
  refine wE_intro ?_ ?_
  · simp only [List.all_cons, List.all_nil, chkOk, List.nil_append, List.cons_append, List.getElem?_cons_succ, List.getElem?_cons_zero]
    simp [Bx, b1, b5, zB, vbeq, n0, n1, n2]
  generalize hC : AHeap.set _ _ _ = C
  have c1 : C.get A.size = some (.cells x.short.cells false 0) := by subst hC; simp [b1, zB, n0, n1, n2]
  have c5 : C.get A4.size = some (.cells d.opt.cells false 0) := by subst hC; simp [b5, zB]
  have c6 : C.get (A4.size + 1) = some (.cells d.opt.cells false 0) := by subst hC; simp [zB]
  have c7 : C.get (A4.size + 2) = some (.cells x.short.cells false 0) := by subst hC; simp [zB]
  have l6 := AHeap.get_lt c6
  have l7 := AHeap.get_lt c7
  have eC : Ext NoB A C := by subst hC; have := eB.size; (repeat first | exact Ext.refl | assumption | refine Ext.allocN ?_ | refine Ext.setN ?_ (by first | omega | (simp; done) | (simp; omega)))
  simp [c1, c5, c6, c7, l6, l7, n0, n1, n2]
  generalize hD : AHeap.set _ _ _ = D
  have d1 : D.get A.size = some (.cells x.short.cells false 0) := by subst hD; simp [c1, n1, n2]
  have d5 : D.get A4.size = some (.cells d.opt.cells false 0) := by subst hD; simp [c5]
  have d6 : D.get (A4.size + 1) = some (.cells ({ d.opt with sub := x.short.sub } : Op).cells false 0) := by subst hD; simp [l6]
  have d7 : D.get (A4.size + 2) = some (.cells ({ x.short with sub := d.opt.sub } : Op).cells false 0) := by subst hD; simp [l7]
  have eD : Ext NoB A D := by subst hD; have := eC.size; have := e34.size; (repeat first | exact Ext.refl | assumption | refine Ext.allocN ?_ | refine Ext.setN ?_ (by first | omega | (simp; done) | (simp; omega)))
  have wy : ({ d.opt with sub := x.short.sub } : Op).W := ⟨ho.cap, ho.jn, ho.ds, ho.ad, ho.ids, ho.fail, ho.fast⟩
  have wx := hx.short
  have wz : ({ x.short with sub := d.opt.sub } : Op).W := ⟨wx.cap, wx.jn, wx.ds, wx.ad, wx.ids, wx.fail, wx.fast⟩
  have wh := Op.W.has wz
  generalize ({ d.opt with sub := x.short.sub } : Op) = y at d6 wy
  generalize ({ x.short with sub := d.opt.sub } : Op) = z at d7 wz wh
  have hW : ∀ o ∈ [x.short, d.opt, y, z, z.has], o.W := by
    intro o h
    simp only [List.mem_cons, List.not_mem_nil, or_false] at h
    rcases h with h | h | h | h | h <;> subst h <;> assumption
  refine wC_opsD_chk ?_
  simp [d1, d5, d6, d7]
  refine rhas_ok D z _ fun E e => ?_
  have k1 := e.get d1 id
  have k5 := e.get d5 id
  have k6 := e.get d6 id
  have k7 := e.get d7 id
  have eE := eD.trans e
  simp [-fillP, fill5]
  refine wE_intro ?_ ?_
  · simp only [List.all_cons, List.all_nil, chkOk, List.nil_append, List.cons_append, List.getElem?_cons_succ, List.getElem?_cons_zero]
    simp [Bx, d1, d5, d6, d7, k1, k5, k6, k7, vbeq]
  simp
  generalize hxs : [x.short, d.opt, y, z, z.has] = xs at hW ⊢
  have h5 : xs.length = 5 := by rw [← hxs]; rfl
  have hf : (fiveO xs).length = 190 := by rw [fiveO_len, h5]
  refine wC_loop_inv (LyI xs A) ?_ 5 _ ⟨0, by omega, rfl, rfl, rfl, ⟨by simp, by simp⟩, eE⟩
  rintro m ⟨env, nn, dfs, F⟩ ⟨k, hk, rfl, s1, s2, ⟨r32, r33⟩, ex⟩
  simp only at s1 s2 r32 r33 ex
  subst s1; subst s2
  by_cases c : k < 5
  · obtain ⟨o, ho1⟩ : ∃ o, xs[k]? = some o := ⟨_, List.getElem?_eq_getElem (by omega)⟩
    have wo := hW o (List.mem_of_getElem? ho1)
    have fa := flat_at xs k o ho1
    have w1 : IntKind.i64.wrap ((k : Int) + 1) = ((k + 1 : Nat) : Int) := IntWalk.i64_in _ (by omega)
    have kc : (k : Int) < 5 := by omega
    have kl : k * 38 + 38 ≤ 190 := by omega
    simp [r32, r33, c, kc, hf, kl, fa]
    generalize hG : AHeap.set _ _ _ = G
    have g9 : G.get F.size = some (.cells o.cells false 0) := by subst hG; simp
    have eG : Ext NoB A G := by subst hG; have := ex.size; (repeat first | exact Ext.refl | assumption | refine Ext.allocN ?_ | refine Ext.setN ?_ (by first | omega | (simp; done) | (simp; omega)))
    refine encode_ok G o wo _ fun G1 f1 => ?_
    have g9' := f1.get g9 id
    have eG1 := eG.trans f1
    have lg := AHeap.get_lt g9'
    have n3 : ¬ F.size = G1.size := by omega
    have fin : ∀ (I : AHeap) (env' : Env), Ext NoB A I → env'.rd 32 = .agg ⟨fiveO xs⟩ → env'.rd 33 = .int .i64 ((k + 1 : Nat) : Int) → ∃ m', m' < 5 - k ∧ LyI xs A m' { env := env', n := 63, dfs := [], A := I } :=
      fun I env' ei q1 q2 => ⟨5 - (k + 1), by omega, k + 1, by omega, rfl, rfl, rfl, ⟨q1, q2⟩, ei⟩
    cases hv : o.enc with
    | none =>
      simp [resI, itemV, g9', n3]
      generalize hH : AHeap.set _ _ _ = H
      have h9 : H.get F.size = some (.cells o.cells false 0) := by subst hH; simp [g9', n3]
      have h10 : H.get G1.size = some (.cells [.int .i64 0, .string ⟨⟨[]⟩⟩] false 0) := by subst hH; simp
      have eH : Ext NoB A H := by subst hH; have := eG1.size; (repeat first | exact Ext.refl | assumption | refine Ext.allocN ?_ | refine Ext.setN ?_ (by first | omega | (simp; done) | (simp; omega)))
      refine rencode_ok H o wo _ fun H1 f2 => ?_
      have i9 := f2.get h9 id
      have i10 := f2.get h10 id
      have eH1 := eH.trans f2
      have lh := AHeap.get_lt i9
      have lh2 := AHeap.get_lt i10
      have n4 : ¬ F.size = H1.size := by omega
      have n5 : ¬ G1.size = H1.size := by omega
      rw [hv]
      simp [resI, itemV, i9, i10, n4, n5, eqItem]
      generalize hI : AHeap.set _ _ _ = I
      have j9 : I.get F.size = some (.cells o.cells false 0) := by subst hI; simp [i9, n4]
      have j10 : I.get G1.size = some (.cells [.int .i64 0, .string ⟨⟨[]⟩⟩] false 0) := by subst hI; simp [i10, n5]
      have j12 : I.get H1.size = some (.cells [.int .i64 0, .string ⟨⟨[]⟩⟩] false 0) := by subst hI; simp
      have eI : Ext NoB A I := by subst hI; have := eH1.size; (repeat first | exact Ext.refl | assumption | refine Ext.allocN ?_ | refine Ext.setN ?_ (by first | omega | (simp; done) | (simp; omega)))
      refine may_ok I o wo _ fun J f3 => ?_
      rw [hv]
      simp [w1, r33]
      refine fin J _ (eI.trans f3) ?_ ?_
      · simp [r32]
      · simp
    | some l =>
      simp [resI, itemV, g9', n3]
      generalize hH : AHeap.set _ _ _ = H
      have h9 : H.get F.size = some (.cells o.cells false 0) := by subst hH; simp [g9', n3]
      have h10 : H.get G1.size = some (.cells [.int .i64 30, .string ⟨⟨l⟩⟩] false 0) := by subst hH; simp
      have eH : Ext NoB A H := by subst hH; have := eG1.size; (repeat first | exact Ext.refl | assumption | refine Ext.allocN ?_ | refine Ext.setN ?_ (by first | omega | (simp; done) | (simp; omega)))
      refine rencode_ok H o wo _ fun H1 f2 => ?_
      have i9 := f2.get h9 id
      have i10 := f2.get h10 id
      have eH1 := eH.trans f2
      have lh := AHeap.get_lt i9
      have lh2 := AHeap.get_lt i10
      have n4 : ¬ F.size = H1.size := by omega
      have n5 : ¬ G1.size = H1.size := by omega
      rw [hv]
      simp [resI, itemV, i9, i10, n4, n5, eqItem]
      generalize hI : AHeap.set _ _ _ = I
      have j9 : I.get F.size = some (.cells o.cells false 0) := by subst hI; simp [i9, n4]
      have j10 : I.get G1.size = some (.cells [.int .i64 30, .string ⟨⟨l⟩⟩] false 0) := by subst hI; simp [i10, n5]
      have j12 : I.get H1.size = some (.cells [.int .i64 30, .string ⟨⟨l⟩⟩] false 0) := by subst hI; simp
      have eI : Ext NoB A I := by subst hI; have := eH1.size; (repeat first | exact Ext.refl | assumption | refine Ext.allocN ?_ | refine Ext.setN ?_ (by first | omega | (simp; done) | (simp; omega)))
      refine may_ok I o wo _ fun J f3 => ?_
      rw [hv]
      simp [w1, r33]
      refine fin J _ (eI.trans f3) ?_ ?_
      · simp [r32]
      · simp
  · have : k = 5 := by omega
    subst this
    simp [r32, r33]
    refine works_ok F _ (hE.extN ex) ?_
    simp
end Go.Proofs.YtigknpfjhegkgaaGreatDoor
