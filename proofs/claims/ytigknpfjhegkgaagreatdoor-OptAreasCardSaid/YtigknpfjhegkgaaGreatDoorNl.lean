/- A text of this claim. -/
import Derived.Test.YtigknpfjhegkgaaGreatDoorWim
import Derived.Test.YtigknpfjhegkgaaGreatDoorNh
import Derived.Test.YtigknpfjhegkgaaGreatDoorNg
import Derived.KernelRfl
section
namespace Go.Proofs.YtigknpfjhegkgaaGreatDoor
open Go Go.AS
set_option maxRecDepth 100000
set_option linter.unusedSimpArgs false
set_option linter.unusedVariables false
attribute [local irreducible] Trie.set Trie.get Env.rd
attribute [local simp ↓] wV_b2s
attribute [local simp] Nat.add_assoc wD_cons'' wD_nil' wC_seq wC_ops wC_opsD_nil wC_cond wC_skip wC_ret wC_exit wC_block wO_cons' wO_nil wantedA wV_eq lop qop ev wL_some wL_none wPut envOf rd_set rd_leaf eqA thenC blockC wB_true wB_false endF unwindA resultsA resA tupleA rdCell rdCells wrCells cl fillP lay rep bi_eql bi_neq bi_lss bi_leq bi_gtr bi_geq bi_add bi_sub bs_eql bs_neq bi_shr4 unA get_set' AHeap.get_alloc oneCell beqd bned idxA
attribute [local simp] Op.len Op.one Cap.ln Jn.len Ds.ln Ad.len Cap.one Jn.one Ds.one Ad.one Op.take Op.at0 Op.head? Op.getCap Op.tCap Op.getJn Op.getDs Op.getAd Op.getIds Op.getPrio Op.getFail Op.getFast Op.getRst Op.putCap Op.putJn Op.putDs Op.putAd Op.putSub Op.putIds Op.putPrio Op.putFail Op.putFast Op.putRf Op.putRr Op.layAll Op.zeroC Op.vb
def RLayI (A0:AHeap) (lv:Value) (l:List Op) (m:Nat) (st:St):Prop:=∃ i v,m+i=l.length∧st.n=33∧st.dfs=[]∧st.env.rd 0=lv∧st.env.rd 5=.int .i64 (i:Nat)∧st.env.rd 4=v ∧
 Ext NoB A0 st.A∧SliceAt st.A 2 v ((l.take i).map itO).length (Ar.icells ((l.take i).map itO))∧(∀ j,Own v j→A0.size≤j)∧(l.take i).all (fun x=>x.enc.isSome)=true
theorem rlaying_ok (l:List Op) (lv:Value) (A0:AHeap) (Q:Value→AHeap→Prop) (h:ReadAt A0 38 lv l.length (opsC l)) (hw:∀ x ∈ l,x.W) (hn:l.length≤1000)
  (hq:∀ A',Ext NoB A0 A'→Q (.tuple ⟨[.string (layO l).1,.int .i64 (layO l).2]⟩) A'):wF T (.func (.func 17) #[] #[]) [lv] A0 Q:=by
 obtain ⟨a1,c1,rfl⟩:=h.val
 refine wF_func (first:=[]) (captured:=[]) t17 ⟨rfl,by decide⟩ ?_
 dsimp only [c17];simp
 refine wC_loop_inv (RLayI A0 (.slice a1 l.length c1) l) ?_ l.length _ ⟨0,.slice none 0 0,by omega,rfl,rfl,by simp,by simp,by simp,Ext.refl,.nil,(fun j ⟨_,_,_,q⟩=>by cases q),by simp⟩
 rintro m ⟨env,nn,dfs,A⟩ ⟨i,v,k0,k1,k2,k9,k11,k4,e1,s1,o1,hok⟩
 simp only at k1 k2 k9 k11 k4 e1 s1
 subst k1;subst k2
 by_cases hi:i<l.length
 ·obtain ⟨d1,p1,cc1,bs1,ro1,opn1,q1,q2,q3,q4⟩:=(h.ext e1 fun _ _ q=>q).elem2 hi
  rw [opsC_at l i hi] at q4
  cases q1
  rw [Nat.add_assoc] at q3
  have ht:l.take (i+1)=l.take i++[l[i]]:=by rw [List.take_add_one,List.getElem?_eq_getElem hi];rfl
  have hxw:=hw l[i] (List.getElem_mem hi)
  have hmem:=List.getElem_mem hi
  generalize l[i]=x at q4 ht hxw hmem
  have hii:(i:Int)<(l.length:Int):=by omega
  simp [k9,k11,hi,hii,q2,q3,q4]
  refine rencode_ok A x hxw _ fun C eC=>?_
  cases hv:x.enc with
  | none =>
    simp [resI,itemV]
    have hbad:l.all (fun x=>x.enc.isSome)=false:=by
     rw [List.all_eq_false]
     exact ⟨x,hmem,by rw [hv];simp⟩
    have hR:layO l=(⟨⟨[]⟩⟩,2):=by unfold layO;rw [hbad];rfl
    rw [hR] at hq
    refine hq _ ?_
    have:=(e1.trans eC);have:=this.size;(repeat first|exact Ext.refl|assumption|refine Ext.allocN ?_|refine Ext.setN ?_ (by first|omega|(simp;done)|(simp;omega)))
  | some t =>
    simp [resI,itemV,k4]
    generalize hD:AHeap.set _ _ _=D
    have eD:Ext NoB A D:=by subst hD;have:=eC.size;(repeat first|exact Ext.refl|assumption|refine Ext.allocN ?_|refine Ext.setN ?_ (by first|omega|(simp;done)|(simp;omega)))
    have zD:D.size=C.size+1:=by subst hD;rfl
    have ti:itO x=⟨30,⟨⟨t⟩⟩⟩:=by unfold itO;rw [hv];rfl
    have hlen:((l.take i).map itO).length<1000000:=by rw [List.length_map,List.length_take];omega
    obtain ⟨its,hits⟩:∃ its,its=(l.take i).map itO:=⟨_,rfl⟩
    rw [← hits] at s1 hlen
    obtain ⟨a2,c2,A2,s2,t2,u2,v2⟩:=Ar.appI D (D.alloc (.cells [.int .i64 30,.string ⟨⟨t⟩⟩] false 0)) v (.slice (some ⟨D.size,0,none⟩) 1 1) _ (itO x) (s1.ext eD fun _ _ q=>q) Ext.alloc rfl (by rw [ti];simp [firstA,rdCells,ENDCAP]) hlen
    rw [zD] at s2
    simp [s2]
    have ws:=wrap_succ i (by omega)
    simp [k11,ws]
    refine ⟨m - 1,by omega,i+1,_,by omega,rfl,rfl,by simp [k9],by simp,by simp;rfl,?_,?_,?_,?_⟩
    ·exact (e1.trans eD).trans2 u2 fun j hj q=>by have:=o1 j q;omega
    ·have em:(l.take (i+1)).map itO=(l.take i).map itO++[itO x]:=by rw [ht];simp
     rw [em,← hits];exact t2
    ·intro j hj
     have:=e1.size
     have:=eD.size
     rcases v2 j hj with q|q
     ·exact o1 j q
     ·omega
    ·rw [ht,List.all_append,hok];simp [hv]
 ·have hm:l.take i=l:=List.take_of_length_le (by omega)
  rw [hm] at s1 hok
  have hii:¬ (i:Int)<(l.length:Int):=by omega
  simp [k9,k11,hi,hii,k4]
  refine Ar.reflay_ok _ v A _ s1.read (by rw [List.length_map];exact hn) fun A' e'=>?_
  have hR:layO l=Ar.layR (l.map itO):=by unfold layO;rw [hok];rfl
  rw [hR] at hq
  simp
  exact hq _ (e1.trans e')
def RAllI (A0:AHeap) (sv:Value) (its:List Ar.It) (m:Nat) (st:St):Prop:=∃ i v l,m+i=its.length∧st.n=46∧st.dfs=[]∧st.env.rd 4=sv∧st.env.rd 7=.int .i64 (i:Nat)∧st.env.rd 6=v ∧
 Ext NoB A0 st.A∧SliceAt st.A 38 v l.length (opsC l)∧(∀ j,Own v j→A0.size≤j)∧dAll its=(l++(dAll (its.drop i)).1,(dAll (its.drop i)).2)∧l.length≤i
theorem rall_read (A:AHeap) (s:List UInt8) (hs:s.length<900000) (Q:Value→AHeap→Prop)
  (hq:∀ A' v,Ext NoB A A'→SliceAt A' 38 v (allO s).1.length (opsC (allO s).1)→(∀ j,Own v j→A.size≤j)→Q (.tuple ⟨[v,.int .i64 (allO s).2]⟩) A'):wF T (.func (.func 20) #[] #[]) [.string ⟨⟨s⟩⟩] A Q:=by
 refine wF_func (first:=[]) (captured:=[]) t20 ⟨rfl,by decide⟩ ?_
 dsimp only [c20]
 simp
 have no:∀ k j,Own (.slice none 0 0) j→k≤j:=fun k j ⟨_,_,_,q⟩=>by cases q
 refine Ar.refwalk_ok ⟨⟨s⟩⟩ A _ (Nat.lt_of_lt_of_le hs (by decide)) fun B sv y1 y2 y3=>?_
 have wl:=Ar.walkR_len s
 have hkeep:∀ x ∈ (Ar.walkR s).1,x.body.data.toList.length<900000:=by
  intro x hx
  have:=Ar.walkR_body s x hx
  omega
 unfold allO at hq
 change SliceAt B 2 sv (Ar.walkR s).1.length (Ar.icells (Ar.walkR s).1) at y1
 generalize hW:Ar.walkR s=W at y1 hq wl hkeep ⊢
 obtain ⟨its,e⟩:=W
 simp only at y1 hq wl hkeep
 obtain ⟨a1,c1,hsv⟩:=y1.read.val
 subst hsv
 by_cases he:e=0
 case neg =>
  rw [if_pos he] at hq
  simp [he]
  exact hq _ _ y2 .nil (no _)
 subst he
 rw [if_neg (by decide)] at hq
 simp
 refine wC_loop_inv (RAllI B (.slice a1 its.length c1) its) ?_ its.length _ ⟨0,.slice none 0 0,[],by omega,rfl,rfl,by simp,by simp,by simp,Ext.refl,.nil,no _,by simp,by simp⟩
 rintro m ⟨env,nn,dfs,D⟩ ⟨i,v,l,k0,k1,k2,k4,k7,k6,e1,s1,o1,hd,hll⟩
 simp only at k1 k2 k4 k7 k6 e1 s1
 subst k1;subst k2
 have eAD:Ext NoB A D:=y2.trans e1
 have z2:=y2.size
 by_cases hi:i<its.length
 ·obtain ⟨d1,p1,cc1,bs1,ro1,opn1,q1,q2,q3,q4⟩:=(y1.read.ext e1 fun _ _ q=>q).elem2 hi
  rw [Ar.icells_at its i hi] at q4
  cases q1
  rw [Nat.add_assoc] at q3
  have hdr:its.drop i=its[i]::its.drop (i+1):=List.drop_eq_getElem_cons hi
  have hxl:=hkeep its[i] (List.getElem_mem hi)
  rw [hdr] at hd
  generalize its[i]=x at q4 hd hxl
  obtain ⟨k,⟨⟨b⟩⟩⟩:=x
  simp only at q4 hxl
  have hii:(i:Int)<(its.length:Int):=by omega
  simp [k4,k7,hi,hii,q2,q3,q4]
  refine rdecode_ok D k b hxl _ fun G eG=>?_
  have ws:=wrap_succ i (by omega)
  cases hx:Op.dec k b with
  | ok y =>
    have hd2:dAll its=((l++[y])++(dAll (its.drop (i+1))).1,(dAll (its.drop (i+1))).2):=by
     rw [hd];simp [dAll,hx]
    simp [resO,resD,k6]
    generalize hH:AHeap.set _ _ _=H
    have zH:H.size=G.size+1:=by subst hH;rfl
    have eH:Ext NoB D H:=by subst hH;have:=eG.size;(repeat first|exact Ext.refl|assumption|refine Ext.allocN ?_|refine Ext.setN ?_ (by first|omega|(simp;done)|(simp;omega)))
    have hlen:l.length<1000000:=by omega
    obtain ⟨a2,c2,A2,s2,t2,u2,v2⟩:=appO H (H.alloc (.cells y.cells false 0)) v (.slice (some ⟨H.size,0,none⟩) 1 1) l y (s1.ext eH fun _ _ q=>q) Ext.alloc rfl (by simp [firstA,rdCells,ENDCAP]) rfl hlen
    rw [zH] at s2
    simp [s2]
    simp [k7,ws]
    refine ⟨m - 1,by omega,i+1,_,l++[y],by omega,rfl,rfl,by simp [k4],by simp,by simp;rfl,?_,?_,?_,hd2,by simp;omega⟩
    ·exact (e1.trans eH).trans2 u2 fun j hj q=>by have:=o1 j q;omega
    ·simpa using t2
    ·intro j hj
     have:=e1.size
     have:=eH.size
     rcases v2 j hj with q|q
     ·exact o1 j q
     ·omega
  | error er =>
    have her:=op_err hx
    simp [resO,resD]
    generalize hH:AHeap.set _ _ _=H
    have eH:Ext NoB D H:=by subst hH;have:=eG.size;(repeat first|exact Ext.refl|assumption|refine Ext.allocN ?_|refine Ext.setN ?_ (by first|omega|(simp;done)|(simp;omega)))
    by_cases h7:er=7
    ·have hd2:dAll its=(l++(dAll (its.drop (i+1))).1,(dAll (its.drop (i+1))).2):=by
      rw [hd];simp [dAll,hx,h7]
     simp [h7,k7,ws]
     exact ⟨m - 1,by omega,i+1,_,l,by omega,rfl,rfl,by simp [k4],by simp,by simp [k6],e1.trans eH,s1.ext eH fun _ _ q=>q,o1,hd2,by omega⟩
    ·have hd2:dAll its=(l,er):=by rw [hd];simp [dAll,hx,h7]
     rw [hd2] at hq
     simp only at hq
     rw [if_neg her] at hq
     simp [h7,her]
     exact hq _ _ (eAD.trans eH) .nil (no _)
 ·have hm:its.drop i=[]:=List.drop_eq_nil_of_le (by omega)
  rw [hm] at hd
  simp only [dAll,List.append_nil] at hd
  rw [hd] at hq
  simp only [if_true] at hq
  have hii:¬ (i:Int)<(its.length:Int):=by omega
  simp [k4,k7,hi,hii,k6]
  refine hq D v eAD s1 fun j hj=>?_
  have:=o1 j hj
  omega
theorem quoA (a b:Nat) (hb:b≠0) (ha:a<9000000000000000000):binA .quo (.int .i64 (a:Nat)) (.int .i64 (b:Nat))=some (.int .i64 ((a / b:Nat):Int)):=by
 have h3:(a:Int).tdiv (b:Int)=((a / b:Nat):Int):=by rw [Int.tdiv_eq_ediv_of_nonneg (by omega)];exact (Int.natCast_ediv _ _).symm
 have h2:a / b≤a:=Nat.div_le_self _ _
 simp only [binA,ne_eq,not_true_eq_false,if_false]
 rw [if_neg (by omega),h3]
 generalize a / b=c at h2
 rw [IntWalk.i64_in _ (by omega)]
theorem mulA (a b:Nat) (ha:a*b<9000000000000000000):binA .mul (.int .i64 (a:Nat)) (.int .i64 (b:Nat))=some (.int .i64 ((a*b:Nat):Int)):=by
 simp only [binA,ne_eq,not_true_eq_false,if_false]
 rw [show (a:Int)*(b:Int)=((a*b:Nat):Int) by simp]
 generalize a*b=c at ha
 rw [IntWalk.i64_in _ (by omega)]
theorem dAll_len:∀ l:List Ar.It,(dAll l).1.length≤l.length
 | []=>Nat.le_refl _
 | x::r=>by
   have:=dAll_len r
   unfold dAll
   split
   ·simp only [List.length_cons];omega
   ·split
    ·simp only [List.length_cons];omega
    ·simp
theorem allO_len (s:List UInt8):(allO s).1.length≤s.length:=by
 have h1:=Ar.walkR_len s
 have h2:=dAll_len (Ar.walkR s).1
 unfold allO
 split
 ·simp
 ·split
  ·simp only;omega
  ·simp
def TxI (w:List Value) (A0:AHeap) (m:Nat) (st:St):Prop:=∃ j:Nat,j≤5∧m=5 - j∧st.n=167∧st.dfs=[]∧(st.env.rd 142=.agg ⟨w⟩∧st.env.rd 143=.int .i64 (j:Nat))∧Ext NoB A0 st.A
theorem texts_ok (A0 A:AHeap) (v19:Value) (x' ar bent odd:List UInt8) (hx:x'.length≤60) (har:ar.length<900000) (hb:bent.length<900000) (ho:odd.length<900000) (hE:EH A0) (ex:Ext NoB A0 A) (hbs:b2s A v19=some (.string ⟨⟨bent⟩⟩))
  (env:Env) (r0:env.rd 0=.string ⟨⟨x'⟩⟩) (r17:env.rd 17=.string ⟨⟨ar⟩⟩) (r19:env.rd 19=v19) (r20:env.rd 20=.string ⟨⟨odd⟩⟩) :
  wC T 4 none c4t { env:=env,n:=167,dfs:=[],A:=A } (endF [.inl 8] (fun v _=>v=.bool true)):=by
 dsimp only [c4t]
 have hq:binA .quo (.int .i64 (x'.length:Nat)) (.int .i64 4)=_:=quoA x'.length 4 (by decide) (by omega)
 have hm:binA .mul (.int .i64 ((x'.length / 4:Nat):Int)) (.int .i64 4)=_:=mulA (x'.length / 4) 4 (by omega)
 have hle:x'.length / 4*4≤x'.length:=by omega
 have hcut:sliceSA (.string ⟨⟨x'⟩⟩) none (some (.int .i64 ((x'.length / 4*4:Nat):Int)))=some (.string ⟨⟨x'.take (x'.length / 4*4)⟩⟩):=sl_to x' .i64 _ hle
 have hcl:(x'.take (x'.length / 4*4)).length≤60:=by rw [List.length_take];omega
 generalize x'.length / 4*4=c2 at hm hcut hcl
 generalize x'.length / 4=c1 at hq hm
 generalize x'.take c2=cut at hcut hcl
 have hall:∀ v ∈ [Value.string ⟨⟨x'⟩⟩,.string ⟨⟨cut⟩⟩,.string ⟨⟨ar⟩⟩,.string ⟨⟨bent⟩⟩,.string ⟨⟨odd⟩⟩],∃ s:List UInt8,v=.string ⟨⟨s⟩⟩∧s.length<900000:=by
  intro v hv
  simp only [List.mem_cons,List.not_mem_nil,or_false] at hv
  rcases hv with rfl|rfl|rfl|rfl|rfl
  ·exact ⟨_,rfl,by omega⟩
  ·exact ⟨_,rfl,by omega⟩
  ·exact ⟨_,rfl,by omega⟩
  ·exact ⟨_,rfl,by omega⟩
  ·exact ⟨_,rfl,by omega⟩
 have hw5:[Value.string ⟨⟨x'⟩⟩,.string ⟨⟨cut⟩⟩,.string ⟨⟨ar⟩⟩,.string ⟨⟨bent⟩⟩,.string ⟨⟨odd⟩⟩].length=5:=rfl
 obtain ⟨w,hw⟩:∃ w,w=[Value.string ⟨⟨x'⟩⟩,.string ⟨⟨cut⟩⟩,.string ⟨⟨ar⟩⟩,.string ⟨⟨bent⟩⟩,.string ⟨⟨odd⟩⟩]:=⟨_,rfl⟩
 rw [← hw] at hall hw5
 simp [r0,r17,r19,r20,hbs,hq,hm,hcut]
 refine wC_loop_inv (TxI w A0) ?_ 5 _ ⟨0,by omega,rfl,rfl,rfl,⟨by simp [hw],by simp⟩,ex⟩
 rintro m ⟨env,nn,dfs,F⟩ ⟨k,hk,rfl,s1,s2,⟨r75,r76⟩,ex⟩
 simp only at s1 s2 r75 r76 ex
 subst s1;subst s2
 by_cases c:k<5
 ·obtain ⟨s,hs,hsl⟩:=hall w[k] (List.getElem_mem (by omega))
  have hj:w[k]?=some (.string ⟨⟨s⟩⟩):=by rw [List.getElem?_eq_getElem (by omega),hs]
  have kc:(k:Int)<5:=by omega
  have w1:IntKind.i64.wrap ((k:Int)+1)=((k+1:Nat):Int):=IntWalk.i64_in _ (by omega)
  have hj4:∀ h:k<w.length,w[k]'h=.string ⟨⟨s⟩⟩:=fun h=>Option.some.inj ((List.getElem?_eq_getElem h).symm.trans hj)
  simp [r75,r76,c,kc,hj,hj4,hw5]
  refine all_read F s (by omega) (hE.extN ex) _ fun G v1 eG sG oG=>?_
  simp
  refine rall_read G s hsl _ fun H v2 eH sH oH=>?_
  have sG':=sG.ext eH fun _ _ q=>q
  have hal:(allO s).1.length<1000000:=by
   have:=allO_len s;omega
  simp
  refine same_ok v1 v2 _ _ H _ sG'.read sH.read hal ?_
  simp [r76,w1]
  exact ⟨5 - (k+1),by omega,k+1,by omega,rfl,rfl,rfl,⟨by simp [r75],by simp⟩,(ex.trans eG).trans eH⟩
 ·have kc:¬ (k:Int)<5:=by omega
  simp [r75,r76,c,kc]
  refine works_ok F _ (hE.extN ex) ?_
  simp
theorem layR_len (its:List Ar.It):(Ar.layR its).1.data.toList.length≤43:=by
 unfold Ar.layR
 split
 ·split
  ·show (Ar.pad (Ar.raw its)).length≤43
   rw [Ar.pad_len];omega
  ·simp
 ·simp
theorem layO_len (l:List Op):(layO l).1.data.toList.length≤43:=by
 unfold layO
 split
 ·exact layR_len _
 ·simp
theorem min10 (l:List UInt8):foldV minV (.int .i64 ((l.length:Nat):Int)) [.int .i64 10]=some (.int .i64 ((min l.length 10:Nat):Int)):=by
 simp only [foldV,minV]
 by_cases h:(10:Int)<(l.length:Int)
 ·rw [if_pos h,Nat.min_eq_right (by omega)];rfl
 ·rw [if_neg h,Nat.min_eq_left (by omega)]
theorem oddA_ok (A0 A:AHeap) (v19:Value) (q7:Nat) (n0 n1:Nat) (h1:n1<256) (x' ar bent:List UInt8) (hx:x'.length≤60) (har:ar.length<900000) (hb:bent.length<900000) (hE:EH A0) (ex:Ext NoB A0 A) (hbs:∀ B,Ext NoB A B→b2s B v19=some (.string ⟨⟨bent⟩⟩))
  (g7:A.get q7=some (.cells [.int .u8 (n0:Nat),.int .u8 (n1:Nat)] false 0))
  (env:Env) (r0:env.rd 0=.string ⟨⟨x'⟩⟩) (r7:env.rd 7=.pointer (some ⟨q7,0,none⟩)) (r17:env.rd 17=.string ⟨⟨ar⟩⟩) (r19:env.rd 19=v19) :
  wC T 4 none c4s { env:=env,n:=167,dfs:=[],A:=A } (endF [.inl 8] (fun v _=>v=.bool true)):=by
 dsimp only [c4s]
 have hrem:binA .rem (.int .i64 (n1:Nat)) (.int .i64 254)=some (.int .i64 ((n1 % 254:Nat):Int)):=by
  simp only [binA,ne_eq,not_true_eq_false,if_false]
  rw [if_neg (by decide),show (254:Int)=((254:Nat):Int) from rfl,tmodN]
 have hr:n1 % 254<254:=Nat.mod_lt _ (by decide)
 generalize n1 % 254=r at hrem hr
 have wn1:IntKind.i64.wrap ((n1:Nat):Int)=(n1:Nat):=IntWalk.i64_in _ (by omega)
 have wr:IntKind.i64.wrap (2+(r:Int))=2+(r:Int):=IntWalk.i64_in _ (by omega)
 have hmin:=min10 x'
 have hsl:sliceSA (.string ⟨⟨x'⟩⟩) none (some (.int .i64 ((min x'.length 10:Nat):Int)))=some (.string ⟨⟨x'.take (min x'.length 10)⟩⟩):=sl_to x' .i64 _ (Nat.min_le_left _ _)
 generalize x'.take (min x'.length 10)=b10 at hsl
 generalize min x'.length 10=kk at hmin hsl
 simp [r0,r7,g7,wn1,hrem,wr,hmin,hsl]
 refine Ar.reflay_ok [⟨2+(r:Int),⟨⟨b10⟩⟩⟩] _ _ _ (.inr (.inl ⟨A.size,0,1,_,false,0,rfl,by rw [AHeap.get_alloc,if_pos rfl],by simp,by simp [Ar.icells],fun q=>by cases q⟩)) (by simp) fun B eB=>?_
 have eB':Ext NoB A B:=Ext.trans Ext.alloc eB
 have hol:=layR_len [⟨2+(r:Int),⟨⟨b10⟩⟩⟩]
 generalize Ar.layR [⟨2+(r:Int),⟨⟨b10⟩⟩⟩]=p at hol ⊢
 obtain ⟨⟨⟨odd⟩⟩,e⟩:=p
 change odd.length≤43 at hol
 simp
 exact texts_ok A0 B v19 x' ar bent odd hx har hb (by omega) hE (ex.trans eB') (hbs B eB') _ (by simp [r0]) (by simp [r17]) (by simp [r19]) (by simp)
theorem bent_ok (A0 A:AHeap) (q7:Nat) (n0 n1:Nat) (h0:n0<256) (h1:n1<256) (x' ar:List UInt8) (hx:x'.length≤60) (har:ar.length≤43) (hE:EH A0) (ex:Ext NoB A0 A)
  (g7:A.get q7=some (.cells [.int .u8 (n0:Nat),.int .u8 (n1:Nat)] false 0))
  (env:Env) (r0:env.rd 0=.string ⟨⟨x'⟩⟩) (r7:env.rd 7=.pointer (some ⟨q7,0,none⟩)) (r17:env.rd 17=.string ⟨⟨ar⟩⟩) :
  wC T 4 none c4r { env:=env,n:=167,dfs:=[],A:=A } (endF [.inl 8] (fun v _=>v=.bool true)):=by
 dsimp only [c4r]
 have l7:=AHeap.get_lt g7
 have wn0:IntKind.i64.wrap ((n0:Nat):Int)=(n0:Nat):=IntWalk.i64_in _ (by omega)
 by_cases hnil:ar=[]
 ·subst hnil
  simp [r0,r7,r17]
  have g7':(A.alloc (.cells [] false 1)).get q7=some (.cells [.int .u8 (n0:Nat),.int .u8 (n1:Nat)] false 0):=by rw [AHeap.get_alloc,if_neg (by omega)];exact g7
  refine oddA_ok A0 (A.alloc (.cells [] false 1)) (.slice (some ⟨A.size,0,none⟩) 0 OPEN) q7 n0 n1 h1 x' [] [] hx (by simp) (by simp) hE (ex.trans Ext.alloc) (fun B eB=>?_) g7' _ (by simp [r0]) (by simp [r7]) (by simp [r17]) (by simp)
  exact b2s_ok (A:=B) (v:=.slice (some ⟨A.size,0,none⟩) 0 OPEN) (l:=[]) (.inr (.inl ⟨A.size,0,OPEN,[],false,1,rfl,eB.get (by rw [AHeap.get_alloc,if_pos rfl]) id,by simp,by simp [bcells],fun z=>absurd z (by decide)⟩))
 ·have hpos:0<ar.length:=List.length_pos_iff.2 hnil
  have hne:¬ (ar.length:Int)=0:=by omega
  have hrem:binA .rem (.int .i64 (n0:Nat)) (.int .i64 (ar.length:Nat))=some (.int .i64 ((n0 % ar.length:Nat):Int)):=by
   simp only [binA,ne_eq,not_true_eq_false,if_false]
   rw [if_neg hne,tmodN]
  have hj:n0 % ar.length<ar.length:=Nat.mod_lt _ (by omega)
  generalize n0 % ar.length=j at hrem hj
  have hji:(j:Int)<(ar.length:Int):=by omega
  simp [r0,r7,r17,hnil,hne,hpos,g7,wn0,hrem,hji,hj,show ¬ (q7=A.size) by omega,show j+1≤ar.length by omega]
  generalize hF:AHeap.set _ _ _=F
  have hn1:(Value.int .u8 (n1:Nat))=byt (UInt8.ofNat n1):=by rw [byt,ofNat_toNat h1]
  have f9:F.get A.size=some (.cells (bcells (ar.set j (UInt8.ofNat n1))) false 1):=by
   subst hF;simp [bcells,List.map_set,hn1];rfl
  have f7:F.get q7=some (.cells [.int .u8 (n0:Nat),.int .u8 (n1:Nat)] false 0):=by subst hF;simp [g7,show ¬ (q7=A.size) by omega]
  have eF:Ext NoB A F:=by subst hF;(repeat first|exact Ext.refl|assumption|refine Ext.allocN ?_|refine Ext.setN ?_ (by first|omega|(simp;done)|(simp;omega)))
  have hlen:(ar.set j (UInt8.ofNat n1)).length=ar.length:=by simp
  have hbs:∀ B,Ext NoB F B→b2s B (.slice (some ⟨A.size,0,none⟩) ar.length OPEN)=some (.string ⟨⟨ar.set j (UInt8.ofNat n1)⟩⟩):=by
   intro B eB
   have:=b2s_ok (A:=B) (v:=.slice (some ⟨A.size,0,none⟩) (ar.set j (UInt8.ofNat n1)).length OPEN) (l:=ar.set j (UInt8.ofNat n1)) (.inr (.inl ⟨A.size,0,OPEN,_,false,1,rfl,eB.get f9 id,by simp [bcells],by rw [List.drop_zero,Nat.mul_one,List.take_of_length_le (by simp [bcells])],fun z=>absurd z (by decide)⟩))
   rwa [hlen] at this
  have hb2:(ar.set j (UInt8.ofNat n1)).length≤43:=by rw [hlen];exact har
  generalize ar.set j (UInt8.ofNat n1)=bent at hbs hb2
  exact oddA_ok A0 F _ q7 n0 n1 h1 x' ar bent hx (by omega) (by omega) hE (ex.trans eF) hbs f7 _ (by simp [r0]) (by simp [r7]) (by simp [r17]) (by simp)
theorem opsC_take (l:List Op) (k:Nat):(opsC l).take (k*38)=opsC (l.take k):=by
 induction l generalizing k with
 | nil=>simp [opsC]
 | cons x l ih =>
   cases k with
   | zero=>simp [opsC]
   | succ k =>
     show (x.cells++opsC l).take ((k+1)*38)=x.cells++opsC (l.take k)
     rw [List.take_append,Op.len,List.take_of_length_le (by rw [Op.len];omega),show (k+1)*38 - 38=k*38 by omega,ih]
def ArI (A0 A:AHeap) (q7:Nat) (x':List UInt8) (v9:Value) (row:List Op) (m:Nat) (st:St):Prop:=∃ s:List UInt8,m≤row.length+1∧st.n=167∧st.dfs=[]∧(st.env.rd 0=.string ⟨⟨x'⟩⟩∧st.env.rd 7=.pointer (some ⟨q7,0,none⟩)∧st.env.rd 9=v9∧st.env.rd 17=.string ⟨⟨s⟩⟩∧st.env.rd 18=.int .i64 ((m:Nat) - 1:Int))∧s.length≤43∧Ext NoB A st.A
theorem area_ok (A0 A:AHeap) (q7:Nat) (n0 n1:Nat) (h0:n0<256) (h1:n1<256) (x':List UInt8) (hx:x'.length≤60) (hE:EH A0) (ex:Ext NoB A0 A) (v9:Value) (row:List Op) (hrl:row.length≤8) (hrw:∀ x ∈ row,x.W) (s9:SliceAt A 38 v9 row.length (opsC row))
  (g7:A.get q7=some (.cells [.int .u8 (n0:Nat),.int .u8 (n1:Nat)] false 0))
  (env:Env) (r0:env.rd 0=.string ⟨⟨x'⟩⟩) (r7:env.rd 7=.pointer (some ⟨q7,0,none⟩)) (r9:env.rd 9=v9) :
  wC T 4 none c4q { env:=env,n:=167,dfs:=[],A:=A } (endF [.inl 8] (fun v _=>v=.bool true)):=by
 dsimp only [c4q]
 obtain ⟨a9,c9,rfl⟩:=s9.read.val
 simp [r9]
 refine wC_loop_inv (ArI A0 A q7 x' (.slice a9 row.length c9) row) ?_ (row.length+1) _ ⟨[],by omega,rfl,rfl,⟨by simp [r0],by simp [r7],by simp [r9],by simp,by simp⟩,by simp,Ext.refl⟩
 rintro m ⟨env,nn,dfs,B⟩ ⟨s,hm,k1,k2,⟨r0,r7,r9,r17,r18⟩,hs,eB⟩
 simp only at k1 k2 r0 r7 r9 r17 r18 eB
 subst k1;subst k2
 have fin:∀ env':Env,env'.rd 0=.string ⟨⟨x'⟩⟩→env'.rd 7=.pointer (some ⟨q7,0,none⟩)→env'.rd 17=.string ⟨⟨s⟩⟩→wC T 4 none c4r { env:=env',n:=167,dfs:=[],A:=B } (endF [.inl 8] (fun v _=>v=.bool true)) :=
  fun env' e0 e7 e17=>bent_ok A0 B q7 n0 n1 h0 h1 x' s hx hs hE (ex.trans eB) (eB.get g7 id) env' e0 e7 e17
 cases m with
 | zero =>
   have r18':env.rd 18=.int .i64 (-1):=by rw [r18];rfl
   simp [r18']
   exact fin _ (by simp [r0]) (by simp [r7]) (by simp [r17])
 | succ k =>
   have r18':env.rd 18=.int .i64 (k:Nat):=by rw [r18];congr 1;omega
   have kc:(0:Int)≤(k:Int):=by omega
   by_cases hnil:s=[]
   ·subst hnil
    obtain ⟨v',z1,z2,z3⟩:=Ar.front (k2:=.i64) (s9.ext eB fun _ _ q=>q) (by decide) (show k≤row.length by omega) (by omega)
    rw [opsC_take] at z2
    have tl:(row.take k).length=k:=by rw [List.length_take];omega
    have w1:IntKind.i64.wrap ((k:Int) - 1)=(k:Int) - 1:=IntWalk.i64_in _ (by omega)
    simp [r18',r17,r9,kc,z1]
    refine rlaying_ok (row.take k) v' B _ (by rw [tl];exact z2) (fun x hx=>hrw x (List.mem_of_mem_take hx)) (by omega) fun C eC=>?_
    have hsl:=layO_len (row.take k)
    generalize layO (row.take k)=p at hsl ⊢
    obtain ⟨⟨⟨s'⟩⟩,e⟩:=p
    change s'.length≤43 at hsl
    simp [r18',w1]
    exact ⟨k,by omega,s',by omega,rfl,rfl,⟨by simp [r0],by simp [r7],by simp [r9],by simp,by simp⟩,hsl,eB.trans eC⟩
   ·simp [r18',r17,kc,hnil]
    exact fin _ (by simp [r0]) (by simp [r7]) (by simp [r17])
theorem opsC_one:∀ l:List Op,(opsC l).all oneCell=true
 | []=>rfl
 | x::l=>by
   show (x.cells++opsC l).all oneCell=true
   rw [List.all_append,opsC_one l,Op.one];rfl
theorem copyO (A:AHeap) (x:Value) (l:List Op) (hx':ReadAt (A.alloc (.cells [] false 0)) 38 x l.length (opsC l)) (hn:l.length<1000000) :
  ∃ a c A',appA (A.alloc (.cells [] false 0)) 38 288 (.slice (some ⟨A.size,0,none⟩) 0 0) x=some (.slice a l.length c,A')∧SliceAt A' 38 (.slice a l.length c) l.length (opsC l)∧Ext NoB A A'∧∀ j,Own (.slice a l.length c) j→A.size≤j:=by
 have e:Ext NoB A (A.alloc (.cells [] false 0)):=Ext.alloc
 have hf:=hx'.firstA (Nat.le_refl _)
 rw [List.take_of_length_le (by rw [hx'.length];omega)] at hf
 have s0:SliceAt (A.alloc (.cells [] false 0)) 38 (.slice (some ⟨A.size,0,none⟩) 0 0) 0 []:=.inr ⟨A.size,0,0,[],0,rfl,by rw [AHeap.get_alloc,if_pos rfl],by simp,by simp,.inr (.inl ⟨rfl,by decide⟩)⟩
 obtain ⟨v',A',k1,k2,k3,k4⟩:=s0.append (x:=x) (m:=l.length) (bytes:=288) (new:=opsC l) (by decide) hx'.lenA hf (opsC_one l) (opsC_len l) (by omega) (by decide) (by obtain ⟨a,c,rfl⟩:=hx'.val;simp [isStr])
 obtain ⟨a',c',hv⟩:=k2.read.val
 subst hv
 rw [Nat.zero_add] at k1 k2 k4
 refine ⟨a',c',A',k1,by simpa using k2,e.trans2 (S':=Own (.slice (some ⟨A.size,0,none⟩) 0 0)) k3 ?_,fun j hj=>?_⟩
 ·rintro j hj ⟨o,n,c,q⟩;cases q;omega
 ·rcases k4 j hj with ⟨o,n,c,q⟩ | q
  ·cases q;exact Nat.le_refl _
  ·simp at q;omega
def TwI (w:List Value) (A:AHeap) (q7:Nat) (x':List UInt8) (v9:Value) (m:Nat) (st:St):Prop:=∃ j:Nat,j≤2∧m=2 - j∧st.n=167∧st.dfs=[]∧(st.env.rd 60=.agg ⟨w⟩∧st.env.rd 61=.int .i64 (j:Nat)∧st.env.rd 0=.string ⟨⟨x'⟩⟩∧st.env.rd 7=.pointer (some ⟨q7,0,none⟩)∧st.env.rd 9=v9)∧Ext NoB A st.A
theorem two_ok (A0 A:AHeap) (q6 q7:Nat) (o:Op) (hof:o.W) (n0 n1:Nat) (h0:n0<256) (h1:n1<256) (x':List UInt8) (hx:x'.length≤60) (hE:EH A0) (ex:Ext NoB A0 A) (v9:Value) (row:List Op) (hrl:row.length≤8) (hrw:∀ x ∈ row,x.W) (s9:SliceAt A 38 v9 row.length (opsC row))
  (g6:A.get q6=some (.cells o.cells false 0)) (g7:A.get q7=some (.cells [.int .u8 (n0:Nat),.int .u8 (n1:Nat)] false 0))
  (env:Env) (r0:env.rd 0=.string ⟨⟨x'⟩⟩) (r6:env.rd 6=.pointer (some ⟨q6,0,none⟩)) (r7:env.rd 7=.pointer (some ⟨q7,0,none⟩)) (r9:env.rd 9=v9) :
  wC T 4 none c4p { env:=env,n:=167,dfs:=[],A:=A } (endF [.inl 8] (fun v _=>v=.bool true)):=by
 dsimp only [c4p]
 have l6:=AHeap.get_lt g6
 have n6:¬ q6=A.size:=by omega
 obtain ⟨aa,cc,A2,y1,y2,y3,y4⟩:=copyO A v9 row ((s9.ext (S:=NoB) (A':=A.alloc (.cells [] false 0)) Ext.alloc fun _ _ q=>q).read) (by omega)
 have g6':=y3.get g6 id
 obtain ⟨a3,c3,A3,u1,u2,u3,u4⟩:=appO A2 (A2.alloc (.cells o.cells false 0)) (.slice aa row.length cc) (.slice (some ⟨A2.size,0,none⟩) 1 1) row o y2 Ext.alloc rfl (by simp [firstA,rdCells,ENDCAP]) rfl (by omega)
 have e3:Ext NoB A A3:=y3.trans2 u3 fun j hj q=>by have:=y4 j q;omega
 obtain ⟨a9,c9,rfl⟩:=s9.read.val
 simp
 refine wC_opsD_chk ?_
 simp [r6,r9,g6,g6',n6,y1,u1]
 refine wE_intro ?_ ?_
 ·simp only [List.all_cons,List.all_nil,chkOk,List.nil_append,List.cons_append,List.getElem?_cons_succ,List.getElem?_cons_zero]
  simp [Bx,r6,r9,g6,g6',n6,vbeq]
 ·have z2:SliceAt A3 38 (.slice a3 (row.length+1) c3) (row++[o]).length (opsC (row++[o])):=u2
  have s93:=s9.read.ext e3 fun _ _ q=>q
  have h7:=e3.get g7 id
  have hall:∀ v ∈ [Value.slice a9 row.length c9,Value.slice a3 (row.length+1) c3],∃ l:List Op,ReadAt A3 38 v l.length (opsC l)∧(∀ x ∈ l,x.W)∧l.length≤9:=by
   intro v hv
   simp only [List.mem_cons,List.not_mem_nil,or_false] at hv
   rcases hv with rfl|rfl
   ·exact ⟨row,s93,hrw,by omega⟩
   ·refine ⟨row++[o],z2.read,fun x hx=>?_,by simp;omega⟩
    rcases List.mem_append.1 hx with q|q
    ·exact hrw x q
    ·rw [List.mem_singleton.1 q];exact hof
  have hw2:[Value.slice a9 row.length c9,Value.slice a3 (row.length+1) c3].length=2:=rfl
  simp
  obtain ⟨w,hw⟩:∃ w,w=[Value.slice a9 row.length c9,Value.slice a3 (row.length+1) c3]:=⟨_,rfl⟩
  rw [← hw] at hall hw2
  refine wC_loop_inv (TwI w A3 q7 x' (.slice a9 row.length c9)) ?_ 2 _ ⟨0,by omega,rfl,rfl,rfl,⟨by simp [hw],by simp,by simp [r0],by simp [r7],by simp [r9]⟩,Ext.refl⟩
  rintro m ⟨env,nn,dfs,F⟩ ⟨k,hk,rfl,s1,s2,⟨r75,r76,r0,r7,r9⟩,eF⟩
  simp only at s1 s2 r75 r76 r0 r7 r9 eF
  subst s1;subst s2
  by_cases c:k<2
  ·obtain ⟨l,hl1,hl2,hl3⟩:=hall w[k] (List.getElem_mem (by omega))
   obtain ⟨v,hv⟩:∃ v,v=w[k]:=⟨_,rfl⟩
   rw [← hv] at hl1
   have hj:w[k]?=some v:=by rw [List.getElem?_eq_getElem (by omega),hv]
   have kc:(k:Int)<2:=by omega
   have w1:IntKind.i64.wrap ((k:Int)+1)=((k+1:Nat):Int):=IntWalk.i64_in _ (by omega)
   have hj4:∀ h:k<w.length,w[k]'h=v:=fun h=>Option.some.inj ((List.getElem?_eq_getElem h).symm.trans hj)
   simp [r75,r76,c,kc,hj,hj4,hw2]
   have hlF:=hl1.ext eF fun _ _ q=>q
   refine laying_ok l v F _ hlF hl2 (by omega) fun G eG=>?_
   have hlG:=hlF.ext eG fun _ _ q=>q
   simp
   refine rlaying_ok l v G _ hlG hl2 (by omega) fun H eH=>?_
   generalize layO l=p
   obtain ⟨⟨⟨s'⟩⟩,e⟩:=p
   simp [r76,w1]
   exact ⟨2 - (k+1),by omega,k+1,by omega,rfl,rfl,rfl,⟨by simp [r75],by simp,by simp [r0],by simp [r7],by simp [r9]⟩,(eF.trans eG).trans eH⟩
  ·have kc:¬ (k:Int)<2:=by omega
   simp [r75,r76,c,kc]
   exact area_ok A0 F q7 n0 n1 h0 h1 x' hx hE ((ex.trans e3).trans eF) _ row hrl hrw ((s9.ext e3 fun _ _ q=>q).ext eF fun _ _ q=>q) (eF.get h7 id) _ (by simp [r0]) (by simp [r7]) (by simp [r9])
def RwI (B:AHeap) (lv:Value) (ds:List Dr) (q6 q7:Nat) (x':List UInt8) (m:Nat) (st:St):Prop:=∃ i v,m+i=ds.length∧i≤8∧st.n=167∧st.dfs=[]∧(st.env.rd 0=.string ⟨⟨x'⟩⟩∧st.env.rd 1=lv∧st.env.rd 6=.pointer (some ⟨q6,0,none⟩)∧st.env.rd 7=.pointer (some ⟨q7,0,none⟩)∧st.env.rd 9=v∧st.env.rd 10=.int .i64 (i:Nat)) ∧
 Ext NoB B st.A∧SliceAt st.A 38 v (optsOf ds i).length (opsC (optsOf ds i))∧(∀ j,Own v j→B.size≤j)
theorem build_ok (A0 A:AHeap) (q6 q7:Nat) (o:Op) (hof:o.W) (n0 n1:Nat) (h0:n0<256) (h1:n1<256) (x':List UInt8) (hx:x'.length≤60) (hE:EH A0) (ex:Ext NoB A0 A) (lv:Value) (ds:List Dr) (hd:∀ d ∈ ds,d.W∧d.opt.W) (h:ReadAt A 34 lv ds.length (drC ds))
  (g6:A.get q6=some (.cells o.cells false 0)) (g7:A.get q7=some (.cells [.int .u8 (n0:Nat),.int .u8 (n1:Nat)] false 0))
  (env:Env) (r0:env.rd 0=.string ⟨⟨x'⟩⟩) (r1:env.rd 1=lv) (r6:env.rd 6=.pointer (some ⟨q6,0,none⟩)) (r7:env.rd 7=.pointer (some ⟨q7,0,none⟩)) (r9:env.rd 9=.slice none 0 0) :
  wC T 4 none c4l { env:=env,n:=167,dfs:=[],A:=A } (thenC (fun st=>wC T 4 none c4p st (endF [.inl 8] (fun v _=>v=.bool true))) (endF [.inl 8] (fun v _=>v=.bool true))):=by
 dsimp only [c4l]
 obtain ⟨a1,c1,rfl⟩:=h.val
 have hby:∀ d ∈ ds,d.bytes.length=24:=fun d hd'=>(hd d hd').1.bytes
 simp
 have no:∀ k j,Own (.slice none 0 0) j→k≤j:=fun k j ⟨_,_,_,q⟩=>by cases q
 have hrw:∀ i,∀ x ∈ optsOf ds i,x.W:=by
  intro i x hx
  obtain ⟨d,hd1,rfl⟩:=List.mem_map.1 hx
  exact (hd d (List.mem_of_mem_take hd1)).2
 refine wC_loop_inv (RwI A (.slice a1 ds.length c1) ds q6 q7 x') ?_ ds.length _ ⟨0,.slice none 0 0,by omega,by omega,rfl,rfl,⟨by simp [r0],by simp [r1],by simp [r6],by simp [r7],by simp [r9],by simp⟩,Ext.refl,.nil,no _⟩
 rintro m ⟨env,nn,dfs,B⟩ ⟨i,v,k0,ki8,k1,k2,⟨r0,r1,r6,r7,r9,r10⟩,eB,s9,o9⟩
 simp only at k1 k2 r0 r1 r6 r7 r9 r10 eB s9
 subst k1;subst k2
 have fin:∀ env':Env,env'.rd 0=.string ⟨⟨x'⟩⟩→env'.rd 6=.pointer (some ⟨q6,0,none⟩)→env'.rd 7=.pointer (some ⟨q7,0,none⟩)→env'.rd 9=v→wC T 4 none c4p { env:=env',n:=167,dfs:=[],A:=B } (endF [.inl 8] (fun v _=>v=.bool true)) :=
  fun env' e0 e6 e7 e9=>two_ok A0 B q6 q7 o hof n0 n1 h0 h1 x' hx hE (ex.trans eB) v (optsOf ds i) (by unfold optsOf;simp;omega) (hrw i) s9 (eB.get g6 id) (eB.get g7 id) env' e0 e6 e7 e9
 by_cases hi:i<ds.length∧i<8
 case neg =>
  by_cases h1:i<ds.length
  ·have h8:¬ i<8:=fun q=>hi ⟨h1,q⟩
   have h1i:(i:Int)<(ds.length:Int):=by omega
   have h8i:¬ (i:Int)<8:=by omega
   simp [r1,r10,h1,h1i,h8,h8i]
   exact fin _ (by simp [r0]) (by simp [r6]) (by simp [r7]) (by simp [r9])
  ·have h1i:¬ (i:Int)<(ds.length:Int):=by omega
   simp [r1,r10,h1,h1i]
   exact fin _ (by simp [r0]) (by simp [r6]) (by simp [r7]) (by simp [r9])
 obtain ⟨h1',h8⟩:=hi
 have h1i:(i:Int)<(ds.length:Int):=by omega
 have h8i:(i:Int)<8:=by omega
 have hA:=h.ext eB fun _ _ q=>q
 obtain ⟨d1,p1,cc1,bs1,ro1,opn1,q1,q2,q3,q4⟩:=hA.elem2 h1'
 rw [drC_at ds hby i h1'] at q4
 cases q1
 rw [Nat.add_assoc] at q3
 have hdi:=hd ds[i] (List.getElem_mem h1')
 have hsucc:=optsOf_succ ds i h1'
 generalize ds[i]=d at q4 hdi hsucc
 obtain ⟨hdw,how⟩:=hdi
 simp [r1,r10,h1',h1i,h8,h8i,q2,q3,q4]
 refine dopt_ok B d hdw _ fun C eC=>?_
 obtain ⟨row,hrow⟩:∃ row,row=optsOf ds i:=⟨_,rfl⟩
 have hrl:row.length≤8:=by rw [hrow];unfold optsOf;simp;omega
 rw [← hrow] at s9 hsucc
 obtain ⟨x1,y1,J,u1,u2,u3,u4⟩:=appO C (C.alloc (.cells d.opt.cells false 0)) v (.slice (some ⟨C.size,0,none⟩) 1 1) row d.opt (s9.ext eC fun _ _ q=>q) Ext.alloc rfl (by simp [firstA,rdCells,ENDCAP]) rfl (by omega)
 have ws:=wrap_succ i (by omega)
 simp [r9,u1,r10,ws]
 refine ⟨m - 1,by omega,i+1,_,by omega,by omega,rfl,rfl,⟨by simp [r0],by simp [r1],by simp [r6],by simp [r7],by simp;rfl,by simp⟩,(eB.trans eC).trans2 u3 fun j hj q=>by have:=o9 j q;omega,?_,fun j hj=>?_⟩
 ·rw [hsucc];exact u2
 ·have:=eB.size
  have:=eC.size
  rcases u4 j hj with q|q
  ·exact o9 j q
  ·omega
theorem areas_ok (A:AHeap) (xb:List UInt8) (lv:Value) (ds:List Dr) (x:Op) (n0 n1:Nat) (hE:EH A) (hd:∀ d ∈ ds,d.W∧d.opt.W) (h:ReadAt A 34 lv ds.length (drC ds)) (hx:x.W0) (h0:n0<256) (h1:n1<256):wF T (.func (.func 4) #[] #[]) [.string ⟨⟨xb⟩⟩,lv,.agg ⟨x.cells⟩,.agg ⟨[.int .u8 (n0:Nat),.int .u8 (n1:Nat)]⟩] A (fun v _=>v=.bool true):=by
 refine wF_func (first:=[]) (captured:=[]) t4 ⟨rfl,by decide⟩ ?_
 dsimp only [c4]
 have hmin:=min60 xb
 have hsl:sliceSA (.string ⟨⟨xb⟩⟩) none (some (.int .i64 ((min xb.length 60:Nat):Int)))=some (.string ⟨⟨short60 xb⟩⟩):=sl_to xb .i64 _ (Nat.min_le_left _ _)
 have hs60:=short60_len xb
 generalize short60 xb=x' at hsl hs60
 generalize min xb.length 60=kk at hmin hsl
 simp [hmin,hsl]
 have e0:Ext NoB A ((A.alloc (ABlk.cells x.cells false 0)).alloc (ABlk.cells [Value.int IntKind.u8 ↑n0,Value.int IntKind.u8 ↑n1] false 0)):=by (repeat first|exact Ext.refl|assumption|refine Ext.allocN ?_|refine Ext.setN ?_ (by first|omega|(simp;done)|(simp;omega)))
 refine short_ok _ x _ fun B eB=>?_
 have e1:=e0.trans eB
 have b6:B.get A.size=some (.cells x.cells false 0):=eB.get (by simp) id
 have b7:B.get (A.size+1)=some (.cells [.int .u8 (n0:Nat),.int .u8 (n1:Nat)] false 0):=eB.get (by simp) id
 have l7:=AHeap.get_lt b7
 simp [b6]
 generalize hC:AHeap.set _ _ _=C
 have c6:C.get A.size=some (.cells x.short.cells false 0):=by subst hC;simp;omega
 have c7:C.get (A.size+1)=some (.cells [.int .u8 (n0:Nat),.int .u8 (n1:Nat)] false 0):=by subst hC;simp [b7]
 have eC:Ext NoB A C:=by subst hC;(repeat first|exact Ext.refl|assumption|refine Ext.allocN ?_|refine Ext.setN ?_ (by first|omega|(simp;done)|(simp;omega)))
 exact build_ok A C A.size (A.size+1) x.short hx.short n0 n1 h0 h1 x' hs60 hE eC lv ds hd (h.ext eC fun _ _ q=>q) c6 c7 _ (by simp) (by simp) (by simp) (by simp) (by simp)
end Go.Proofs.YtigknpfjhegkgaaGreatDoor
end
