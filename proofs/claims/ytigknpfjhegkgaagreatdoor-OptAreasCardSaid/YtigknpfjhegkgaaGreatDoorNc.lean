/- A text of this claim. -/
import Derived.Test.YtigknpfjhegkgaaGreatDoorPim
import Derived.Test.YtigknpfjhegkgaaGreatDoorKc
import Derived.KernelRfl
section
namespace Go.Proofs.YtigknpfjhegkgaaGreatDoor
open Go Go.AS
set_option maxRecDepth 100000
set_option linter.unusedSimpArgs false
set_option linter.unusedVariables false
attribute [local irreducible] Trie.set Trie.get Env.rd
attribute [local simp ↓] wV_b2s
attribute [local simp] Nat.add_assoc wD_cons'' wD_nil' wC_seq wC_ops wC_opsD_nil wC_cond wC_skip wC_ret wC_exit wC_block wO_cons' wO_nil wantedA wV_eq lop qop ev wL_some wL_none wPut envOf rd_set rd_leaf eqA thenC blockC wB_true wB_false endF unwindA resultsA resA tupleA rdCell rdCells wrCells cl fillP lay rep binA unA get_set' AHeap.get_alloc oneCell beqd bned idxA
theorem appB (A A1:AHeap) (bv x:Value) (l t:List UInt8) (h:SliceAt A 1 bv l.length (bcells l)) (e:Ext NoB A A1) (hx:lenA x=some t.length) (hf:firstA A1 1 t.length x=some (bcells t)) (hn:l.length+t.length<1000000) :
  ∃ a' c' A',appA A1 1 1 bv x=some (.slice a' (l.length+t.length) c',A')∧SliceAt A' 1 (.slice a' (l.length+t.length) c') (l++t).length (bcells (l++t))∧Ext (Own bv) A A'∧∀ j,Own (.slice a' (l.length+t.length) c') j→Own bv j∨A.size≤j:=by
 obtain ⟨v',A',k1,k2,k3,k4⟩:=(h.ext e fun _ _ q=>q).append (x:=x) (m:=t.length) (bytes:=1) (new:=bcells t) (by decide) hx hf (by simp [bcells,byt,oneCell]) (by simp [bcells]) (by omega) (by decide) (fun _=>rfl)
 obtain ⟨a',c',hv⟩:=k2.read.val
 subst hv
 refine ⟨a',c',A',k1,by simpa [bcells] using k2,(e.mono fun _ _ q=>q.elim).trans k3,fun j hj=>?_⟩
 rcases k4 j hj with q|q
 ·exact .inl q
 ·exact .inr (Nat.le_trans e.size q)
theorem be_get (n:Nat):∀ w k,k<w→(be n w)[k]?=some (UInt8.ofNat (n / 256 ^ (w - 1 - k) % 256))
 | 0,k,h=>absurd h (Nat.not_lt_zero k)
 | w+1,0,_=>by simp [be]
 | w+1,k+1,h=>by
   rw [be,List.getElem?_cons_succ,be_get n w k (by omega),show w+1 - 1 - (k+1)=w - 1 - k by omega]
theorem be_take (n w k:Nat) (h:k<w):(be n w).take (k+1)=(be n w).take k++[UInt8.ofNat (n / 256 ^ (w - 1 - k) % 256)]:=by
 rw [List.take_add_one,be_get n w k h];rfl
theorem be_full (n w:Nat):(be n w).take w=be n w:=List.take_of_length_le (by rw [be_len];exact Nat.le_refl _)
theorem u8_byte' (n:Nat):IntKind.u8.wrap (n:Int)=((UInt8.ofNat (n % 256)).toNat:Int):=by
 rw [IntKind.wrap_u8,ofNat_toNat (Nat.mod_lt _ (by decide))];omega
theorem shrK (n k:Nat):((n:Int)).fdiv (2 ^ (8*k))=((n / 256 ^ k:Nat):Int):=by
 rw [Int.fdiv_eq_ediv_of_nonneg _ (Int.pow_nonneg (by decide)),Int.natCast_ediv,Int.natCast_pow,Int.pow_mul];rfl
def LdI (w n:Nat) (A0:AHeap) (m:Nat) (st:St):Prop:=∃ (k:Nat) (v:Value),k≤w∧m=w - k∧st.n=24∧st.dfs=[] ∧
 (st.env.rd 0=.int .u64 (n:Nat)∧st.env.rd 5=v∧st.env.rd 6=.int .i64 ((w:Int) - 1 - k))∧SliceAt st.A 1 v ((be n w).take k).length (bcells ((be n w).take k))∧Ext NoB A0 st.A∧∀ b,Own v b→A0.size≤b
theorem laid_ok (A:AHeap) (n w:Nat) (hw:w≤8) (Q:Value→AHeap→Prop) (hq:∀ A',Ext NoB A A'→Q (.string ⟨⟨be n w⟩⟩) A'):wF T (.func (.func 109) #[] #[]) [.int .u64 (n:Nat),.int .i64 (w:Nat)] A Q:=by
 refine wF_func (first:=[]) (captured:=[]) t109 ⟨rfl,by decide⟩ ?_
 dsimp only [c109]
 have w0:IntKind.i64.wrap ((w:Int) - 1)=(w:Int) - 1:=IntWalk.i64_in _ (by omega)
 simp [w0]
 refine wC_loop_inv (LdI w n A) ?_ w _ ⟨0,.slice none 0 0,by omega,rfl,rfl,rfl,⟨by simp,by simp,by simp⟩,SliceAt.nil,Ext.refl,fun b hb=>absurd hb (by simp [Own])⟩
 rintro m ⟨env,nn,dfs,B⟩ ⟨k,v,hk,rfl,s1,s2,⟨r0,r5,r6⟩,hs,ex,hown⟩
 simp only at s1 s2 r0 r5 r6 hs ex
 subst s1;subst s2
 by_cases c:k<w
 ·obtain ⟨j,hj⟩:∃ j,j=w - 1 - k:=⟨_,rfl⟩
  obtain ⟨s,hs8⟩:∃ s,s=8*j:=⟨_,rfl⟩
  have r6':env.rd 6=.int .i64 (j:Int):=by rw [r6];congr 1;omega
  have y2:IntKind.i64.wrap (8*(j:Int))=(s:Int):=by rw [IntWalk.i64_in _ (by omega)];omega
  have y3:IntKind.u64.wrap (s:Int)=(s:Int):=IntWalk.u64_in _ (by omega)
  have y4:min s 64=s:=by omega
  have y5:=shrK n j
  rw [← hs8] at y5
  have y6:=u8_byte' (n / 256 ^ j)
  have y7:IntKind.i64.wrap ((j:Int) - 1)=(w:Int) - 1 - (k+1:Nat):=by rw [IntWalk.i64_in _ (by omega)];omega
  obtain ⟨a2,c2,A2,q2,t2,u2,v2⟩:=appB B (B.alloc (.cells [.int .u8 ((UInt8.ofNat (n / 256 ^ j % 256)).toNat:Int)] false 0)) v (.slice (some ⟨B.size,0,none⟩) 1 1) _ [UInt8.ofNat (n / 256 ^ j % 256)] hs Ext.alloc rfl (by simp [firstA,rdCells,ENDCAP,bcells,byt]) (by simp [be_len];omega)
  have ht:((be n w).take k).length+1=k+1:=by rw [List.length_take,be_len];omega
  have hb:=be_take n w k c
  rw [← hj] at hb
  simp only [List.length_singleton,ht] at q2 t2 v2
  rw [← hb] at t2
  generalize hz:((UInt8.ofNat (n / 256 ^ j % 256)).toNat:Int)=z at q2 y6
  generalize ((n / 256 ^ j:Nat):Int)=z2 at y5 y6
  have y8:¬ ((s:Int)<0):=by omega
  simp [r0,r5,r6',y2,y3,y4,y5,y6,y8,IntKind.bits,q2,y7]
  refine ⟨w - (k+1),by omega,k+1,_,by omega,rfl,rfl,rfl,⟨by simp [r0],by simp;rfl,by simp⟩,?_,ex.trans2 u2 fun b hb q=>by have:=hown b q;omega,fun b hb=>?_⟩
  ·have:((be n w).take (k+1)).length=k+1:=by rw [List.length_take,be_len];omega
   rw [this] at t2 ⊢
   exact t2
  ·rcases v2 b hb with q | q
   ·exact hown b q
   ·exact Nat.le_trans ex.size q
 ·have:k=w:=by omega
  subst this
  have y1:¬ (k:Int)≤(k:Int) - 1:=by omega
  have b1:=b2s_ok hs.read
  rw [be_full] at b1
  simp [r0,r5,r6,y1,b1]
  exact hq _ ex
def PuI (w n:Nat) (s:List UInt8) (A0:AHeap) (m:Nat) (st:St):Prop:=∃ (k:Nat),k≤w∧m=w - k∧st.n=26∧st.dfs=[] ∧
 (st.env.rd 0=.string ⟨⟨s⟩⟩∧st.env.rd 1=.int .u64 ((n / 256 ^ k:Nat):Int)∧st.env.rd 2=.int .i64 (w:Nat)∧st.env.rd 7=.string ⟨⟨be n k⟩⟩∧st.env.rd 8=.int .i64 (k:Nat))∧Ext NoB A0 st.A
theorem rput_ok (A:AHeap) (s:List UInt8) (n w:Nat) (hw:w≤8) (hn:n<256 ^ 8) (hl:s.length<1000000) (Q:Value→AHeap→Prop) (hq:∀ A',Ext NoB A A'→Q (.string ⟨⟨s++be n w⟩⟩) A'):wF T (.func (.func 111) #[] #[]) [.string ⟨⟨s⟩⟩,.int .u64 (n:Nat),.int .i64 (w:Nat)] A Q:=by
 refine wF_func (first:=[]) (captured:=[]) t111 ⟨rfl,by decide⟩ ?_
 dsimp only [c111]
 simp
 refine wC_loop_inv (PuI w n s A) ?_ w _ ⟨0,by omega,rfl,rfl,rfl,⟨by simp,by simp,by simp,by simp [be],by simp⟩,Ext.refl⟩
 rintro m ⟨env,nn,dfs,B⟩ ⟨k,hk,rfl,s1,s2,⟨r0,r1,r2,r7,r8⟩,ex⟩
 simp only at s1 s2 r0 r1 r2 r7 r8 ex
 subst s1;subst s2
 by_cases c:k<w
 ·obtain ⟨q,hqq⟩:∃ q,q=n / 256 ^ k:=⟨_,rfl⟩
  rw [← hqq] at r1
  have y1:IntKind.u8.wrap ((q:Int) % 256)=((UInt8.ofNat (q % 256)).toNat:Int):=by rw [← u8_byte' q,IntKind.wrap_u8,IntKind.wrap_u8];omega
  have y2:(q:Int).tmod 256=(q:Int) % 256:=Int.tmod_eq_emod_of_nonneg (by omega)
  obtain ⟨p,hp⟩:∃ p,p=n / 256 ^ (k+1):=⟨_,rfl⟩
  have hpl:p≤n:=by rw [hp];exact Nat.div_le_self _ _
  have y9:IntKind.u64.wrap (p:Int)=p:=IntWalk.u64_in _ (by omega)
  have y3:(q:Int).tdiv 256=(p:Int):=by rw [Int.tdiv_eq_ediv_of_nonneg (by omega),hp,hqq,Nat.pow_succ,← Nat.div_div_eq_div_mul];omega
  have y4:IntKind.i64.wrap ((k:Int)+1)=((k+1:Nat):Int):=IntWalk.i64_in _ (by omega)
  have y5:¬ (9223372036854775807:Int)<1+((be n k).length:Int):=by rw [be_len];omega
  have y6:be n (k+1)=UInt8.ofNat (q % 256)::be n k:=by rw [be,hqq]
  have y8:IntKind.u8.wrap ((q:Int) % 256)=(q:Int) % 256:=by rw [IntKind.wrap_u8];omega
  have y7:(q:Int) % 256=((UInt8.ofNat (q % 256)).toNat:Int):=by rw [ofNat_toNat (Nat.mod_lt _ (by decide))];omega
  have hb:b2s (B.alloc (.cells [.int .u8 ((q:Int) % 256)] false 0)) (.slice (some ⟨B.size,0,none⟩) 1 1)=some (.string ⟨⟨[UInt8.ofNat (q % 256)]⟩⟩):=by
   have:=b2s_ok (A:=B.alloc (.cells [.int .u8 ((q:Int) % 256)] false 0)) (v:=.slice (some ⟨B.size,0,none⟩) [UInt8.ofNat (q % 256)].length 1) (l:=[UInt8.ofNat (q % 256)]) (.inr (.inl ⟨B.size,0,1,[.int .u8 ((q:Int) % 256)],false,0,rfl,by simp,by simp,by rw [y7];rfl,fun z=>absurd z (by decide)⟩))
   exact this
  simp [r0,r1,r2,r7,r8,c,y2,y8,hb,y3,y4,y5,y9]
  refine ⟨w - (k+1),by omega,k+1,by omega,rfl,rfl,rfl,⟨by simp [r0],by simp [hp],by simp [r2],by simp [y6],by simp⟩,ex.trans Ext.alloc⟩
 ·have:k=w:=by omega
  subst this
  have y1:¬ (9223372036854775807:Int)<(s.length:Int)+((be n k).length:Int):=by rw [be_len];omega
  simp [r0,r1,r2,r7,r8,y1]
  exact hq _ ex
def csize (f:Int):Nat:=if f=0 then 2 else if f=1 then 10 else 14+2*f.toNat
theorem csize_ok (A:AHeap) (f:Int) (h0:0≤f) (h5:f<5) (Q:Value→AHeap→Prop) (hq:Q (.int .i64 (csize f:Nat)) A):wF T (.func (.func 64) #[] #[]) [.int .i64 f] A Q:=by
 refine wF_func (first:=[]) (captured:=[]) t64 ⟨rfl,by decide⟩ ?_
 dsimp only [c64]
 have:f=0∨f=1∨f=2∨f=3∨f=4:=by omega
 rcases this with rfl|rfl|rfl|rfl|rfl<;>simp [show IntKind.i64.wrap 4=4 by decide,show IntKind.i64.wrap 6=6 by decide,show IntKind.i64.wrap 8=8 by decide,show IntKind.i64.wrap 18=18 by decide,show IntKind.i64.wrap 20=20 by decide,show IntKind.i64.wrap 22=22 by decide]<;>exact hq
theorem rcmay_ok (A:AHeap) (x:Cap) (Q:Value→AHeap→Prop) (hq:∀ A',Ext NoB A A'→Q (.bool x.may) A'):wF T (.func (.func 108) #[] #[]) [.agg ⟨x.cells⟩] A Q:=by
 refine wF_func (first:=[]) (captured:=[]) t108 ⟨rfl,by decide⟩ ?_
 dsimp only [c108]
 simp [Cap.cells]
 generalize hA1:A.alloc _=A1
 obtain ⟨g1,e1,z1⟩:=alloc_facts hA1
 have hq:=hq A1 e1
 by_cases a0:x.form<0
 ·rw [show x.may=false by simp only [Cap.may,Bool.and_eq_false_iff,decide_eq_false_iff_not];left;omega] at hq
  simp [g1,a0]
  exact hq
 by_cases a1:5≤x.form
 ·rw [show x.may=false by simp only [Cap.may,Bool.and_eq_false_iff,decide_eq_false_iff_not];left;omega] at hq
  simp [g1,a0,a1]
  exact hq
 by_cases a2:x.ver<0
 ·rw [show x.may=false by simp only [Cap.may,Bool.and_eq_false_iff,decide_eq_false_iff_not];left;omega] at hq
  simp [g1,a0,a1,a2]
  exact hq
 by_cases a3:15<x.ver
 ·rw [show x.may=false by simp only [Cap.may,Bool.and_eq_false_iff,decide_eq_false_iff_not];left;omega] at hq
  simp [g1,a0,a1,a2,a3]
  exact hq
 by_cases a4:x.len<0
 ·rw [show x.may=false by simp only [Cap.may,Bool.and_eq_false_iff,decide_eq_false_iff_not];left;omega] at hq
  simp [g1,a0,a1,a2,a3,a4]
  exact hq
 by_cases a5:65535<x.len
 ·rw [show x.may=false by simp only [Cap.may,Bool.and_eq_false_iff,decide_eq_false_iff_not];left;omega] at hq
  simp [g1,a0,a1,a2,a3,a4,a5]
  exact hq
 have hm:x.may=x.lacks:=by
  unfold Cap.may
  rw [show decide (0≤x.form∧x.form<5∧0≤x.ver∧x.ver<16∧0≤x.len∧x.len<65536)=true from decide_eq_true (by omega),Bool.true_and]
 rw [hm] at hq
 by_cases f0:x.form=0
 ·by_cases o0:x.own=0<;>by_cases p0:x.peer=0<;>by_cases l0:x.len=0<;>by_cases s0:x.sum=0<;>(simp [g1,a2,a3,a4,a5,f0,o0,p0,l0,s0,undef];simpa [Cap.lacks,f0,o0,p0,l0,s0] using hq)
 ·by_cases f1:x.form=1
  ·by_cases p0:x.peer=0<;>by_cases l0:x.len=0<;>by_cases s0:x.sum=0<;>(simp [g1,a2,a3,a4,a5,f1,p0,l0,s0,undef];simpa [Cap.lacks,f1,p0,l0,s0] using hq)
  ·by_cases f2:x.form=2
   ·by_cases l0:x.len=0<;>by_cases s0:x.sum=0<;>(simp [g1,a2,a3,a4,a5,f2,l0,s0,undef];simpa [Cap.lacks,f2,l0,s0] using hq)
   ·by_cases f3:x.form=3
    ·by_cases s0:x.sum=0<;>(simp [g1,a2,a3,a4,a5,f3,s0,undef];simpa [Cap.lacks,f3,s0] using hq)
    ·have f4:x.form=4:=by omega
     simp [g1,a2,a3,a4,a5,f4,undef]
     simpa [Cap.lacks,f4] using hq
def Cap.all (x:Cap):List UInt8:=be x.ver.toNat 1++(be x.flags 1++(be x.own 8++(be x.peer 8++(be x.len.toNat 2++be x.sum 2))))
theorem Cap.take_all (x:Cap) (h0:0≤x.form) (h5:x.form<5):x.all.take (csize x.form)=x.body:=by
 have:x.form=0∨x.form=1∨x.form=2∨x.form=3∨x.form=4:=by omega
 unfold Cap.all Cap.body csize
 rcases this with f|f|f|f|f<;>simp [f,List.take_append,be_len,List.take_of_length_le]
theorem rcenc_ok (A:AHeap) (x:Cap) (hw:x.W) (Q:Value→AHeap→Prop) (hq:∀ A',Ext NoB A A'→Q (resE x.enc) A'):wF T (.func (.func 51) #[] #[]) [.agg ⟨x.cells⟩] A Q:=by
 refine wF_func (first:=[]) (captured:=[]) t51 ⟨rfl,by decide⟩ ?_
 dsimp only [c51]
 simp [Cap.cells]
 generalize hA1:A.alloc _=A1
 obtain ⟨g1,e1,z1⟩:=alloc_facts hA1
 simp [g1]
 refine rcmay_ok A1 x _ fun A2 e2=>?_
 have g2:=e2.get g1 id
 have e12:=e1.trans e2
 cases hm:x.may
 ·have:=hq A2 e12
  rw [Cap.enc,hm] at this
  simp
  exact this
 have hq':∀ A',Ext NoB A A'→Q (.tuple ⟨[.string ⟨⟨x.body⟩⟩,.int .i64 0]⟩) A':=fun A' e=>by
  have:=hq A' e
  rwa [Cap.enc,hm] at this
 have hm':=hm
 simp only [Cap.may,Bool.and_eq_true,decide_eq_true_eq] at hm'
 obtain ⟨⟨h1,h2,h3,h4,h5,h6⟩,-⟩:=hm'
 obtain ⟨v,hv,hv2⟩:∃ n:Nat,x.ver=n∧n<16:=⟨x.ver.toNat,by omega,by omega⟩
 obtain ⟨l,hl,hl2⟩:∃ n:Nat,x.len=n∧n<65536:=⟨x.len.toNat,by omega,by omega⟩
 have hvw:IntKind.u64.wrap (v:Int)=v:=IntWalk.u64_in _ (by omega)
 have hlw:IntKind.u64.wrap (l:Int)=l:=IntWalk.u64_in _ (by omega)
 have hsw:IntKind.u64.wrap (x.sum:Int)=x.sum:=IntWalk.u64_in _ (by have:=hw.sum;omega)
 have hta:=x.take_all h1 h2
 have hall:x.all=be v 1++(be x.flags 1++(be x.own 8++(be x.peer 8++(be l 2++be x.sum 2)))):=by rw [Cap.all,hv,hl];rfl
 have hsl:=sl_to x.all .i64 (csize x.form) (by rw [hall];simp [be_len];unfold csize;split<;>(try split)<;>omega)
 rw [hta,hall] at hsl
 cases hs:x.sums<;>cases ha:x.alone
 ·have hf:x.flags=1:=by rw [Cap.flags,hs,ha];rfl
  rw [hf] at hsl
  simp [g2,hs,ha]
  refine wC_opsD_chk ?_
  simp [g2,hv,hl,hvw,hs,ha]
  refine laid_ok _ v 1 (by decide) _ fun A3 e3=>?_
  have g3:=e3.get g2 id
  simp
  refine laid_ok _ 1 1 (by decide) _ fun A4 e4=>?_
  have g4:=e4.get g3 id
  simp [be_len,g4]
  refine laid_ok _ x.own 8 (by decide) _ fun A5 e5=>?_
  have g5:=e5.get g4 id
  simp [be_len,g5]
  refine laid_ok _ x.peer 8 (by decide) _ fun A6 e6=>?_
  have g6:=e6.get g5 id
  simp [be_len,g6,hl,hlw]
  refine laid_ok _ l 2 (by decide) _ fun A7 e7=>?_
  have g7:=e7.get g6 id
  simp [be_len,g7,hsw]
  refine laid_ok _ x.sum 2 (by decide) _ fun A8 e8=>?_
  have g8:=e8.get g7 id
  simp [be_len]
  refine wE_intro ?_ ?_
  ·simp only [List.all_cons,List.all_nil,chkOk,List.nil_append,List.cons_append,List.getElem?_cons_succ,List.getElem?_cons_zero]
   simp [Bx,g2,g3,g4,g5,g6,g7,g8,vbeq,hl,hv]
  ·simp [g8]
   refine csize_ok A8 x.form h1 h2 _ ?_
   simp [hsl]
   exact hq' A8 (((((((e12.trans e3).trans e4).trans e5).trans e6).trans e7).trans e8))
 ·have hf:x.flags=33:=by rw [Cap.flags,hs,ha];rfl
  rw [hf] at hsl
  simp [g2,hs,ha]
  refine wC_opsD_chk ?_
  simp [g2,hv,hl,hvw,hs,ha]
  refine laid_ok _ v 1 (by decide) _ fun A3 e3=>?_
  have g3:=e3.get g2 id
  simp
  refine laid_ok _ 33 1 (by decide) _ fun A4 e4=>?_
  have g4:=e4.get g3 id
  simp [be_len,g4]
  refine laid_ok _ x.own 8 (by decide) _ fun A5 e5=>?_
  have g5:=e5.get g4 id
  simp [be_len,g5]
  refine laid_ok _ x.peer 8 (by decide) _ fun A6 e6=>?_
  have g6:=e6.get g5 id
  simp [be_len,g6,hl,hlw]
  refine laid_ok _ l 2 (by decide) _ fun A7 e7=>?_
  have g7:=e7.get g6 id
  simp [be_len,g7,hsw]
  refine laid_ok _ x.sum 2 (by decide) _ fun A8 e8=>?_
  have g8:=e8.get g7 id
  simp [be_len]
  refine wE_intro ?_ ?_
  ·simp only [List.all_cons,List.all_nil,chkOk,List.nil_append,List.cons_append,List.getElem?_cons_succ,List.getElem?_cons_zero]
   simp [Bx,g2,g3,g4,g5,g6,g7,g8,vbeq,hl,hv]
  ·simp [g8]
   refine csize_ok A8 x.form h1 h2 _ ?_
   simp [hsl]
   exact hq' A8 (((((((e12.trans e3).trans e4).trans e5).trans e6).trans e7).trans e8))
 ·have hf:x.flags=129:=by rw [Cap.flags,hs,ha];rfl
  rw [hf] at hsl
  simp [g2,hs,ha]
  refine wC_opsD_chk ?_
  simp [g2,hv,hl,hvw,hs,ha]
  refine laid_ok _ v 1 (by decide) _ fun A3 e3=>?_
  have g3:=e3.get g2 id
  simp
  refine laid_ok _ 129 1 (by decide) _ fun A4 e4=>?_
  have g4:=e4.get g3 id
  simp [be_len,g4]
  refine laid_ok _ x.own 8 (by decide) _ fun A5 e5=>?_
  have g5:=e5.get g4 id
  simp [be_len,g5]
  refine laid_ok _ x.peer 8 (by decide) _ fun A6 e6=>?_
  have g6:=e6.get g5 id
  simp [be_len,g6,hl,hlw]
  refine laid_ok _ l 2 (by decide) _ fun A7 e7=>?_
  have g7:=e7.get g6 id
  simp [be_len,g7,hsw]
  refine laid_ok _ x.sum 2 (by decide) _ fun A8 e8=>?_
  have g8:=e8.get g7 id
  simp [be_len]
  refine wE_intro ?_ ?_
  ·simp only [List.all_cons,List.all_nil,chkOk,List.nil_append,List.cons_append,List.getElem?_cons_succ,List.getElem?_cons_zero]
   simp [Bx,g2,g3,g4,g5,g6,g7,g8,vbeq,hl,hv]
  ·simp [g8]
   refine csize_ok A8 x.form h1 h2 _ ?_
   simp [hsl]
   exact hq' A8 (((((((e12.trans e3).trans e4).trans e5).trans e6).trans e7).trans e8))
 ·have hf:x.flags=161:=by rw [Cap.flags,hs,ha];rfl
  rw [hf] at hsl
  simp [g2,hs,ha]
  refine wC_opsD_chk ?_
  simp [g2,hv,hl,hvw,hs,ha]
  refine laid_ok _ v 1 (by decide) _ fun A3 e3=>?_
  have g3:=e3.get g2 id
  simp
  refine laid_ok _ 161 1 (by decide) _ fun A4 e4=>?_
  have g4:=e4.get g3 id
  simp [be_len,g4]
  refine laid_ok _ x.own 8 (by decide) _ fun A5 e5=>?_
  have g5:=e5.get g4 id
  simp [be_len,g5]
  refine laid_ok _ x.peer 8 (by decide) _ fun A6 e6=>?_
  have g6:=e6.get g5 id
  simp [be_len,g6,hl,hlw]
  refine laid_ok _ l 2 (by decide) _ fun A7 e7=>?_
  have g7:=e7.get g6 id
  simp [be_len,g7,hsw]
  refine laid_ok _ x.sum 2 (by decide) _ fun A8 e8=>?_
  have g8:=e8.get g7 id
  simp [be_len]
  refine wE_intro ?_ ?_
  ·simp only [List.all_cons,List.all_nil,chkOk,List.nil_append,List.cons_append,List.getElem?_cons_succ,List.getElem?_cons_zero]
   simp [Bx,g2,g3,g4,g5,g6,g7,g8,vbeq,hl,hv]
  ·simp [g8]
   refine csize_ok A8 x.form h1 h2 _ ?_
   simp [hsl]
   exact hq' A8 (((((((e12.trans e3).trans e4).trans e5).trans e6).trans e7).trans e8))
theorem rjmay_ok (A:AHeap) (x:Jn) (Q:Value→AHeap→Prop) (hq:∀ A',Ext NoB A A'→Q (.bool x.may) A'):wF T (.func (.func 110) #[] #[]) [.agg ⟨x.cells⟩] A Q:=by
 refine wF_func (first:=[]) (captured:=[]) t110 ⟨rfl,by decide⟩ ?_
 dsimp only [c110]
 simp [Jn.cells]
 generalize hA1:A.alloc _=A1
 obtain ⟨g1,e1,z1⟩:=alloc_facts hA1
 have hq:=hq A1 e1
 by_cases a0:x.id<0
 ·rw [show x.may=false by simp only [Jn.may,decide_eq_false_iff_not];omega] at hq
  simp [g1,a0]
  exact hq
 by_cases a1:255<x.id
 ·rw [show x.may=false by simp only [Jn.may,decide_eq_false_iff_not];omega] at hq
  simp [g1,a0,a1]
  exact hq
 have b0:0≤x.id:=by omega
 have b1:x.id≤255:=by omega
 by_cases f0:x.form=0
 ·by_cases m0:x.mac=[]
  ·simp [g1,a0,a1,f0,m0,undef]
   simpa [Jn.may,b0,b1,f0,m0] using hq
  ·have m1:x.mac.isEmpty=false:=by cases hl:x.mac with | nil=>exact absurd hl m0 | cons _ _=>rfl
   simp [g1,a0,a1,f0,m0,m1,undef]
   simpa [Jn.may,b0,b1,f0,m0] using hq
 ·by_cases f1:x.form=1
  ·by_cases m0:x.mac.length=8
   ·by_cases t0:x.token=0<;>(simp [g1,a0,a1,f1,m0,t0,undef];simpa [Jn.may,b0,b1,f1,m0,t0] using hq)
   ·have m1:¬ (x.mac.length:Int)=8:=by omega
    simp [g1,a0,a1,f1,m1,undef]
    simpa [Jn.may,b0,b1,f1,m0] using hq
  ·by_cases f2:x.form=2
   ·by_cases m0:x.mac.length=20
    ·cases k0:x.backup
     ·by_cases i0:x.id=0
      ·by_cases t0:x.token=0<;>by_cases n0:x.nonce=0<;>(simp [g1,f2,m0,k0,i0,t0,n0,undef];simpa [Jn.may,f2,m0,k0,i0,t0,n0] using hq)
      ·simp [g1,a0,a1,f2,m0,k0,i0,undef]
       simpa [Jn.may,b0,b1,f2,m0,k0,i0] using hq
     ·simp [g1,a0,a1,f2,m0,k0,undef]
      simpa [Jn.may,b0,b1,f2,m0,k0] using hq
    ·have m1:¬ (x.mac.length:Int)=20:=by omega
     simp [g1,a0,a1,f2,m1,undef]
     simpa [Jn.may,b0,b1,f2,m0] using hq
   ·simp [g1,a0,a1,f0,f1,f2,undef]
    simpa [Jn.may,b0,b1,f0,f1,f2] using hq
theorem rjenc_ok (A:AHeap) (x:Jn) (hw:x.W) (Q:Value→AHeap→Prop) (hq:∀ A',Ext NoB A A'→Q (resE x.enc) A'):wF T (.func (.func 52) #[] #[]) [.agg ⟨x.cells⟩] A Q:=by
 refine wF_func (first:=[]) (captured:=[]) t52 ⟨rfl,by decide⟩ ?_
 dsimp only [c52]
 simp [Jn.cells]
 generalize hA1:A.alloc _=A1
 obtain ⟨g1,e1,z1⟩:=alloc_facts hA1
 simp [g1]
 refine rjmay_ok A1 x _ fun A2 e2=>?_
 have g2:=e2.get g1 id
 have e12:=e1.trans e2
 cases hm:x.may
 ·have:=hq A2 e12
  rw [Jn.enc,hm] at this
  simp
  exact this
 have hq':∀ A',Ext NoB A A'→Q (.tuple ⟨[.string ⟨⟨x.body⟩⟩,.int .i64 0]⟩) A':=fun A' e=>by
  have:=hq A' e
  rwa [Jn.enc,hm] at this
 have hm':=hm
 simp only [Jn.may,decide_eq_true_eq] at hm'
 obtain ⟨h1,h2,h3⟩:=hm'
 obtain ⟨n,hn,hn2⟩:∃ n:Nat,x.id=n∧n<256:=⟨x.id.toNat,by omega,by omega⟩
 have hnw:IntKind.u64.wrap (n:Int)=n:=IntWalk.u64_in _ (by omega)
 have htw:IntKind.u64.wrap (x.token:Int)=x.token:=IntWalk.u64_in _ (by have:=hw.token;omega)
 have hcw:IntKind.u64.wrap (x.nonce:Int)=x.nonce:=IntWalk.u64_in _ (by have:=hw.nonce;omega)
 have ht:=hw.token
 have hc:=hw.nonce
 have hf:x.form=0∨x.form=1∨x.form=2:=by rcases h3 with h | h | h<;>simp [h.1]
 have hml:x.mac.length≤20:=by
  rcases h3 with h|h|h
  ·rw [h.2];decide
  ·omega
  ·omega
 cases hb:x.backup<;>rcases hf with f | f | f
 ·have hbd:x.body=be 16 1++(be n 1++(be x.token 4++be x.nonce 4)):=by simp [Jn.body,Jn.head,Jn.first,f,hb,hn]
  rw [hbd] at hq'
  simp [g2,hb]
  refine wC_opsD_chk ?_
  simp [g2]
  refine rput_ok _ [] 16 1 (by decide) (by decide) (by decide) _ fun A3 e3=>?_
  have g3:=e3.get g2 id
  simp [g3,hn,hnw]
  refine rput_ok _ (be 16 1) n 1 (by decide) (by omega) (by simp [be_len]) _ fun A4 e4=>?_
  have g4:=e4.get g3 id
  simp
  have e4':=(e12.trans e3).trans e4
  refine wE_intro ?_ ?_
  ·simp only [List.all_cons,List.all_nil,chkOk,List.nil_append,List.cons_append,List.getElem?_cons_succ,List.getElem?_cons_zero]
   simp [Bx,g2,g3,g4,vbeq,hn]
  ·simp [g4,f]
   refine wC_opsD_chk ?_
   simp [g4,htw]
   refine rput_ok _ (be 16 1++be n 1) x.token 4 (by decide) (by omega) (by simp [be_len]) _ fun A5 e5=>?_
   have g5:=e5.get g4 id
   simp [g5,hcw]
   refine rput_ok _ _ x.nonce 4 (by decide) (by omega) (by simp [be_len]) _ fun A6 e6=>?_
   have g6:=e6.get g5 id
   simp
   refine wE_intro ?_ ?_
   ·simp only [List.all_cons,List.all_nil,chkOk,List.nil_append,List.cons_append,List.getElem?_cons_succ,List.getElem?_cons_zero]
    simp [Bx,g4,g5,g6,vbeq]
   ·simp
    exact hq' A6 ((e4'.trans e5).trans e6)
 ·have hbd:x.body=be 16 1++(be n 1++(x.mac++be x.nonce 4)):=by simp [Jn.body,Jn.head,Jn.first,f,hb,hn]
  rw [hbd] at hq'
  simp [g2,hb]
  refine wC_opsD_chk ?_
  simp [g2]
  refine rput_ok _ [] 16 1 (by decide) (by decide) (by decide) _ fun A3 e3=>?_
  have g3:=e3.get g2 id
  simp [g3,hn,hnw]
  refine rput_ok _ (be 16 1) n 1 (by decide) (by omega) (by simp [be_len]) _ fun A4 e4=>?_
  have g4:=e4.get g3 id
  simp
  have e4':=(e12.trans e3).trans e4
  refine wE_intro ?_ ?_
  ·simp only [List.all_cons,List.all_nil,chkOk,List.nil_append,List.cons_append,List.getElem?_cons_succ,List.getElem?_cons_zero]
   simp [Bx,g2,g3,g4,vbeq,hn]
  ·simp [g4,f,be_len,show ¬ (9223372036854775807:Int)<1+(1+(x.mac.length:Int)) by omega,show ¬ (9223372036854775807:Int)<1+1+(x.mac.length:Int) by omega,show ¬ (9223372036854775807:Int)<2+(x.mac.length:Int) by omega,hcw]
   refine rput_ok _ _ x.nonce 4 (by decide) (by omega) (by simp [be_len];omega) _ fun A6 e6=>?_
   simp
   exact hq' A6 (e4'.trans e6)
 ·have hbd:x.body=be 16 1++(be n 1++x.mac):=by simp [Jn.body,Jn.head,Jn.first,f,hb,hn]
  rw [hbd] at hq'
  simp [g2,hb]
  refine wC_opsD_chk ?_
  simp [g2]
  refine rput_ok _ [] 16 1 (by decide) (by decide) (by decide) _ fun A3 e3=>?_
  have g3:=e3.get g2 id
  simp [g3,hn,hnw]
  refine rput_ok _ (be 16 1) n 1 (by decide) (by omega) (by simp [be_len]) _ fun A4 e4=>?_
  have g4:=e4.get g3 id
  simp
  have e4':=(e12.trans e3).trans e4
  refine wE_intro ?_ ?_
  ·simp only [List.all_cons,List.all_nil,chkOk,List.nil_append,List.cons_append,List.getElem?_cons_succ,List.getElem?_cons_zero]
   simp [Bx,g2,g3,g4,vbeq,hn]
  ·simp [g4,f,be_len,show ¬ (9223372036854775807:Int)<1+(1+(x.mac.length:Int)) by omega,show ¬ (9223372036854775807:Int)<1+1+(x.mac.length:Int) by omega,show ¬ (9223372036854775807:Int)<2+(x.mac.length:Int) by omega]
   exact hq' A4 e4'
 ·have hbd:x.body=be 17 1++(be n 1++(be x.token 4++be x.nonce 4)):=by simp [Jn.body,Jn.head,Jn.first,f,hb,hn]
  rw [hbd] at hq'
  simp [g2,hb]
  refine wC_opsD_chk ?_
  simp [g2]
  refine rput_ok _ [] 17 1 (by decide) (by decide) (by decide) _ fun A3 e3=>?_
  have g3:=e3.get g2 id
  simp [g3,hn,hnw]
  refine rput_ok _ (be 17 1) n 1 (by decide) (by omega) (by simp [be_len]) _ fun A4 e4=>?_
  have g4:=e4.get g3 id
  simp
  have e4':=(e12.trans e3).trans e4
  refine wE_intro ?_ ?_
  ·simp only [List.all_cons,List.all_nil,chkOk,List.nil_append,List.cons_append,List.getElem?_cons_succ,List.getElem?_cons_zero]
   simp [Bx,g2,g3,g4,vbeq,hn]
  ·simp [g4,f]
   refine wC_opsD_chk ?_
   simp [g4,htw]
   refine rput_ok _ (be 17 1++be n 1) x.token 4 (by decide) (by omega) (by simp [be_len]) _ fun A5 e5=>?_
   have g5:=e5.get g4 id
   simp [g5,hcw]
   refine rput_ok _ _ x.nonce 4 (by decide) (by omega) (by simp [be_len]) _ fun A6 e6=>?_
   have g6:=e6.get g5 id
   simp
   refine wE_intro ?_ ?_
   ·simp only [List.all_cons,List.all_nil,chkOk,List.nil_append,List.cons_append,List.getElem?_cons_succ,List.getElem?_cons_zero]
    simp [Bx,g4,g5,g6,vbeq]
   ·simp
    exact hq' A6 ((e4'.trans e5).trans e6)
 ·have hbd:x.body=be 17 1++(be n 1++(x.mac++be x.nonce 4)):=by simp [Jn.body,Jn.head,Jn.first,f,hb,hn]
  rw [hbd] at hq'
  simp [g2,hb]
  refine wC_opsD_chk ?_
  simp [g2]
  refine rput_ok _ [] 17 1 (by decide) (by decide) (by decide) _ fun A3 e3=>?_
  have g3:=e3.get g2 id
  simp [g3,hn,hnw]
  refine rput_ok _ (be 17 1) n 1 (by decide) (by omega) (by simp [be_len]) _ fun A4 e4=>?_
  have g4:=e4.get g3 id
  simp
  have e4':=(e12.trans e3).trans e4
  refine wE_intro ?_ ?_
  ·simp only [List.all_cons,List.all_nil,chkOk,List.nil_append,List.cons_append,List.getElem?_cons_succ,List.getElem?_cons_zero]
   simp [Bx,g2,g3,g4,vbeq,hn]
  ·simp [g4,f,be_len,show ¬ (9223372036854775807:Int)<1+(1+(x.mac.length:Int)) by omega,show ¬ (9223372036854775807:Int)<1+1+(x.mac.length:Int) by omega,show ¬ (9223372036854775807:Int)<2+(x.mac.length:Int) by omega,hcw]
   refine rput_ok _ _ x.nonce 4 (by decide) (by omega) (by simp [be_len];omega) _ fun A6 e6=>?_
   simp
   exact hq' A6 (e4'.trans e6)
 ·have hbd:x.body=be 17 1++(be n 1++x.mac):=by simp [Jn.body,Jn.head,Jn.first,f,hb,hn]
  rw [hbd] at hq'
  simp [g2,hb]
  refine wC_opsD_chk ?_
  simp [g2]
  refine rput_ok _ [] 17 1 (by decide) (by decide) (by decide) _ fun A3 e3=>?_
  have g3:=e3.get g2 id
  simp [g3,hn,hnw]
  refine rput_ok _ (be 17 1) n 1 (by decide) (by omega) (by simp [be_len]) _ fun A4 e4=>?_
  have g4:=e4.get g3 id
  simp
  have e4':=(e12.trans e3).trans e4
  refine wE_intro ?_ ?_
  ·simp only [List.all_cons,List.all_nil,chkOk,List.nil_append,List.cons_append,List.getElem?_cons_succ,List.getElem?_cons_zero]
   simp [Bx,g2,g3,g4,vbeq,hn]
  ·simp [g4,f,be_len,show ¬ (9223372036854775807:Int)<1+(1+(x.mac.length:Int)) by omega,show ¬ (9223372036854775807:Int)<1+1+(x.mac.length:Int) by omega,show ¬ (9223372036854775807:Int)<2+(x.mac.length:Int) by omega]
   exact hq' A4 e4'
theorem rmay12_ok (A:AHeap) (x:Ad) (Q:Value→AHeap→Prop) (hq:∀ A',Ext NoB A A'→Q (.bool x.may) A'):wF T (.func (.func 114) #[] #[]) [.agg ⟨x.cells⟩] A Q:=by
 refine wF_func (first:=[]) (captured:=[]) t114 ⟨rfl,by decide⟩ ?_
 dsimp only [c114]
 have hc:=Ad.cells_eq x
 simp [hc]
 generalize hA1:A.alloc _=A1
 obtain ⟨g1,e1,z1⟩:=alloc_facts hA1
 have hq:=hq A1 e1
 have no:∀ p:Prop,¬ p→(x.may=true→p)→x.may=false:=fun p h k=>by cases hm:x.may with | false=>rfl | true=>exact absurd (k hm) h
 have am:x.may=true→0≤x.id∧x.id≤255∧(x.ip.length=4∨x.ip.length=16)∧0≤x.port∧x.port≤65535∧(x.hasPort=false→x.port=0)∧(x.mac.length:Int)=(if x.echo then 0 else 8):=by
  intro h
  simp only [Ad.may,Bool.and_eq_true,Bool.or_eq_true,decide_eq_true_eq] at h
  obtain ⟨⟨⟨⟨h1,h2⟩,h3⟩,h4⟩,h5⟩:=h
  refine ⟨h1.1,h1.2,h2,h3.1,h3.2,fun q=>h4.resolve_left (by rw [q];decide),?_⟩
  rw [h5];split<;>rfl
 have yes:0≤x.id∧x.id≤255∧(x.ip.length=4∨x.ip.length=16)∧0≤x.port∧x.port≤65535∧(x.hasPort=false→x.port=0)∧(x.mac.length:Int)=(if x.echo then 0 else 8)→x.may=true:=by
  rintro ⟨h1,h2,h3,h4,h5,h6,h7⟩
  simp only [Ad.may,Bool.and_eq_true,Bool.or_eq_true,decide_eq_true_eq]
  refine ⟨⟨⟨⟨⟨h1,h2⟩,h3⟩,h4,h5⟩,?_⟩,?_⟩
  ·cases hp:x.hasPort
   ·exact .inr (h6 hp)
   ·exact .inl rfl
  ·revert h7;split<;>omega
 cases he:x.echo
 ·rw [he] at yes am
  simp only [if_true,Bool.false_eq_true,if_false] at yes am
  by_cases a0:0≤x.id
  ·by_cases a1:x.id≤255
   ·by_cases a2:x.ip.length=4∨x.ip.length=16
    ·by_cases a4:0≤x.port
     ·by_cases a5:x.port≤65535
      ·cases hp:x.hasPort
       ·by_cases p0:x.port=0
        ·by_cases m0:(x.mac.length:Int)=8
         ·rw [yes ⟨a0,a1,a2,a4,a5,fun _=>p0,m0⟩] at hq
          by_cases a3:x.ip.length=4
          ·simp [g1,he,a0,a1,a3,p0,hp,m0,undef]
           try exact hq
          ·have a3':x.ip.length=16:=a2.resolve_left a3
           simp [g1,he,a0,a1,a3',p0,hp,m0,undef]
           try exact hq
         ·rw [no _ m0 fun h=>(am h).2.2.2.2.2.2] at hq
          have m1:(x.mac=[]∧(0:Int)=8)=False:=eq_false fun q=>m0 (by rw [q.1];exact q.2)
          by_cases a3:x.ip.length=4
          ·simp [g1,he,a0,a1,a3,p0,hp,m0,m1,undef]
           try exact hq
          ·have a3':x.ip.length=16:=a2.resolve_left a3
           simp [g1,he,a0,a1,a3',p0,hp,m0,m1,undef]
           try exact hq
        ·rw [no _ p0 fun h=>(am h).2.2.2.2.2.1 hp] at hq
         by_cases a3:x.ip.length=4
         ·simp [g1,he,a0,a1,a3,a4,a5,p0,hp,undef]
          try exact hq
         ·have a3':x.ip.length=16:=a2.resolve_left a3
          simp [g1,he,a0,a1,a3',a4,a5,p0,hp,undef]
          try exact hq
       ·by_cases m0:(x.mac.length:Int)=8
        ·rw [yes ⟨a0,a1,a2,a4,a5,fun q=>absurd (hp.symm.trans q) (by decide),m0⟩] at hq
         by_cases a3:x.ip.length=4
         ·simp [g1,he,a0,a1,a3,a4,a5,hp,m0,undef]
          try exact hq
         ·have a3':x.ip.length=16:=a2.resolve_left a3
          simp [g1,he,a0,a1,a3',a4,a5,hp,m0,undef]
          try exact hq
        ·rw [no _ m0 fun h=>(am h).2.2.2.2.2.2] at hq
         have m1:(x.mac=[]∧(0:Int)=8)=False:=eq_false fun q=>m0 (by rw [q.1];exact q.2)
         by_cases a3:x.ip.length=4
         ·simp [g1,he,a0,a1,a3,a4,a5,hp,m0,m1,undef]
          try exact hq
         ·have a3':x.ip.length=16:=a2.resolve_left a3
          simp [g1,he,a0,a1,a3',a4,a5,hp,m0,m1,undef]
          try exact hq
      ·rw [no _ a5 fun h=>(am h).2.2.2.2.1] at hq
       by_cases a3:x.ip.length=4
       ·simp [g1,he,a0,a1,a3,a4,a5,undef]
        try exact hq
       ·have a3':x.ip.length=16:=a2.resolve_left a3
        simp [g1,he,a0,a1,a3',a4,a5,undef]
        try exact hq
     ·rw [no _ a4 fun h=>(am h).2.2.2.1] at hq
      by_cases a3:x.ip.length=4
      ·simp [g1,he,a0,a1,a3,a4,undef]
       try exact hq
      ·have a3':x.ip.length=16:=a2.resolve_left a3
       simp [g1,he,a0,a1,a3',a4,undef]
       try exact hq
    ·rw [no _ a2 fun h=>(am h).2.2.1] at hq
     have a3:¬ (x.ip.length:Int)=4:=by omega
     have a3':¬ (x.ip.length:Int)=16:=by omega
     simp [g1,he,a0,a1,a3,a3',undef]
     try exact hq
   ·rw [no _ a1 fun h=>(am h).2.1] at hq
    simp [g1,he,a0,a1,undef]
    try exact hq
  ·rw [no _ a0 fun h=>(am h).1] at hq
   simp [g1,he,a0,undef]
   try exact hq
 ·rw [he] at yes am
  simp only [if_true,Bool.false_eq_true,if_false] at yes am
  by_cases a0:0≤x.id
  ·by_cases a1:x.id≤255
   ·by_cases a2:x.ip.length=4∨x.ip.length=16
    ·by_cases a4:0≤x.port
     ·by_cases a5:x.port≤65535
      ·cases hp:x.hasPort
       ·by_cases p0:x.port=0
        ·by_cases m0:(x.mac.length:Int)=0
         ·rw [yes ⟨a0,a1,a2,a4,a5,fun _=>p0,m0⟩] at hq
          by_cases a3:x.ip.length=4
          ·simp [g1,he,a0,a1,a3,p0,hp,m0,undef]
           try exact hq
          ·have a3':x.ip.length=16:=a2.resolve_left a3
           simp [g1,he,a0,a1,a3',p0,hp,m0,undef]
           try exact hq
         ·rw [no _ m0 fun h=>(am h).2.2.2.2.2.2] at hq
          have m1:(x.mac=[]∧(0:Int)=0)=False:=eq_false fun q=>m0 (by rw [q.1];exact q.2)
          simp at m1
          by_cases a3:x.ip.length=4
          ·simp [g1,he,a0,a1,a3,p0,hp,m0,m1,undef]
           try exact hq
          ·have a3':x.ip.length=16:=a2.resolve_left a3
           simp [g1,he,a0,a1,a3',p0,hp,m0,m1,undef]
           try exact hq
        ·rw [no _ p0 fun h=>(am h).2.2.2.2.2.1 hp] at hq
         by_cases a3:x.ip.length=4
         ·simp [g1,he,a0,a1,a3,a4,a5,p0,hp,undef]
          try exact hq
         ·have a3':x.ip.length=16:=a2.resolve_left a3
          simp [g1,he,a0,a1,a3',a4,a5,p0,hp,undef]
          try exact hq
       ·by_cases m0:(x.mac.length:Int)=0
        ·rw [yes ⟨a0,a1,a2,a4,a5,fun q=>absurd (hp.symm.trans q) (by decide),m0⟩] at hq
         by_cases a3:x.ip.length=4
         ·simp [g1,he,a0,a1,a3,a4,a5,hp,m0,undef]
          try exact hq
         ·have a3':x.ip.length=16:=a2.resolve_left a3
          simp [g1,he,a0,a1,a3',a4,a5,hp,m0,undef]
          try exact hq
        ·rw [no _ m0 fun h=>(am h).2.2.2.2.2.2] at hq
         have m1:(x.mac=[]∧(0:Int)=0)=False:=eq_false fun q=>m0 (by rw [q.1];exact q.2)
         simp at m1
         by_cases a3:x.ip.length=4
         ·simp [g1,he,a0,a1,a3,a4,a5,hp,m0,m1,undef]
          try exact hq
         ·have a3':x.ip.length=16:=a2.resolve_left a3
          simp [g1,he,a0,a1,a3',a4,a5,hp,m0,m1,undef]
          try exact hq
      ·rw [no _ a5 fun h=>(am h).2.2.2.2.1] at hq
       by_cases a3:x.ip.length=4
       ·simp [g1,he,a0,a1,a3,a4,a5,undef]
        try exact hq
       ·have a3':x.ip.length=16:=a2.resolve_left a3
        simp [g1,he,a0,a1,a3',a4,a5,undef]
        try exact hq
     ·rw [no _ a4 fun h=>(am h).2.2.2.1] at hq
      by_cases a3:x.ip.length=4
      ·simp [g1,he,a0,a1,a3,a4,undef]
       try exact hq
      ·have a3':x.ip.length=16:=a2.resolve_left a3
       simp [g1,he,a0,a1,a3',a4,undef]
       try exact hq
    ·rw [no _ a2 fun h=>(am h).2.2.1] at hq
     have a3:¬ (x.ip.length:Int)=4:=by omega
     have a3':¬ (x.ip.length:Int)=16:=by omega
     simp [g1,he,a0,a1,a3,a3',undef]
     try exact hq
   ·rw [no _ a1 fun h=>(am h).2.1] at hq
    simp [g1,he,a0,a1,undef]
    try exact hq
  ·rw [no _ a0 fun h=>(am h).1] at hq
   simp [g1,he,a0,undef]
   try exact hq
theorem raenc_ok (A:AHeap) (x:Ad) (hw:x.W) (Q:Value→AHeap→Prop) (hq:∀ A',Ext NoB A A'→Q (resE x.enc) A'):wF T (.func (.func 54) #[] #[]) [.agg ⟨x.cells⟩] A Q:=by
 refine wF_func (first:=[]) (captured:=[]) t54 ⟨rfl,by decide⟩ ?_
 dsimp only [c54]
 have hc:=Ad.cells_eq x
 simp [hc]
 generalize hA1:A.alloc _=A1
 obtain ⟨g1,e1,z1⟩:=alloc_facts hA1
 simp [g1]
 rw [← hc]
 refine rmay12_ok A1 x _ fun A2 e2=>?_
 have g2:=e2.get g1 id
 have e12:=e1.trans e2
 cases hm:x.may
 ·have:=hq A2 e12
  rw [Ad.enc,hm] at this
  simp
  exact this
 have hq':∀ A',Ext NoB A A'→Q (.tuple ⟨[.string ⟨⟨x.body⟩⟩,.int .i64 0]⟩) A':=fun A' e=>by
  have:=hq A' e
  rwa [Ad.enc,hm] at this
 have hm':=hm
 simp only [Ad.may,Bool.and_eq_true,Bool.or_eq_true,decide_eq_true_eq] at hm'
 obtain ⟨⟨⟨⟨h1,h2⟩,h3⟩,h4⟩,h5⟩:=hm'
 obtain ⟨n,hn,hn2⟩:∃ n:Nat,x.id=n∧n<256:=⟨x.id.toNat,by omega,by omega⟩
 obtain ⟨p,hp,hp2⟩:∃ n:Nat,x.port=n∧n<65536:=⟨x.port.toNat,by omega,by omega⟩
 have hnw:IntKind.u64.wrap (n:Int)=n:=IntWalk.u64_in _ (by omega)
 have hpw:IntKind.u64.wrap (p:Int)=p:=IntWalk.u64_in _ (by omega)
 have hml:x.mac.length≤8:=by rw [h5];split<;>omega
 have hil:x.ip.length≤16:=by omega
 have o1:¬ (9223372036854775807:Int)<1+1+(x.ip.length:Int):=by omega
 have o1':¬ (9223372036854775807:Int)<2+(x.ip.length:Int):=by omega
 have o2:¬ (9223372036854775807:Int)<1+(1+((x.ip.length:Int)+2))+(x.mac.length:Int):=by omega
 have o4:¬ (9223372036854775807:Int)<1+((x.ip.length:Int)+(1+(x.mac.length:Int))):=by omega
 have o5:¬ (9223372036854775807:Int)<(x.ip.length:Int)+2+(x.mac.length:Int):=by omega
 have o6:¬ (9223372036854775807:Int)<1+((x.ip.length:Int)+(3+(x.mac.length:Int))):=by omega
 have o3:¬ (9223372036854775807:Int)<1+(1+(x.ip.length:Int))+(x.mac.length:Int):=by omega
 cases he:x.echo<;>cases hh:x.hasPort
 ·have hb:x.body=[48]++(be n 1++(x.ip++x.mac)):=by simp [Ad.body,he,hh,hn,hp,be]
  rw [hb] at hq'
  simp [g2,he]
  refine wC_opsD_chk ?_
  simp [g2,hn,hnw]
  refine rput_ok _ [48] n 1 (by decide) (by omega) (by simp) _ fun A3 e3=>?_
  have g3:=e3.get g2 id
  simp [g3,be_len,o1,o1']
  refine wE_intro ?_ ?_
  ·simp only [List.all_cons,List.all_nil,chkOk,List.nil_append,List.cons_append,List.getElem?_cons_succ,List.getElem?_cons_zero]
   simp [Bx,g2,g3,vbeq,hn]
  ·simp [g3,hh,be_len,o3,o4,o5,show ¬ (9223372036854775807:Int)<(x.ip.length:Int)+1+1+(x.mac.length:Int) by omega]
   exact hq' A3 (e12.trans e3)
 ·have hb:x.body=[48]++(be n 1++(x.ip++(be p 2++x.mac))):=by simp [Ad.body,he,hh,hn,hp,be]
  rw [hb] at hq'
  simp [g2,he]
  refine wC_opsD_chk ?_
  simp [g2,hn,hnw]
  refine rput_ok _ [48] n 1 (by decide) (by omega) (by simp) _ fun A3 e3=>?_
  have g3:=e3.get g2 id
  simp [g3,be_len,o1,o1']
  refine wE_intro ?_ ?_
  ·simp only [List.all_cons,List.all_nil,chkOk,List.nil_append,List.cons_append,List.getElem?_cons_succ,List.getElem?_cons_zero]
   simp [Bx,g2,g3,vbeq,hn]
  ·simp [g3,hh,hp,hpw]
   refine rput_ok _ _ p 2 (by decide) (by omega) (by simp [be_len];omega) _ fun A4 e4=>?_
   have g4:=e4.get g3 id
   simp [g4,be_len,show ¬ (9223372036854775807:Int)<1+(1+((x.ip.length:Int)+2))+(x.mac.length:Int) by omega,show ¬ (9223372036854775807:Int)<(x.ip.length:Int)+2+1+1+(x.mac.length:Int) by omega,o2,o6]
   exact hq' A4 ((e12.trans e3).trans e4)
 ·have hb:x.body=[49]++(be n 1++(x.ip++x.mac)):=by simp [Ad.body,he,hh,hn,hp,be]
  rw [hb] at hq'
  simp [g2,he]
  refine wC_opsD_chk ?_
  simp [g2,hn,hnw]
  refine rput_ok _ [49] n 1 (by decide) (by omega) (by simp) _ fun A3 e3=>?_
  have g3:=e3.get g2 id
  simp [g3,be_len,o1,o1']
  refine wE_intro ?_ ?_
  ·simp only [List.all_cons,List.all_nil,chkOk,List.nil_append,List.cons_append,List.getElem?_cons_succ,List.getElem?_cons_zero]
   simp [Bx,g2,g3,vbeq,hn]
  ·simp [g3,hh,be_len,o3,o4,o5,show ¬ (9223372036854775807:Int)<(x.ip.length:Int)+1+1+(x.mac.length:Int) by omega]
   exact hq' A3 (e12.trans e3)
 ·have hb:x.body=[49]++(be n 1++(x.ip++(be p 2++x.mac))):=by simp [Ad.body,he,hh,hn,hp,be]
  rw [hb] at hq'
  simp [g2,he]
  refine wC_opsD_chk ?_
  simp [g2,hn,hnw]
  refine rput_ok _ [49] n 1 (by decide) (by omega) (by simp) _ fun A3 e3=>?_
  have g3:=e3.get g2 id
  simp [g3,be_len,o1,o1']
  refine wE_intro ?_ ?_
  ·simp only [List.all_cons,List.all_nil,chkOk,List.nil_append,List.cons_append,List.getElem?_cons_succ,List.getElem?_cons_zero]
   simp [Bx,g2,g3,vbeq,hn]
  ·simp [g3,hh,hp,hpw]
   refine rput_ok _ _ p 2 (by decide) (by omega) (by simp [be_len];omega) _ fun A4 e4=>?_
   have g4:=e4.get g3 id
   simp [g4,be_len,show ¬ (9223372036854775807:Int)<1+(1+((x.ip.length:Int)+2))+(x.mac.length:Int) by omega,show ¬ (9223372036854775807:Int)<(x.ip.length:Int)+2+1+1+(x.mac.length:Int) by omega,o2,o6]
   exact hq' A4 ((e12.trans e3).trans e4)
theorem rrenc_ok (A:AHeap) (l:List UInt8) (hl:l.length<100000) (Q:Value→AHeap→Prop) (hq:∀ A',Ext NoB A A'→Q (resE (remE l)) A'):wF T (.func (.func 55) #[] #[]) [.agg ⟨[.string ⟨⟨l⟩⟩]⟩] A Q:=by
 refine wF_func (first:=[]) (captured:=[]) t55 ⟨rfl,by decide⟩ ?_
 dsimp only [c55]
 simp
 generalize hA1:A.alloc _=A1
 obtain ⟨g1,e1,z1⟩:=alloc_facts hA1
 have hq:=hq A1 e1
 by_cases h0:(l.length:Int)<1
 ·have h0':l=[]:=List.length_eq_zero_iff.1 (by omega)
  rw [remE,if_neg (by omega)] at hq
  simp [g1,h0,h0',undef]
  exact hq
 ·by_cases h37:37<(l.length:Int)
  ·rw [remE,if_neg (by omega)] at hq
   simp [g1,h0,show ¬ l=[] from fun q=>h0 (by rw [q];decide),h37,show 37<l.length by omega]
   exact hq
  ·rw [remE,if_pos (by omega)] at hq
   simp [g1,h0,show ¬ l=[] from fun q=>h0 (by rw [q];decide),h37,show ¬ 37<l.length by omega,show ¬ (9223372036854775807:Int)<1+(l.length:Int) by omega]
   exact hq
theorem rpenc_ok (A:AHeap) (b:Bool) (Q:Value→AHeap→Prop) (hq:∀ A',Ext NoB A A'→Q (.string ⟨⟨prioE b⟩⟩) A'):wF T (.func (.func 56) #[] #[]) [.agg ⟨[.bool b]⟩] A Q:=by
 refine wF_func (first:=[]) (captured:=[]) t56 ⟨rfl,by decide⟩ ?_
 dsimp only [c56]
 simp
 generalize hA1:A.alloc _=A1
 obtain ⟨g1,e1,z1⟩:=alloc_facts hA1
 cases b<;>simp [g1]<;>exact hq A1 e1
theorem rfenc_ok (A:AHeap) (n:Nat) (Q:Value→AHeap→Prop) (hq:∀ A',Ext NoB A A'→Q (.string ⟨⟨bigE 6 n⟩⟩) A'):wF T (.func (.func 57) #[] #[]) [.agg ⟨[.int .u64 (n:Nat)]⟩] A Q:=by
 refine wF_func (first:=[]) (captured:=[]) t57 ⟨rfl,by decide⟩ ?_
 dsimp only [c57]
 simp
 generalize hA1:A.alloc _=A1
 obtain ⟨g1,e1,z1⟩:=alloc_facts hA1
 simp [g1]
 refine laid_ok A1 n 8 (by decide) _ fun A2 e2=>?_
 simp [be_len]
 exact hq A2 (e1.trans e2)
theorem rkenc_ok (A:AHeap) (n:Nat) (Q:Value→AHeap→Prop) (hq:∀ A',Ext NoB A A'→Q (.string ⟨⟨bigE 7 n⟩⟩) A'):wF T (.func (.func 58) #[] #[]) [.agg ⟨[.int .u64 (n:Nat)]⟩] A Q:=by
 refine wF_func (first:=[]) (captured:=[]) t58 ⟨rfl,by decide⟩ ?_
 dsimp only [c58]
 simp
 generalize hA1:A.alloc _=A1
 obtain ⟨g1,e1,z1⟩:=alloc_facts hA1
 simp [g1]
 refine laid_ok A1 n 8 (by decide) _ fun A2 e2=>?_
 simp [be_len]
 exact hq A2 (e1.trans e2)
theorem rtenc_ok (A:AHeap) (f r:Int) (Q:Value→AHeap→Prop) (hq:∀ A',Ext NoB A A'→Q (resE (rstE f r)) A'):wF T (.func (.func 59) #[] #[]) [.agg ⟨[.int .i64 f,.int .i64 r]⟩] A Q:=by
 refine wF_func (first:=[]) (captured:=[]) t59 ⟨rfl,by decide⟩ ?_
 dsimp only [c59]
 simp
 generalize hA1:A.alloc _=A1
 obtain ⟨g1,e1,z1⟩:=alloc_facts hA1
 by_cases a0:f<0
 ·have:=hq A1 e1
  rw [rstE,if_neg (by omega)] at this
  simp [g1,a0]
  exact this
 by_cases a1:15<f
 ·have:=hq A1 e1
  rw [rstE,if_neg (by omega)] at this
  simp [g1,a0,a1]
  exact this
 by_cases a2:r<0
 ·have:=hq A1 e1
  rw [rstE,if_neg (by omega)] at this
  simp [g1,a0,a1,a2]
  exact this
 by_cases a3:255<r
 ·have:=hq A1 e1
  rw [rstE,if_neg (by omega)] at this
  simp [g1,a0,a1,a2,a3]
  exact this
 obtain ⟨n,rfl,hn⟩:∃ n:Nat,f=n∧n<16:=⟨f.toNat,by omega,by omega⟩
 obtain ⟨m,rfl,hm⟩:∃ m:Nat,r=m∧m<256:=⟨r.toNat,by omega,by omega⟩
 have hb:be (32768+n*256+m) 2=be (128+n) 1++be m 1:=by
  simp only [be,Nat.pow_one,Nat.pow_zero,Nat.div_one,List.cons_append,List.nil_append]
  rw [show (32768+n*256+m) / 256 % 256=(128+n) % 256 by omega,show (32768+n*256+m) % 256=m % 256 by omega]
 have hq':∀ A',Ext NoB A A'→Q (.tuple ⟨[.string ⟨⟨be (128+n) 1++be m 1⟩⟩,.int .i64 0]⟩) A':=fun A' e=>by
  have:=hq A' e
  rwa [rstE,if_pos (by omega),Int.toNat_natCast,Int.toNat_natCast,hb] at this
 obtain ⟨k,hk⟩:∃ k,k=128+n:=⟨_,rfl⟩
 rw [← hk] at hq'
 have w1:IntKind.i64.wrap (128+(n:Int))=(k:Int):=by rw [IntWalk.i64_in _ (by omega)];omega
 have w2:IntKind.u64.wrap (k:Int)=k:=IntWalk.u64_in _ (by omega)
 have w3:IntKind.u64.wrap (m:Int)=m:=IntWalk.u64_in _ (by omega)
 simp [g1,a0,a1,a2,a3,show ¬ (15:Int)<(n:Int) by omega,show ¬ (255:Int)<(m:Int) by omega,show ¬ 15<n by omega,show ¬ 255<m by omega]
 refine wC_opsD_chk ?_
 simp [g1,w1,w2]
 refine laid_ok A1 k 1 (by decide) _ fun A2 e2=>?_
 have g2:=e2.get g1 id
 simp [g2,w3]
 refine laid_ok A2 m 1 (by decide) _ fun A3 e3=>?_
 simp [be_len]
 refine wE_intro ?_ ?_
 ·simp only [List.all_cons,List.all_nil,chkOk,List.nil_append,List.cons_append,List.getElem?_cons_succ,List.getElem?_cons_zero]
  simp [Bx,g1,g2,vbeq]
 ·simp
  exact hq' A3 ((e1.trans e2).trans e3)
end Go.Proofs.YtigknpfjhegkgaaGreatDoor
end
