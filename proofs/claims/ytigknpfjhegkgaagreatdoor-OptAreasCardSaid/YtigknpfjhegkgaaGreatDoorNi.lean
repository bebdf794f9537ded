/- A text of this claim. -/
import Derived.Test.YtigknpfjhegkgaaGreatDoorNf
import Derived.Test.YtigknpfjhegkgaaGreatDoorKi
import Derived.Test.YtigknpfjhegkgaaGreatDoorNc
import Derived.KernelRfl
import Derived.Test.YtigknpfjhegkgaaGreatDoorNd
import Derived.Test.YtigknpfjhegkgaaGreatDoorRdm
section
namespace Go.Proofs.YtigknpfjhegkgaaGreatDoor
open Go Go.AS
set_option maxRecDepth 100000
set_option linter.unusedSimpArgs false
set_option linter.unusedVariables false
attribute [local irreducible] Trie.set Trie.get Env.rd
attribute [local simp ↓] wV_b2s
attribute [local simp] Nat.add_assoc wD_cons'' wD_nil' wC_seq wC_ops wC_opsD_nil wC_cond wC_skip wC_ret wC_exit wC_block wO_cons' wO_nil wantedA wV_eq lop qop ev wL_some wL_none wPut envOf rd_set rd_leaf eqA thenC blockC wB_true wB_false endF unwindA resultsA resA tupleA rdCell rdCells wrCells cl fillP lay rep bi_eql bi_neq bi_lss bi_leq bi_gtr bi_geq bi_add bi_sub bs_eql bs_neq bi_shr4 unA get_set' AHeap.get_alloc oneCell beqd bned idxA
theorem mul256 (v:Nat) (h:v<72057594037927936):binA .mul (.int .u64 (v:Nat)) (.int .u64 256)=some (.int .u64 ((v*256:Nat):Int)):=by
 simp only [binA,ne_eq,not_true_eq_false,if_false]
 rw [IntWalk.u64_in _ (by omega)];simp
theorem quo16 (a:UInt8):binA .quo (.int .u8 (a.toNat:Nat)) (.int .u8 16)=some (.int .u8 ((a.toNat / 16:Nat):Int)):=by
 have ha:=a.toNat_lt
 simp only [binA,ne_eq,not_true_eq_false,if_false]
 rw [if_neg (by decide)]
 have:((a.toNat:Nat):Int).tdiv 16=((a.toNat / 16:Nat):Int):=by rw [Int.tdiv_eq_ediv_of_nonneg (by omega)];omega
 rw [this,IntWalk.u8_in _ (by omega)]
theorem rem2 (k:IntKind) (n:Nat):binA .rem (.int k (n:Nat)) (.int k 2)=some (.int k ((n % 2:Nat):Int)):=by
 simp only [binA,ne_eq,not_true_eq_false,if_false]
 rw [if_neg (by decide),show (2:Int)=((2:Nat):Int) from rfl,Int.tmod_eq_emod_of_nonneg (by omega)]
 rfl
theorem wrap_nat1 (n:Nat) (h:n<9000000000000000000):IntKind.i64.wrap ((n:Int)+1)=((n+1:Nat):Int):=by
 rw [show ((n:Int)+1)=((n+1:Nat):Int) by omega];exact IntWalk.i64_in _ (by omega)
theorem val_small {l:List UInt8} {k:Nat} (h:l.length≤k):val l<256 ^ k:=Nat.lt_of_lt_of_le (val_lt l) (Nat.pow_le_pow_right (by decide) h)
theorem val_step (l:List UInt8) (i:Nat) (h:i<l.length) (h8:l.length≤8):IntKind.u64.wrap (((val (l.take i)*256:Nat):Int)+((l[i].toNat:Nat):Int))=((val (l.take (i+1)):Nat):Int):=by
 have hs:val (l.take (i+1))=val (l.take i)*256+l[i].toNat:=by rw [List.take_succ_eq_append_getElem h,val_snoc]
 have hb:=val_small (l:=l.take (i+1)) (k:=8) (by rw [List.length_take];omega)
 rw [IntWalk.u64_in _ (by omega)]
 omega
def NuI (s:List UInt8) (A:AHeap) (m:Nat) (st:St):Prop:=∃ i:Nat,i≤s.length∧m=s.length - i∧st.n=19∧st.dfs=[]∧st.A=A∧st.env.rd 0=.string ⟨⟨s⟩⟩∧st.env.rd 3=.int .u64 (val (s.take i):Nat)∧st.env.rd 4=.int .i64 (i:Nat)
theorem rnumb_ok (A:AHeap) (s:List UInt8) (hs:s.length≤8) (Q:Value→AHeap→Prop) (hq:Q (.int .u64 (val s:Nat)) A):wF T (.func (.func 65) #[] #[]) [.string ⟨⟨s⟩⟩] A Q:=by
 refine wF_func (first:=[]) (captured:=[]) t65 ⟨rfl,by decide⟩ ?_
 dsimp only [c65]
 simp
 refine wC_loop_inv (NuI s A) ?_ s.length _ ⟨0,by omega,rfl,rfl,rfl,rfl,by simp,by simp [val_nil],by simp⟩
 rintro m ⟨env,nn,dfs,B⟩ ⟨i,hi,rfl,s1,s2,s3,r0,r3,r4⟩
 simp only at s1 s2 s3 r0 r3 r4
 subst s1;subst s2;subst s3
 by_cases c:i<s.length
 ·have ci:(i:Int)<(s.length:Int):=by omega
  have e:s[i]?=some s[i]:=List.getElem?_eq_getElem c
  have hm:=mul256 (val (s.take i)) (by have:=val_small (l:=s.take i) (k:=7) (by rw [List.length_take];omega);omega)
  have w1:IntKind.u64.wrap ((s[i].toNat:Nat):Int)=(s[i].toNat:Nat):=IntWalk.u64_in _ (by have:=s[i].toNat_lt;omega)
  have vs:=val_step s i c hs
  have ws:=wrap_nat1 i (by omega)
  simp only [Int.natCast_mul] at vs hm
  simp [r0,r3,r4,c,ci,e,hm,w1]
  exact ⟨s.length - (i+1),by omega,i+1,by omega,rfl,rfl,rfl,rfl,by simp [r0],by simpa using vs,by simpa using ws⟩
 ·have ci:¬ (i:Int)<(s.length:Int):=by omega
  have:s.take i=s:=List.take_of_length_le (by omega)
  rw [this] at r3
  simp [r0,r3,r4,c,ci]
  exact hq
theorem rtake_ok (A:AHeap) (p:Nat) (c:Cur) (n:Nat) (h:CurAt A p c) (hn:n<1000000) (Q:Value→AHeap→Prop) (hq:∀ A',CurAt A' p (c.go n)→Ext (fun j=>j=p) A A'→Q (.string ⟨⟨c.got n⟩⟩) A') :
  wF T (.func (.func 66) #[] #[]) [.pointer (some ⟨p,0,none⟩),.int .i64 (n:Nat)] A Q:=by
 refine wF_func (first:=[]) (captured:=[]) t66 ⟨rfl,by decide⟩ ?_
 dsimp only [c66]
 obtain ⟨s,i,br⟩:=c
 have g:=h.g
 have hle:=h.le
 have hbig:=h.big
 have lA:=AHeap.get_lt g
 simp only [Cur.cells] at g
 simp only at hle hbig
 have e1:∀ y,Ext (fun j=>j=p) A (A.set p y):=fun y=>Ext.set rfl
 by_cases hb:br=true
 ·subst hb
  obtain ⟨k1,k2⟩:=Cur.go_no (c:=⟨s,i,true⟩) (n:=n) (.inl rfl)
  rw [k1,k2] at hq
  simp [g,lA]
  exact hq _ ⟨by simp [lA,Cur.cells],hle,hbig⟩ (e1 _)
 have hb':br=false:=by cases br<;>simp at hb ⊢
 subst hb'
 have hn0:¬ (n:Int)<0:=by omega
 have w1:IntKind.i64.wrap ((s.length:Int) - (i:Int))=(s.length:Int) - (i:Int):=IntWalk.i64_in _ (by omega)
 by_cases hc:i+n≤s.length
 ·obtain ⟨k1,k2⟩:=Cur.go_ok (c:=⟨s,i,false⟩) (n:=n) rfl hc
  rw [k1,k2] at hq
  have hc':¬ ((s.length:Int) - (i:Int)<(n:Int)):=by omega
  have w2:IntKind.i64.wrap ((i:Int)+(n:Int))=(i:Int)+(n:Int):=IntWalk.i64_in _ (by omega)
  have w3:IntKind.i64.wrap ((i:Int)+(n:Int) - (n:Int))=(i:Int):=by rw [IntWalk.i64_in _ (by omega)];omega
  have w4:IntKind.i64.wrap (i:Int)=i:=IntWalk.i64_in _ (by omega)
  have hsl:=sl_mid s .i64 .i64 i (i+n) (by omega) hc
  rw [show i+n - i=n by omega] at hsl
  simp only [Int.natCast_add] at hsl
  simp [g,lA,hn0,w1,hc',w2,w3,w4,hsl]
  exact hq _ ⟨by simp [lA,Cur.cells],hc,hbig⟩ (e1 _)
 ·obtain ⟨k1,k2⟩:=Cur.go_no (c:=⟨s,i,false⟩) (n:=n) (.inr (by show s.length<i+n;omega))
  rw [k1,k2] at hq
  have hc':((s.length:Int) - (i:Int)<(n:Int)):=by omega
  simp [g,lA,hn0,w1,hc']
  exact hq _ ⟨by simp [lA,Cur.cells],hle,hbig⟩ (e1 _)
def CnI (s:List UInt8) (A:AHeap) (m:Nat) (st:St):Prop:=∃ i:Nat,i≤s.length∧m=s.length - i∧st.n=25∧st.dfs=[]∧st.A=A∧st.env.rd 5=.string ⟨⟨s⟩⟩∧st.env.rd 6=.int .u64 (val (s.take i):Nat)∧st.env.rd 7=.int .i64 (i:Nat)
theorem cnum_ok (A:AHeap) (p:Nat) (c:Cur) (w:Nat) (h:CurAt A p c) (hw:w≤8) (Q:Value→AHeap→Prop) (hq:∀ A',CurAt A' p (c.go w)→Ext (fun j=>j=p) A A'→Q (.int .u64 (val (c.got w):Nat)) A') :
  wF T (.func (.func 67) #[] #[]) [.pointer (some ⟨p,0,none⟩),.int .i64 (w:Nat)] A Q:=by
 refine wF_func (first:=[]) (captured:=[]) t67 ⟨rfl,by decide⟩ ?_
 dsimp only [c67]
 simp
 refine rtake_ok A p c w h (by omega) _ fun B hB eB=>?_
 have hq':=hq B hB eB
 have hs:(c.got w).length≤8:=by unfold Cur.got;split<;>simp;omega
 generalize c.got w=s at hq' hs
 simp
 refine wC_loop_inv (CnI s B) ?_ s.length _ ⟨0,by omega,rfl,rfl,rfl,rfl,by simp,by simp [val_nil],by simp⟩
 rintro m ⟨env,nn,dfs,C⟩ ⟨i,hi,rfl,s1,s2,s3,r5,r6,r7⟩
 simp only at s1 s2 s3 r5 r6 r7
 subst s1;subst s2;subst s3
 by_cases c:i<s.length
 ·have ci:(i:Int)<(s.length:Int):=by omega
  have e:s[i]?=some s[i]:=List.getElem?_eq_getElem c
  have hm:=mul256 (val (s.take i)) (by have:=val_small (l:=s.take i) (k:=7) (by rw [List.length_take];omega);omega)
  have w1:IntKind.u64.wrap ((s[i].toNat:Nat):Int)=(s[i].toNat:Nat):=IntWalk.u64_in _ (by have:=s[i].toNat_lt;omega)
  have vs:=val_step s i c hs
  have ws:=wrap_nat1 i (by omega)
  simp only [Int.natCast_mul] at vs hm
  simp [r5,r6,r7,c,ci,e,hm,w1]
  exact ⟨s.length - (i+1),by omega,i+1,by omega,rfl,rfl,rfl,rfl,by simp [r5],by simpa using vs,by simpa using ws⟩
 ·have ci:¬ (i:Int)<(s.length:Int):=by omega
  have:s.take i=s:=List.take_of_length_le (by omega)
  rw [this] at r6
  simp [r5,r6,r7,c,ci]
  exact hq'
def fo (n k:Nat):Int:=if 0<k∧n=2 then 0 else if 1<k∧n=10 then 1 else if 2<k∧n=18 then 2 else if 3<k∧n=20 then 3 else if 4<k∧n=22 then 4 else -1
theorem fo_succ (n k:Nat) (hk:k<5):fo n (k+1)=if n=csize (k:Int) then (k:Int) else fo n k:=by
 have hk':k=0∨k=1∨k=2∨k=3∨k=4:=by omega
 by_cases hn:n=2∨n=10∨n=18∨n=20∨n=22
 ·rcases hn with rfl | rfl | rfl | rfl | rfl<;>rcases hk' with rfl | rfl | rfl | rfl | rfl<;>rfl
 ·have hm:∀ j,fo n j = -1:=fun j=>by
   unfold fo
   rw [if_neg (by omega),if_neg (by omega),if_neg (by omega),if_neg (by omega),if_neg (by omega)]
  have hc:¬ n=csize (k:Int):=by
   rcases hk' with rfl|rfl|rfl|rfl|rfl
   ·exact fun q=>hn (.inl q)
   ·exact fun q=>hn (.inr (.inl q))
   ·exact fun q=>hn (.inr (.inr (.inl q)))
   ·exact fun q=>hn (.inr (.inr (.inr (.inl q))))
   ·exact fun q=>hn (.inr (.inr (.inr (.inr q))))
  rw [if_neg hc,hm,hm]
def FoI (s:List UInt8) (q2:Nat) (A:AHeap) (m:Nat) (st:St):Prop:=∃ k:Nat,k≤5∧m=5 - k∧st.n=67∧st.dfs=[]∧st.A=A∧st.env.rd 0=.string ⟨⟨s⟩⟩∧st.env.rd 2=.pointer (some ⟨q2,0,none⟩)∧st.env.rd 4=.int .i64 (fo s.length k)∧st.env.rd 5=.int .i64 (k:Nat)
theorem rep_zero:∀ n,rep n [Value.int .u8 0]=bcells (List.replicate n 0)
 | 0=>rfl
 | n+1=>by show _::rep n _=_;rw [rep_zero n];rfl
theorem val_zeros:∀ n,val (List.replicate n 0)=0
 | 0=>rfl
 | n+1=>by rw [List.replicate_succ,val_cons,val_zeros n];simp
theorem seg_pad (r:List UInt8) (z i n:Nat) (h:i+n≤r.length∨r.length≤i):val (seg (r++List.replicate z 0) i n)=val (seg r i n):=by
 rcases h with h|h
 ·have:seg (r++List.replicate z 0) i n=seg r i n:=by
   unfold seg
   rw [List.drop_append_of_le_length (by omega),List.take_append_of_le_length (by rw [List.length_drop];omega)]
  rw [this]
 ·rw [seg_skip _ _ _ _ h,seg_nil _ _ _ h]
  have:seg (List.replicate z (0:UInt8)) (i - r.length) n=List.replicate (min n (z - (i - r.length))) 0:=by
   unfold seg;rw [List.drop_replicate,List.take_replicate]
  rw [this,val_zeros];rfl
theorem quo32 (a:UInt8):binA .quo (.int .u8 (a.toNat:Nat)) (.int .u8 32)=some (.int .u8 ((a.toNat / 32:Nat):Int)):=by
 have ha:=a.toNat_lt
 simp only [binA,ne_eq,not_true_eq_false,if_false]
 rw [if_neg (by decide)]
 have:((a.toNat:Nat):Int).tdiv 32=((a.toNat / 32:Nat):Int):=by rw [Int.tdiv_eq_ediv_of_nonneg (by omega)];omega
 rw [this,IntWalk.u8_in _ (by omega)]
theorem str_add (a b:List UInt8) (h:a.length+b.length<1000000):binA .add (.string ⟨⟨a⟩⟩) (.string ⟨⟨b⟩⟩)=some (.string ⟨⟨a++b⟩⟩):=by
 simp only [binA]
 rw [if_neg]
 show ¬ (((a.length+b.length:Nat):Int) > 9223372036854775807)
 omega
theorem rcdec_ok (A:AHeap) (s:List UInt8) (hs:s.length<1000000) (Q:Value→AHeap→Prop) (hq:∀ A',Ext NoB A A'→Q (resD Cap.cells cz (Cap.dec s)) A'):wF T (.func (.func 36) #[] #[]) [.string ⟨⟨s⟩⟩] A Q:=by
 refine wF_func (first:=[]) (captured:=[]) t36 ⟨rfl,by decide⟩ ?_
 dsimp only [c36]
 match s,hs,hq with
 | [],hs,hq =>
   simp
   exact hq _ (by (repeat first|exact Ext.refl|assumption|refine Ext.allocN ?_|refine Ext.setN ?_ (by first|omega|(simp;done)|(simp;omega))))
 | a::t,hs,hq =>
   have ha:=a.toNat_lt
   have y1:=quo16 a
   by_cases h0:a.toNat / 16≠0
   ·have hd:Cap.dec (a::t)=.error 7:=by simp only [Cap.dec,if_pos h0]
    rw [hd] at hq
    generalize a.toNat / 16=n at y1 h0
    have h0':¬ (n:Int)=0:=by omega
    simp [y1,h0',h0]
    exact hq _ (by (repeat first|exact Ext.refl|assumption|refine Ext.allocN ?_|refine Ext.setN ?_ (by first|omega|(simp;done)|(simp;omega))))
   have h0e:a.toNat / 16=0:=by omega
   rw [h0e] at y1
   simp [y1]
   generalize hB:AHeap.alloc _ _=B
   have b2:B.get A.size=some (.cells cz false 0):=by subst hB;simp [cz]
   have l2:=AHeap.get_lt b2
   have eB:Ext NoB A B:=by subst hB;(repeat first|exact Ext.refl|assumption|refine Ext.allocN ?_|refine Ext.setN ?_ (by first|omega|(simp;done)|(simp;omega)))
   refine wC_loop_inv (FoI (a::t) A.size B) ?_ 5 _ ⟨0,by omega,rfl,rfl,rfl,rfl,by simp,by simp,by simp [fo],by simp⟩
   rintro m ⟨env,nn,dfs,C⟩ ⟨k,hk,rfl,s1,s2,s3,r0,r2,r4,r5⟩
   simp only at s1 s2 s3 r0 r2 r4 r5
   subst s1;subst s2;subst s3
   by_cases c:k<5
   ·have ci:(k:Int)<5:=by omega
    have ws:=wrap_nat1 k (by omega)
    have hfs:=fo_succ (t.length+1) k c
    simp [r0,r2,r4,r5,ci]
    refine csize_ok C (k:Int) (by omega) (by omega) _ ?_
    by_cases h1:t.length+1=csize (k:Int)
    ·have h1i:(t.length:Int)+1=((csize (k:Int):Nat):Int):=by omega
     rw [if_pos h1] at hfs
     simp [h1i,r5]
     exact ⟨5 - (k+1),by omega,k+1,by omega,rfl,rfl,rfl,rfl,by simp [r0],by simp [r2],by simp [hfs],by simpa using ws⟩
    ·have h1i:¬ (t.length:Int)+1=((csize (k:Int):Nat):Int):=by omega
     rw [if_neg h1] at hfs
     simp [h1i,r5]
     exact ⟨5 - (k+1),by omega,k+1,by omega,rfl,rfl,rfl,rfl,by simp [r0],by simp [r2],by simp [hfs,r4],by simpa using ws⟩
   have ci:¬ (k:Int)<5:=by omega
   have hk5:k=5:=by omega
   subst hk5
   simp only [List.length_cons] at r4
   by_cases hf:t.length+1=2∨t.length+1=10∨t.length+1=18∨t.length+1=20∨t.length+1=22
   case neg =>
    have hfo:fo (t.length+1) 5 = -1:=by
     unfold fo
     rw [if_neg (by omega),if_neg (by omega),if_neg (by omega),if_neg (by omega),if_neg (by omega)]
    have hd:Cap.dec (a::t)=.error 5:=by
     simp only [Cap.dec,if_neg h0]
     match t,hf with
     | [],_=>rfl
     | b::r,hf=>simp only;rw [if_neg (by simp only [List.length_cons] at hf;omega)]
    rw [hd] at hq
    rw [hfo] at r4
    simp [r2,r4,r5,b2,l2,cz]
    exact hq _ (by (repeat first|exact Ext.refl|assumption|refine Ext.allocN ?_|refine Ext.setN ?_ (by first|omega|(simp;done)|(simp;omega))))
   match t,hs,hq,r0,r4,hf with
   | [],_,_,_,_,hf=>simp at hf
   | b::r,hs,hq,r0,r4,hf =>
     have hb:=b.toNat_lt
     have hrl:r.length≤20:=by simp only [List.length_cons] at hf;omega
     obtain ⟨f,hfo,hfc⟩:∃ f:Nat,fo (r.length+1+1) 5=(f:Int)∧((f=0∧r.length=0)∨(f=1∧r.length=8)∨(f=2∧r.length=16)∨(f=3∧r.length=18)∨(f=4∧r.length=20)):=by
      simp only [List.length_cons] at hf
      unfold fo
      rcases hf with h|h|h|h|h
      ·exact ⟨0,by rw [if_pos (by omega)];rfl,by omega⟩
      ·exact ⟨1,by rw [if_neg (by omega),if_pos (by omega)];rfl,by omega⟩
      ·exact ⟨2,by rw [if_neg (by omega),if_neg (by omega),if_pos (by omega)];rfl,by omega⟩
      ·exact ⟨3,by rw [if_neg (by omega),if_neg (by omega),if_neg (by omega),if_pos (by omega)];rfl,by omega⟩
      ·exact ⟨4,by rw [if_neg (by omega),if_neg (by omega),if_neg (by omega),if_neg (by omega),if_pos (by omega)];rfl,by omega⟩
     simp only [List.length_cons] at r4
     rw [hfo] at r4
     have hfn:¬ (f:Int)<0:=by omega
     have m2:=rem2 .u8 b.toNat
     by_cases hb2:b.toNat % 2=0
     ·have hd:Cap.dec (a::b::r)=.error 2:=by
       simp only [Cap.dec,if_neg h0]
       rw [if_pos (by omega),if_pos hb2]
      rw [hd] at hq
      rw [hb2] at m2
      simp [r0,r2,r4,r5,hfn,m2,b2,l2,cz]
      exact hq _ (by (repeat first|exact Ext.refl|assumption|refine Ext.allocN ?_|refine Ext.setN ?_ (by first|omega|(simp;done)|(simp;omega))))
     have hb1:b.toNat % 2=1:=by omega
     rw [hb1] at m2
     have hd:Cap.dec (a::b::r)=.ok ⟨(f:Nat),(a.toNat:Nat),decide (128≤b.toNat),decide (b.toNat / 32 % 2=1),val (seg r 0 8),val (seg r 8 8),(val (seg r 16 2):Nat),val (seg r 18 2)⟩:=by
      simp only [Cap.dec,if_neg h0]
      rw [if_pos (by omega),if_neg hb2]
      have e1:a.toNat % 16=a.toNat:=by omega
      have e2:decide (b.toNat / 128 % 2=1)=decide (128≤b.toNat):=decide_eq_decide.2 (by omega)
      rw [e1,e2]
      congr 2
      rcases hfc with ⟨rfl,h⟩|⟨rfl,h⟩|⟨rfl,h⟩|⟨rfl,h⟩|⟨rfl,h⟩<;>simp [h]
     rw [hd] at hq
     have ws:IntKind.i64.wrap (22 - ((r.length:Int)+2))=((20 - r.length:Nat):Int):=by rw [IntWalk.i64_in _ (by omega)];omega
     have q32:=quo32 b
     have r32:=rem2 .u8 (b.toNat / 32)
     have d32:decide (((b.toNat / 32 % 2:Nat):Int)=1)=decide (b.toNat / 32 % 2=1):=decide_eq_decide.2 (by omega)
     have d128:decide ((128:Int)≤((b.toNat:Nat):Int))=decide (128≤b.toNat):=decide_eq_decide.2 (by omega)
     obtain ⟨al,hal⟩:∃ al,al=decide (b.toNat / 32 % 2=1):=⟨_,rfl⟩
     obtain ⟨sm,hsm⟩:∃ sm,sm=decide (128≤b.toNat):=⟨_,rfl⟩
     rw [← hal] at d32 hq
     rw [← hsm] at d128 hq
     obtain ⟨n32,hn32⟩:∃ n,n=b.toNat / 32:=⟨_,rfl⟩
     rw [← hn32] at q32 r32 d32
     obtain ⟨m32,hm32⟩:∃ n,n=n32 % 2:=⟨_,rfl⟩
     rw [← hm32] at r32 d32
     obtain ⟨z,hz⟩:∃ z,z=20 - r.length:=⟨_,rfl⟩
     rw [← hz] at ws
     obtain ⟨all,hall⟩:∃ all,all=a::b::(r++List.replicate z 0):=⟨_,rfl⟩
     have lall:all.length=22:=by subst hall;simp;omega
     have hadd:binA .add (.string ⟨⟨a::b::r⟩⟩) (.string ⟨⟨List.replicate z 0⟩⟩)=some (.string ⟨⟨all⟩⟩):=by
      rw [str_add _ _ (by simp;omega),hall];rfl
     have hb2s:b2s (C.alloc (.cells (rep z [Value.int .u8 0]) false 0)) (.slice (some ⟨C.size,0,none⟩) z z)=some (.string ⟨⟨List.replicate z 0⟩⟩):=by
      have:=b2s_ok (A:=C.alloc (.cells (rep z [Value.int .u8 0]) false 0)) (v:=.slice (some ⟨C.size,0,none⟩) (List.replicate z (0:UInt8)).length z) (l:=List.replicate z 0) (.inr (.inl ⟨C.size,0,z,rep z [Value.int .u8 0],false,0,rfl,by simp,by rw [rep_zero];simp [bcells],by rw [rep_zero,List.drop_zero,Nat.mul_one,List.take_of_length_le (by simp [bcells])],fun q=>by rw [q] at hz;exact absurd hz (by unfold ENDCAP;omega)⟩))
      rwa [List.length_replicate] at this
     obtain ⟨zs,hzs⟩:∃ zs:List UInt8,zs=List.replicate z 0:=⟨_,rfl⟩
     rw [← hzs] at hadd hb2s
     have sg:∀ i n,(i+n≤r.length∨r.length≤i)→val (seg all (2+i) n)=val (seg r i n):=fun i n h=>by
      rw [hall,seg2];exact seg_pad r z i n h
     have s1:sliceSA (.string ⟨⟨all⟩⟩) (some (.int .i64 2)) (some (.int .i64 10))=some (.string ⟨⟨(all.drop 2).take 8⟩⟩):=sl_mid all .i64 .i64 2 10 (by decide) (by omega)
     have s2:sliceSA (.string ⟨⟨all⟩⟩) (some (.int .i64 10)) (some (.int .i64 18))=some (.string ⟨⟨(all.drop 10).take 8⟩⟩):=sl_mid all .i64 .i64 10 18 (by decide) (by omega)
     have s3:sliceSA (.string ⟨⟨all⟩⟩) (some (.int .i64 18)) (some (.int .i64 20))=some (.string ⟨⟨(all.drop 18).take 2⟩⟩):=sl_mid all .i64 .i64 18 20 (by decide) (by omega)
     have s4:sliceSA (.string ⟨⟨all⟩⟩) (some (.int .i64 20)) (some (.int .i64 22))=some (.string ⟨⟨(all.drop 20).take 2⟩⟩):=sl_mid all .i64 .i64 20 22 (by decide) (by omega)
     have v1:val ((all.drop 2).take 8)=val (seg r 0 8):=sg 0 8 (by omega)
     have v2:val ((all.drop 10).take 8)=val (seg r 8 8):=sg 8 8 (by omega)
     have v3:val ((all.drop 18).take 2)=val (seg r 16 2):=sg 16 2 (by omega)
     have v4:val ((all.drop 20).take 2)=val (seg r 18 2):=sg 18 2 (by omega)
     have l1:((all.drop 2).take 8).length≤8:=by rw [List.length_take];omega
     have l2':((all.drop 10).take 8).length≤8:=by rw [List.length_take];omega
     have l3:((all.drop 18).take 2).length≤8:=by rw [List.length_take];omega
     have l4:((all.drop 20).take 2).length≤8:=by rw [List.length_take];omega
     have p3:=val_p r 16 2
     have p4:=val_p r 18 2
     generalize (all.drop 2).take 8=x1 at s1 v1 l1
     generalize (all.drop 10).take 8=x2 at s2 v2 l2'
     generalize (all.drop 18).take 2=x3 at s3 v3 l3
     generalize (all.drop 20).take 2=x4 at s4 v4 l4
     have wa:IntKind.i64.wrap ((a.toNat:Nat):Int)=(a.toNat:Nat):=IntWalk.i64_in _ (by omega)
     have wx3:IntKind.i64.wrap ((val x3:Nat):Int)=(val x3:Nat):=IntWalk.i64_in _ (by omega)
     have wx4:IntKind.u16.wrap ((val x4:Nat):Int)=(val x4:Nat):=IntWalk.u16_in _ (by omega)
     rw [← v1,← v2,← v3,← v4] at hq
     have hz0:(0:Int)≤(z:Int):=by omega
     have hzm:(z:Int)≤4294967296:=by omega
     simp [r0,r2,r4,r5,hfn,m2,ws,hzm,hb2s,hadd,wa,d128,q32,r32,d32,s1]
     refine rnumb_ok _ x1 l1 _ ?_
     simp [s2]
     refine rnumb_ok _ x2 l2' _ ?_
     simp [s3]
     refine rnumb_ok _ x3 l3 _ ?_
     simp [s4,wx3]
     refine rnumb_ok _ x4 l4 _ ?_
     have nA:A.size<C.size:=l2
     simp [wx4,r2,b2,l2,cz,show A.size≠C.size by omega,show A.size<C.size+1 by omega]
     refine hq _ ?_
     have:=eB.size
     (repeat first|exact Ext.refl|assumption|refine Ext.allocN ?_|refine Ext.setN ?_ (by first|omega|(simp;done)|(simp;omega)))
theorem rtail_ok (A:AHeap) (s:List UInt8) (hs:s.length<1000000) (h4:4≤s.length) (Q:Value→AHeap→Prop) (hq:∀ A',Ext NoB A A'→Q (.int .u32 (val (seg s (s.length - 4) 4):Nat)) A'):wF T (.func (.func 68) #[] #[]) [.string ⟨⟨s⟩⟩] A Q:=by
 refine wF_func (first:=[]) (captured:=[]) t68 ⟨rfl,by decide⟩ ?_
 dsimp only [c68]
 have w1:IntKind.i64.wrap ((s.length:Int) - 4)=((s.length - 4:Nat):Int):=by rw [IntWalk.i64_in _ (by omega)];omega
 simp [w1]
 generalize hB:AHeap.alloc _ _=B
 have hc:CurAt B A.size ⟨s,s.length - 4,false⟩:=⟨by subst hB;simp [Cur.cells],by show s.length - 4≤s.length;omega,hs⟩
 have eB:Ext NoB A B:=by subst hB;(repeat first|exact Ext.refl|assumption|refine Ext.allocN ?_|refine Ext.setN ?_ (by first|omega|(simp;done)|(simp;omega)))
 refine cnum_ok B A.size _ 4 hc (by decide) _ fun C cC eC=>?_
 have hg:=(Cur.go_ok (c:=⟨s,s.length - 4,false⟩) (n:=4) rfl (by show s.length - 4+4≤s.length;omega)).2
 rw [hg]
 have w2:IntKind.u32.wrap ((val (seg s (s.length - 4) 4):Nat):Int)=(val (seg s (s.length - 4) 4):Nat):=IntWalk.u32_in _ (by have:=val_p s (s.length - 4) 4;omega)
 simp [w2]
 exact hq _ (eB.past eC (Nat.le_refl _))
theorem rjdec_ok (A:AHeap) (s:List UInt8) (hs:s.length<1000000) (Q:Value→AHeap→Prop) (hq:∀ A',Ext NoB A A'→Q (resD Jn.cells jz (Jn.dec s)) A'):wF T (.func (.func 37) #[] #[]) [.string ⟨⟨s⟩⟩] A Q:=by
 refine wF_func (first:=[]) (captured:=[]) t37 ⟨rfl,by decide⟩ ?_
 dsimp only [c37]
 match s,hs,hq with
 | [],hs,hq =>
   simp
   exact hq _ (by (repeat first|exact Ext.refl|assumption|refine Ext.allocN ?_|refine Ext.setN ?_ (by first|omega|(simp;done)|(simp;omega))))
 | a::t,hs,hq =>
   have ha:=a.toNat_lt
   have y1:=quo16 a
   by_cases h0:a.toNat / 16≠1
   ·have hd:Jn.dec (a::t)=.error 7:=by simp only [Jn.dec,if_pos h0]
    rw [hd] at hq
    generalize a.toNat / 16=n at y1 h0
    have h0':¬ (n:Int)=1:=by omega
    simp [y1,h0',h0]
    exact hq _ (by (repeat first|exact Ext.refl|assumption|refine Ext.allocN ?_|refine Ext.setN ?_ (by first|omega|(simp;done)|(simp;omega))))
   have h0e:a.toNat / 16=1:=by omega
   rw [h0e] at y1
   simp [y1]
   generalize hB:AHeap.alloc _ _=B
   have b2:B.get A.size=some (.cells jz false 0):=by subst hB;simp [jz]
   have hc:CurAt B (A.size+1) ⟨a::t,0,false⟩:=⟨by subst hB;simp [Cur.cells],Nat.zero_le _,hs⟩
   have eB:Ext NoB A B:=by subst hB;(repeat first|exact Ext.refl|assumption|refine Ext.allocN ?_|refine Ext.setN ?_ (by first|omega|(simp;done)|(simp;omega)))
   refine rtake_ok B (A.size+1) _ 1 hc (by decide) _ fun C cC eC=>?_
   have c2:=eC.get b2 (by omega)
   have l2:=AHeap.get_lt c2
   have eeC:=eB.past eC (by omega)
   have k1:(⟨a::t,0,false⟩:Cur).go 1=⟨a::t,1,false⟩:=(Cur.go_ok (c:=⟨a::t,0,false⟩) (n:=1) rfl (by simp)).1
   rw [k1] at cC
   have m1:=rem2 .u8 a.toNat
   obtain ⟨bk,hbk⟩:∃ x,x=decide (a.toNat % 2=1):=⟨_,rfl⟩
   have hbki:decide (((a.toNat % 2:Nat):Int)=1)=bk:=by rw [hbk];exact decide_eq_decide.2 (by omega)
   obtain ⟨m2,hm2⟩:∃ m2,m2=a.toNat % 2:=⟨_,rfl⟩
   rw [← hm2] at m1 hbki
   by_cases hl1:t.length+1=10
   ·match t,hs,hq,cC,hl1 with
    | b::r,hs,hq,cC,hl1 =>
      have hr8:r.length=8:=by simp at hl1;omega
      have hd:Jn.dec (a::b::r)=.ok ⟨0,bk,(b.toNat:Nat),val (seg r 0 4),val (seg r 4 4),[]⟩:=by simp only [Jn.dec,if_neg h0];rw [if_pos hr8,← hbk]
      rw [hd] at hq
      have z1:((r.length:Int)+2)=10:=by omega
      have z1':((r.length:Int)+1+1)=10:=by omega
      simp [m1,hbki,z1,z1']
      refine cnum_ok C (A.size+1) _ 1 cC (by decide) _ fun D cD eD=>?_
      obtain ⟨_,_,k3,k4⟩:=first2 _ a b r rfl
      rw [k3] at cD
      rw [k4]
      simp only [val_one]
      have d2:=eD.get c2 (by omega)
      have eeD:=eeC.past eD (by omega)
      simp
      refine cnum_ok D (A.size+1) _ 4 cD (by decide) _ fun E cE eE=>?_
      have e2:=eE.get d2 (by omega)
      have eeE:=eeD.past eE (by omega)
      obtain ⟨q1,q2⟩:=go2 a b r 0 4 (by omega)
      simp only [Nat.add_zero,Nat.zero_add] at q1 q2
      rw [q1] at cE
      rw [q2]
      have w1:IntKind.u32.wrap ((val (seg r 0 4):Nat):Int)=(val (seg r 0 4):Nat):=IntWalk.u32_in _ (by have:=val_p r 0 4;omega)
      simp [w1]
      refine cnum_ok E (A.size+1) _ 4 cE (by decide) _ fun F cF eF=>?_
      have f2:=eF.get e2 (by omega)
      have eeF:=eeE.past eF (by omega)
      have lF:=AHeap.get_lt f2
      obtain ⟨q3,q4⟩:=go2 a b r 4 4 (by omega)
      rw [show 2+4=6 from rfl] at q4
      rw [q4]
      have w2:IntKind.u32.wrap ((val (seg r 4 4):Nat):Int)=(val (seg r 4 4):Nat):=IntWalk.u32_in _ (by have:=val_p r 4 4;omega)
      have w3:IntKind.i64.wrap ((b.toNat:Nat):Int)=(b.toNat:Nat):=IntWalk.i64_in _ (by have:=b.toNat_lt;omega)
      simp [w2,w3,f2,lF,jz]
      exact hq _ (by have:=eeF.size;(repeat first|exact Ext.refl|assumption|refine Ext.allocN ?_|refine Ext.setN ?_ (by first|omega|(simp;done)|(simp;omega))))
   by_cases hl2:t.length+1=14
   ·match t,hs,hq,cC,hl1,hl2 with
    | b::r,hs,hq,cC,hl1,hl2 =>
      have hr12:r.length=12:=by simp at hl2;omega
      have hd:Jn.dec (a::b::r)=.ok ⟨1,bk,(b.toNat:Nat),0,val (seg r 8 4),seg r 0 8⟩:=by simp only [Jn.dec,if_neg h0];rw [if_neg (by omega),if_pos hr12,← hbk]
      rw [hd] at hq
      have z1:((r.length:Int)+2)=14:=by omega
      have z1':((r.length:Int)+1+1)=14:=by omega
      have hsl:sliceSA (.string ⟨⟨a::b::r⟩⟩) (some (.int .i64 2)) (some (.int .i64 10))=some (.string ⟨⟨seg r 0 8⟩⟩):=sl_mid (a::b::r) .i64 .i64 2 10 (by decide) (by simp;omega)
      have w3:IntKind.i64.wrap ((b.toNat:Nat):Int)=(b.toNat:Nat):=IntWalk.i64_in _ (by have:=b.toNat_lt;omega)
      simp [m1,hbki,z1,z1',w3,hsl]
      refine rtail_ok C (a::b::r) hs (by simp;omega) _ fun D eD=>?_
      have d2:=eD.get c2 id
      have lD:=AHeap.get_lt d2
      have e4:seg (a::b::r) ((a::b::r).length - 4) 4=seg r 8 4:=by
       have:(a::b::r).length - 4=2+8:=by simp;omega
       rw [this];exact seg2 a b r 8 4
      rw [e4]
      simp [d2,lD,jz]
      exact hq _ (by have:=eeC.trans eD;have:=this.size;(repeat first|exact Ext.refl|assumption|refine Ext.allocN ?_|refine Ext.setN ?_ (by first|omega|(simp;done)|(simp;omega))))
   by_cases hl3:t.length+1=22
   ·match t,hs,hq,cC,hl1,hl2,hl3 with
    | b::r,hs,hq,cC,hl1,hl2,hl3 =>
      have hr20:r.length=20:=by simp at hl3;omega
      have hd:Jn.dec (a::b::r)=.ok ⟨2,false,0,0,0,r⟩:=by simp only [Jn.dec,if_neg h0];rw [if_neg (by omega),if_neg (by omega),if_pos hr20]
      rw [hd] at hq
      have z1:((r.length:Int)+2)=22:=by omega
      have z1':((r.length:Int)+1+1)=22:=by omega
      have hsl:sliceSA (.string ⟨⟨a::b::r⟩⟩) (some (.int .i64 2)) none=some (.string ⟨⟨r⟩⟩):=sl_from (a::b::r) .i64 2 (by simp)
      simp [m1,hbki,z1,z1',hsl,c2,l2,jz]
      exact hq _ (by have:=eeC.size;(repeat first|exact Ext.refl|assumption|refine Ext.allocN ?_|refine Ext.setN ?_ (by first|omega|(simp;done)|(simp;omega))))
   ·have hd:Jn.dec (a::t)=.error 5:=by
     simp only [Jn.dec,if_neg h0]
     match t,hl1,hl2,hl3 with
     | [],_,_,_=>rfl
     | b::r,hl1,hl2,hl3=>simp only [List.length_cons] at hl1 hl2 hl3;simp only;rw [if_neg (by omega),if_neg (by omega),if_neg (by omega)]
    rw [hd] at hq
    have z1:¬ ((t.length:Int)+1)=10:=by omega
    have z2:¬ ((t.length:Int)+1)=14:=by omega
    have z3:¬ ((t.length:Int)+1)=22:=by omega
    simp [m1,hbki,z1,z2,z3,c2,l2,jz]
    exact hq _ (by have:=eeC.size;(repeat first|exact Ext.refl|assumption|refine Ext.allocN ?_|refine Ext.setN ?_ (by first|omega|(simp;done)|(simp;omega))))
theorem rrdec_ok (A:AHeap) (s:List UInt8) (hs:s.length<1000000) (Q:Value→AHeap→Prop) (hq:∀ A',Ext NoB A A'→Q (resD (fun l=>[.string ⟨⟨l⟩⟩]) [.string ⟨⟨[]⟩⟩] (remD s)) A'):wF T (.func (.func 40) #[] #[]) [.string ⟨⟨s⟩⟩] A Q:=by
 refine wF_func (first:=[]) (captured:=[]) t40 ⟨rfl,by decide⟩ ?_
 dsimp only [c40]
 match s,hs,hq with
 | [],hs,hq =>
   simp
   exact hq _ (by (repeat first|exact Ext.refl|assumption|refine Ext.allocN ?_|refine Ext.setN ?_ (by first|omega|(simp;done)|(simp;omega))))
 | a::t,hs,hq =>
   have y1:=quo16 a
   by_cases h0:a.toNat / 16≠4
   ·have hd:remD (a::t)=.error 7:=by simp only [remD,if_pos h0]
    rw [hd] at hq
    generalize a.toNat / 16=n at y1 h0
    have h0':¬ (n:Int)=4:=by omega
    simp [y1,h0',h0]
    exact hq _ (by (repeat first|exact Ext.refl|assumption|refine Ext.allocN ?_|refine Ext.setN ?_ (by first|omega|(simp;done)|(simp;omega))))
   have h0e:a.toNat / 16=4:=by omega
   rw [h0e] at y1
   have hsl:sliceSA (.string ⟨⟨a::t⟩⟩) (some (.int .i64 1)) none=some (.string ⟨⟨t⟩⟩):=sl_from (a::t) .i64 1 (by simp)
   by_cases h1:t.length+1<2
   ·have hd:remD (a::t)=.error 5:=by simp only [remD,if_neg h0];rw [if_neg (by omega)]
    rw [hd] at hq
    have y2:(t.length:Int)+1<2:=by omega
    simp [y1,y2]
    exact hq _ (by (repeat first|exact Ext.refl|assumption|refine Ext.allocN ?_|refine Ext.setN ?_ (by first|omega|(simp;done)|(simp;omega))))
   have y2:¬ (t.length:Int)+1<2:=by omega
   by_cases h2:38<t.length+1
   ·have hd:remD (a::t)=.error 5:=by simp only [remD,if_neg h0];rw [if_neg (by omega)]
    rw [hd] at hq
    have y3:(38:Int)<(t.length:Int)+1:=by omega
    simp [y1,y2,y3]
    exact hq _ (by (repeat first|exact Ext.refl|assumption|refine Ext.allocN ?_|refine Ext.setN ?_ (by first|omega|(simp;done)|(simp;omega))))
   have y3:¬ (38:Int)<(t.length:Int)+1:=by omega
   have hd:remD (a::t)=.ok t:=by simp only [remD,if_neg h0];rw [if_pos (by omega)]
   rw [hd] at hq
   simp [y1,y2,y3,hsl]
   exact hq _ (by (repeat first|exact Ext.refl|assumption|refine Ext.allocN ?_|refine Ext.setN ?_ (by first|omega|(simp;done)|(simp;omega))))
structure RS (A0 A:AHeap) (q2 q5:Nat) (x:List Value):Prop where
 g2:A.get q2=some (.cells dz false 0)
 g5:A.get q5=some (.cells x false 0)
 n25:q2≠q5
 ex:Ext NoB A0 A
 l2:A0.size≤q2
 l5:A0.size≤q5
theorem RS.put {A0 A:AHeap} {q2 q5:Nat} {x:List Value} (h:RS A0 A q2 q5 x) (y:List Value):RS A0 (A.set q5 (.cells y false 0)) q2 q5 y :=
 have e:Ext (fun j=>j=q5) A (A.set q5 (.cells y false 0)):=Ext.set rfl
 ⟨e.get h.g2 h.n25,by simp [AHeap.get_lt h.g5],h.n25,h.ex.past e h.l5,h.l2,h.l5⟩
theorem sl_seg (a b:UInt8) (r:List UInt8) (i n:Nat) (h:i+n≤r.length):sliceSA (.string ⟨⟨a::b::r⟩⟩) (some (.int .i64 ((2+i:Nat):Int))) (some (.int .i64 ((2+i+n:Nat):Int)))=some (.string ⟨⟨seg r i n⟩⟩):=by
 have:=sl_mid (a::b::r) .i64 .i64 (2+i) (2+i+n) (by omega) (by simp;omega)
 rw [show 2+i+n - (2+i)=n by omega] at this
 rw [this]
 exact congrArg (fun l=>some (Value.string ⟨⟨l⟩⟩)) (seg2 a b r i n)
set_option maxHeartbeats 1000000 in
theorem rdc_ok (A0 A:AHeap) (q2 q5:Nat) (a b:UInt8) (r:List UInt8) (fin ha la hm ld hs:Bool) (k w N:Nat) (hr:r.length<900000) (hk:k=if ha then wide la else 0) (hw:w=if hm then wide ld else 0) (hN:N=2+k+w+(if hm then 6 else 0)) (hl:N+(if hs then 2 else 0)≤r.length+2) (hh:hs=true→hm=true)
  (S:RS A0 A q2 q5 (⟨fin,ha,la,0,hm,ld,0,0,0,hs,0⟩:Ds).cells) (env:Env) (Q:Value→AHeap→Prop) (r0:env.rd 0=.string ⟨⟨a::b::r⟩⟩) (r2:env.rd 2=.pointer (some ⟨q2,0,none⟩)) (r5:env.rd 5=.pointer (some ⟨q5,0,none⟩)) (r6:env.rd 6=.int .i64 (N:Nat))
  (hq:∀ A',Ext NoB A0 A'→Q (.tuple ⟨[.agg ⟨(⟨fin,ha,la,val (seg r 0 k),hm,ld,val (seg r k w),(if hm then val (seg r (k+w) 4) else 0:Nat),(if hm then val (seg r (k+w+4) 2) else 0:Nat),hs,(if hs then val (seg r (k+w+6) 2) else 0:Nat)⟩:Ds).cells⟩,.int .i64 0]⟩) A') :
  wC T 38 none c38c { env:=env,n:=156,dfs:=[],A:=A } (endF [.inr (2,11,true),.inl 3] Q):=by
 dsimp only [c38c]
 have wla:=wide_le la
 have wld:=wide_le ld
 have last:∀ (B:AHeap) (env:Env) (ack dsn ssn len:Nat),ack=val (seg r 0 k)→dsn=val (seg r k w)→ssn=(if hm then val (seg r (k+w) 4) else 0:Nat)→len=(if hm then val (seg r (k+w+4) 2) else 0:Nat)→RS A0 B q2 q5 (⟨fin,ha,la,ack,hm,ld,dsn,ssn,(len:Nat),hs,0⟩:Ds).cells→env.rd 0=.string ⟨⟨a::b::r⟩⟩→env.rd 2=.pointer (some ⟨q2,0,none⟩)→env.rd 5=.pointer (some ⟨q5,0,none⟩)→env.rd 6=.int .i64 (N:Nat) →
   wC T 38 none c38d { env:=env,n:=156,dfs:=[],A:=B } (endF [.inr (2,11,true),.inl 3] Q):=by
  intro B env ack dsn ssn len e1 e2 e3 e4 SB r0 r2 r5 r6
  dsimp only [c38d]
  rw [← e1,← e2,← e3,← e4] at hq
  have g5:=SB.g5
  have l5:=AHeap.get_lt g5
  have l2:=AHeap.get_lt SB.g2
  simp only [Ds.cells] at g5
  cases hs with
  | false =>
    simp only [Bool.false_eq_true,if_false] at hq
    simp [r0,r2,r5,g5,l5,l2,SB.g2,dz]
    refine hq _ ?_
    have:=SB.ex
    have:=SB.l2
    (repeat first|exact Ext.refl|assumption|refine Ext.allocN ?_|refine Ext.setN ?_ (by first|omega|(simp;done)|(simp;omega)))
  | true =>
    have hm1:=hh rfl
    subst hm1
    simp only [if_true] at hq hN hl
    have w1:IntKind.i64.wrap ((N:Int)+2)=((N+2:Nat):Int):=by rw [IntWalk.i64_in _ (by omega)];omega
    have hsl:=sl_seg a b r (k+w+6) 2 (by omega)
    rw [show 2+(k+w+6)=N by omega] at hsl
    obtain ⟨N2,hN2⟩:∃ N2,N2=N+2:=⟨_,rfl⟩
    rw [← hN2] at w1 hsl
    have hlen:(seg r (k+w+6) 2).length≤8:=by rw [seg_len _ _ _ (by omega)];decide
    have hv:=val_p r (k+w+6) 2
    simp [r0,r5,r6,g5,w1,hsl]
    refine rnumb_ok B _ hlen _ ?_
    generalize val (seg r (k+w+6) 2)=sum at hv hq
    have w2:IntKind.u16.wrap (sum:Int)=sum:=IntWalk.u16_in _ (by omega)
    simp [r2,r5,w2,g5,l5,l2,SB.g2,dz,SB.n25,SB.n25.symm]
    refine hq _ ?_
    have:=SB.ex
    have:=SB.l2
    have:=SB.l5
    (repeat first|exact Ext.refl|assumption|refine Ext.allocN ?_|refine Ext.setN ?_ (by first|omega|(simp;done)|(simp;omega)))
 have mid:∀ (B:AHeap) (env:Env) (ack:Nat),ack=val (seg r 0 k)→RS A0 B q2 q5 (⟨fin,ha,la,ack,hm,ld,0,0,0,hs,0⟩:Ds).cells→env.rd 0=.string ⟨⟨a::b::r⟩⟩→env.rd 2=.pointer (some ⟨q2,0,none⟩)→env.rd 5=.pointer (some ⟨q5,0,none⟩)→env.rd 6=.int .i64 (N:Nat)→env.rd 7=.int .i64 ((2+k:Nat):Int) →
   wC T 38 none c38e { env:=env,n:=156,dfs:=[],A:=B } (endF [.inr (2,11,true),.inl 3] Q):=by
  intro B env ack e1 SB r0 r2 r5 r6 r7
  dsimp only [c38e]
  have g5:=SB.g5
  have l5:=AHeap.get_lt g5
  simp only [Ds.cells] at g5
  cases hm with
  | false =>
    simp only [Bool.false_eq_true,if_false] at hw hN
    subst hw
    simp [r5,g5]
    exact last B _ ack 0 0 0 e1 (by rw [seg_zero];rfl) rfl rfl SB (by simp [r0]) (by simp [r2]) (by simp [r5]) (by simp [r6])
  | true =>
    simp only [if_true] at hw hN
    subst hw
    have hl':2+k+wide ld+6≤r.length+2:=by omega
    have w1:IntKind.i64.wrap (((2+k:Nat):Int)+((wide ld:Nat):Int))=((2+k+wide ld:Nat):Int):=by rw [IntWalk.i64_in _ (by omega)];omega
    have s1:=sl_seg a b r k (wide ld) (by omega)
    have n1:(seg r k (wide ld)).length≤8:=by rw [seg_len _ _ _ (by omega)];exact wide_le ld
    obtain ⟨at1,hat1⟩:∃ at1,at1=2+k:=⟨_,rfl⟩
    rw [← hat1] at w1 s1 r7
    simp [r0,r5,r7,g5]
    refine rwide_ok B ld _ ?_
    obtain ⟨at2,hat2⟩:∃ at2,at2=at1+wide ld:=⟨_,rfl⟩
    rw [← hat2] at w1 s1
    simp [w1,s1]
    refine rnumb_ok B _ n1 _ ?_
    obtain ⟨dsn,hdsn⟩:∃ dsn,dsn=val (seg r k (wide ld)):=⟨_,rfl⟩
    rw [← hdsn]
    simp [r5,g5,l5]
    generalize hC:AHeap.set _ _ _=C
    have SC:RS A0 C q2 q5 (⟨fin,ha,la,ack,true,ld,dsn,0,0,hs,0⟩:Ds).cells:=by subst hC;exact SB.put (⟨fin,ha,la,ack,true,ld,dsn,0,0,hs,0⟩:Ds).cells
    have c5:=SC.g5
    have lc5:=AHeap.get_lt c5
    simp only [Ds.cells] at c5
    simp [r5,r7,c5]
    refine rwide_ok C ld _ ?_
    have w2:IntKind.i64.wrap ((at2:Int)+4)=((at2+4:Nat):Int):=by rw [IntWalk.i64_in _ (by omega)];omega
    have w3:IntKind.i64.wrap ((at2:Int)+6)=((at2+6:Nat):Int):=by rw [IntWalk.i64_in _ (by omega)];omega
    have s2:=sl_seg a b r (k+wide ld) 4 (by omega)
    rw [show 2+(k+wide ld)=at2 by omega] at s2
    have s3:=sl_seg a b r (k+wide ld+4) 2 (by omega)
    rw [show 2+(k+wide ld+4)=at2+4 by omega,show at2+4+2=at2+6 by omega] at s3
    have n2:(seg r (k+wide ld) 4).length≤8:=by rw [seg_len _ _ _ (by omega)];decide
    have n3:(seg r (k+wide ld+4) 2).length≤8:=by rw [seg_len _ _ _ (by omega)];decide
    have v2:=val_p r (k+wide ld) 4
    have v3:=val_p r (k+wide ld+4) 2
    obtain ⟨at4,hat4⟩:∃ at4,at4=at2+4:=⟨_,rfl⟩
    obtain ⟨at6,hat6⟩:∃ at6,at6=at2+6:=⟨_,rfl⟩
    rw [← hat4] at w2 s2 s3
    rw [← hat6] at w3 s3
    simp [r0,r7,w1,w2,s2]
    refine rnumb_ok C _ n2 _ ?_
    obtain ⟨ssn,hssn⟩:∃ ssn,ssn=val (seg r (k+wide ld) 4):=⟨_,rfl⟩
    obtain ⟨len,hlen⟩:∃ len,len=val (seg r (k+wide ld+4) 2):=⟨_,rfl⟩
    rw [← hssn] at v2 ⊢
    rw [← hlen] at v3
    have w4:IntKind.u32.wrap (ssn:Int)=ssn:=IntWalk.u32_in _ (by omega)
    have w5:IntKind.i64.wrap (len:Int)=len:=IntWalk.i64_in _ (by omega)
    simp [r0,r5,w2,w3,w4,c5,lc5,s3]
    generalize hD:AHeap.set _ _ _=D
    have SD:RS A0 D q2 q5 (⟨fin,ha,la,ack,true,ld,dsn,ssn,0,hs,0⟩:Ds).cells:=by subst hD;exact SC.put (⟨fin,ha,la,ack,true,ld,dsn,ssn,0,hs,0⟩:Ds).cells
    have d5:=SD.g5
    have ld5:=AHeap.get_lt d5
    simp only [Ds.cells] at d5
    refine rnumb_ok D _ n3 _ ?_
    rw [← hlen]
    simp [r5,w5,d5,ld5]
    generalize hE:AHeap.set _ _ _=E
    have SE:RS A0 E q2 q5 (⟨fin,ha,la,ack,true,ld,dsn,ssn,(len:Nat),hs,0⟩:Ds).cells:=by subst hE;exact SD.put (⟨fin,ha,la,ack,true,ld,dsn,ssn,(len:Nat),hs,0⟩:Ds).cells
    exact last E _ ack dsn ssn len e1 hdsn (by rw [if_pos rfl];exact hssn) (by rw [if_pos rfl];exact hlen) SE (by simp [r0]) (by simp [r2]) (by simp [r5]) (by simp [r6])
 have g5:=S.g5
 have l5:=AHeap.get_lt g5
 simp only [Ds.cells] at g5
 cases ha with
 | false =>
   simp only [Bool.false_eq_true,if_false] at hk
   subst hk
   simp [r5,g5]
   exact mid A _ 0 (by rw [seg_zero];rfl) S (by simp [r0]) (by simp [r2]) (by simp [r5]) (by simp [r6]) (by simp)
 | true =>
   simp only [if_true] at hk
   subst hk
   have w1:IntKind.i64.wrap (2+((wide la:Nat):Int))=((2+wide la:Nat):Int):=by rw [IntWalk.i64_in _ (by omega)];omega
   have s1:=sl_seg a b r 0 (wide la) (by omega)
   have n1:(seg r 0 (wide la)).length≤8:=by rw [seg_len _ _ _ (by omega)];exact wide_le la
   simp only [Nat.add_zero] at s1
   obtain ⟨at1,hat1⟩:∃ at1,at1=2+wide la:=⟨_,rfl⟩
   rw [← hat1] at w1 s1
   have s1':sliceSA (.string ⟨⟨a::b::r⟩⟩) (some (.int .i64 2)) (some (.int .i64 (at1:Nat)))=some (.string ⟨⟨seg r 0 (wide la)⟩⟩):=s1
   simp [r5,g5]
   refine rwide_ok A la _ ?_
   simp [r0,w1,s1']
   refine rnumb_ok A _ n1 _ ?_
   obtain ⟨ack,hack⟩:∃ ack,ack=val (seg r 0 (wide la)):=⟨_,rfl⟩
   rw [← hack]
   simp [r5,g5,l5]
   generalize hC:AHeap.set _ _ _=C
   have SC:RS A0 C q2 q5 (⟨fin,true,la,ack,hm,ld,0,0,0,hs,0⟩:Ds).cells:=by subst hC;exact S.put (⟨fin,true,la,ack,hm,ld,0,0,0,hs,0⟩:Ds).cells
   have c5:=SC.g5
   simp only [Ds.cells] at c5
   simp [r5,c5]
   refine rwide_ok C la _ ?_
   simp [w1]
   exact mid C _ ack hack SC (by simp [r0]) (by simp [r2]) (by simp [r5]) (by simp [r6]) (by simp [hat1])
theorem quoN (a:UInt8) (k:Nat) (hk:0<k):binA .quo (.int .u8 (a.toNat:Nat)) (.int .u8 (k:Nat))=some (.int .u8 ((a.toNat / k:Nat):Int)):=by
 have ha:=a.toNat_lt
 have hd:a.toNat / k≤a.toNat:=Nat.div_le_self _ _
 simp only [binA,ne_eq,not_true_eq_false,if_false]
 rw [if_neg (by omega)]
 have:((a.toNat:Nat):Int).tdiv (k:Int)=((a.toNat / k:Nat):Int):=by rw [Int.tdiv_eq_ediv_of_nonneg (by omega)];exact (Int.natCast_ediv _ _).symm
 rw [this,IntWalk.u8_in ((a.toNat / k:Nat):Int) ⟨Int.natCast_nonneg _,Int.ofNat_le.2 (Nat.le_trans hd (Nat.le_of_lt_succ ha))⟩]
theorem bitQ (b:UInt8) (k:Nat) (hk:0<k):∃ n m:Nat,binA .quo (.int .u8 (b.toNat:Nat)) (.int .u8 (k:Nat))=some (.int .u8 (n:Nat))∧binA .rem (.int .u8 (n:Nat)) (.int .u8 2)=some (.int .u8 (m:Nat))∧decide ((m:Int)=1)=decide (b.toNat / k % 2=1) :=
 ⟨_,_,quoN b k hk,rem2 .u8 _,decide_eq_decide.2 (by generalize b.toNat / k % 2=x;omega)⟩
theorem rdb_ok (A0 A:AHeap) (q2 q5:Nat) (a b:UInt8) (r:List UInt8) (fin ha la hm ld:Bool) (N:Nat) (hr:r.length<900000) (hN:N=2+(if ha then wide la else 0)+(if hm then wide ld else 0)+(if hm then 6 else 0))
  (S:RS A0 A q2 q5 (⟨fin,ha,la,0,hm,ld,0,0,0,false,0⟩:Ds).cells) (env:Env) (Q:Value→AHeap→Prop) (r0:env.rd 0=.string ⟨⟨a::b::r⟩⟩) (r2:env.rd 2=.pointer (some ⟨q2,0,none⟩)) (r5:env.rd 5=.pointer (some ⟨q5,0,none⟩)) (r6:env.rd 6=.int .i64 (N:Nat))
  (hq:∀ A',Ext NoB A0 A'→Q (resD Ds.cells dz (let k:=if ha then wide la else 0;let w:=if hm then wide ld else 0;let m:=if hm then 6 else 0;if r.length<k+w+m then .error 4 else if r.length=k+w+m∨(hm=true∧r.length=k+w+m+2) then .ok ⟨fin,ha,la,val (seg r 0 k),hm,ld,val (seg r k w),val (seg r (k+w) 4),(val (seg r (k+w+4) 2):Nat),decide (r.length≠k+w+m),val (seg r (k+w+6) 2)⟩ else .error 5)) A') :
  wC T 38 none c38b { env:=env,n:=156,dfs:=[],A:=A } (endF [.inr (2,11,true),.inl 3] Q):=by
 dsimp only [c38b]
 obtain ⟨k,hk⟩:∃ k,k=(if ha then wide la else 0):=⟨_,rfl⟩
 obtain ⟨w,hw⟩:∃ w,w=(if hm then wide ld else 0):=⟨_,rfl⟩
 obtain ⟨m,hmm⟩:∃ m,m=(if hm then 6 else 0):=⟨_,rfl⟩
 simp only [← hk,← hw,← hmm] at hq hN
 have wla:=wide_le la
 have wld:=wide_le ld
 have hk8:k≤8:=by rw [hk];split<;>omega
 have hw8:w≤8:=by rw [hw];split<;>omega
 have hm6:m≤6:=by rw [hmm];split<;>omega
 have g5:=S.g5
 have l5:=AHeap.get_lt g5
 have l2:=AHeap.get_lt S.g2
 simp only [Ds.cells] at g5
 have eS:=S.ex
 have eL2:=S.l2
 have eL5:=S.l5
 by_cases h1:r.length<k+w+m
 ·rw [if_pos h1] at hq
  have h1i:(r.length:Int)+2<(N:Int):=by omega
  have h1j:(r.length:Int)+1+1<(N:Int):=by omega
  simp [r0,r2,r6,h1i,h1j,S.g2,l2,dz]
  exact hq _ (by (repeat first|exact Ext.refl|assumption|refine Ext.allocN ?_|refine Ext.setN ?_ (by first|omega|(simp;done)|(simp;omega))))
 rw [if_neg h1] at hq
 have h1i:¬ (r.length:Int)+2<(N:Int):=by omega
 have h1j:¬ (r.length:Int)+1+1<(N:Int):=by omega
 have w1:IntKind.i64.wrap ((N:Int)+2)=(N:Int)+2:=IntWalk.i64_in _ (by omega)
 have main:∀ hs:Bool,hs=(hm && decide (r.length=k+w+m+2))→wC T 38 none c38b { env:=env,n:=156,dfs:=[],A:=A } (endF [.inr (2,11,true),.inl 3] Q):=by
  intro hs hhs
  dsimp only [c38b]
  have S9:=S.put (⟨fin,ha,la,0,hm,ld,0,0,0,hs,0⟩:Ds).cells
  by_cases h2:r.length=k+w+m
  ·have hs0:hs=false:=by rw [hhs,show decide (r.length=k+w+m+2)=false from decide_eq_false (by omega)];simp
   rw [if_pos (.inl h2)] at hq
   subst hs0
   have e1:¬ ((r.length:Int)=(N:Int)):=by omega
   have e2:¬ ((N:Int)<(r.length:Int)+2):=by omega
   have hz:∀ i n,r.length≤i→val (seg r i n)=0:=fun i n q=>by rw [seg_nil _ _ _ q];rfl
   have fin2:∀ (B:AHeap) (env':Env),B=A.set q5 (.cells (⟨fin,ha,la,0,hm,ld,0,0,0,false,0⟩:Ds).cells false 0)→env'.rd 0=.string ⟨⟨a::b::r⟩⟩→env'.rd 2=.pointer (some ⟨q2,0,none⟩)→env'.rd 5=.pointer (some ⟨q5,0,none⟩)→env'.rd 6=.int .i64 (N:Nat)→wC T 38 none c38c { env:=env',n:=156,dfs:=[],A:=B } (endF [.inr (2,11,true),.inl 3] Q):=by
    intro B env' hB q0 q2' q5' q6
    subst hB
    refine rdc_ok A0 _ q2 q5 a b r fin ha la hm ld false k w N hr hk hw (by rw [← hmm];exact hN) (by simp;omega) (by intro q;cases q) S9 env' Q q0 q2' q5' q6 ?_
    have hd:decide (r.length≠k+w+m)=false:=decide_eq_false (by omega)
    rw [hd] at hq
    cases hm with
    | true =>
      have:m=6:=by simpa using hmm
      have z:=hz (k+w+6) 2 (by omega)
      simp only [z] at hq
      simpa [resD] using hq
    | false =>
      have:m=0:=by simpa using hmm
      have z1:=hz (k+w) 4 (by omega)
      have z2:=hz (k+w+4) 2 (by omega)
      have z3:=hz (k+w+6) 2 (by omega)
      simp only [z1,z2,z3] at hq
      simpa [resD] using hq
   cases hm with
   | false =>
     simp [r0,r2,r5,r6,h1i,h1j,g5,l5,e2]
     exact fin2 _ _ rfl (by simp [r0]) (by simp [r2]) (by simp [r5]) (by simp [r6])
   | true =>
     simp [r0,r2,r5,r6,h1i,h1j,g5,l5,w1,e1,e2]
     exact fin2 _ _ rfl (by simp [r0]) (by simp [r2]) (by simp [r5]) (by simp [r6])
  by_cases h3:hm=true∧r.length=k+w+m+2
  ·obtain ⟨hm1,h3⟩:=h3
   have hs1:hs=true:=by rw [hhs,hm1,show decide (r.length=k+w+m+2)=true from decide_eq_true h3];rfl
   rw [if_pos (.inr ⟨hm1,h3⟩)] at hq
   subst hs1
   subst hm1
   have m6:m=6:=by simpa using hmm
   have e1:(r.length:Int)=(N:Int):=by omega
   have e2:(N:Int)<(r.length:Int)+2:=by omega
   have hd:decide (r.length≠k+w+m)=true:=decide_eq_true (by omega)
   rw [hd] at hq
   simp [r0,r2,r5,r6,h1i,h1j,g5,l5,w1,e1,e2,show ¬ ((N:Int)+2<(N:Int)) by omega,show (N:Int)<(N:Int)+2 by omega]
   refine rdc_ok A0 _ q2 q5 a b r fin ha la true ld true k w N hr hk hw (by rw [← hmm];exact hN) (by simp;omega) (by intro q;rfl) S9 _ Q (by simp [r0]) (by simp [r2]) (by simp [r5]) (by simp [r6]) ?_
   simpa [resD] using hq
  ·have hs0:hs=false:=by
    rw [hhs]
    cases hm with
    | false=>rfl
    | true=>exact decide_eq_false fun q=>h3 ⟨rfl,q⟩
   rw [if_neg (by rintro (q | q);exact h2 q;exact h3 q)] at hq
   subst hs0
   have e2:(N:Int)<(r.length:Int)+2:=by omega
   cases hm with
   | false =>
     simp [r0,r2,r5,r6,h1i,h1j,g5,l5,e2,S.n25,S.n25.symm,S.g2,l2,dz]
     exact hq _ (by (repeat first|exact Ext.refl|assumption|refine Ext.allocN ?_|refine Ext.setN ?_ (by first|omega|(simp;done)|(simp;omega))))
   | true =>
     have e1:¬ (r.length:Int)=(N:Int):=fun q=>h3 ⟨rfl,by omega⟩
     simp [r0,r2,r5,r6,h1i,h1j,g5,l5,w1,e1,e2,S.n25,S.n25.symm,S.g2,l2,dz]
     exact hq _ (by (repeat first|exact Ext.refl|assumption|refine Ext.allocN ?_|refine Ext.setN ?_ (by first|omega|(simp;done)|(simp;omega))))
 exact main _ rfl
end Go.Proofs.YtigknpfjhegkgaaGreatDoor
end
