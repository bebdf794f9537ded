/- A text of this claim. -/
import Derived.Test.YtigknpfjhegkgaaGreatDoorNi
import Derived.KernelRfl
import Derived.Test.YtigknpfjhegkgaaGreatDoorNf
import Derived.Test.YtigknpfjhegkgaaGreatDoorKj
section
namespace Go.Proofs.YtigknpfjhegkgaaGreatDoor
open Go Go.AS
set_option maxRecDepth 100000
set_option linter.unusedSimpArgs false
set_option linter.unusedVariables false
attribute [local irreducible] Trie.set Trie.get Env.rd
attribute [local simp ↓] wV_b2s
attribute [local simp] Nat.add_assoc wD_cons'' wD_nil' wC_seq wC_ops wC_opsD_nil wC_cond wC_skip wC_ret wC_exit wC_block wO_cons' wO_nil wantedA wV_eq lop qop ev wL_some wL_none wPut envOf rd_set rd_leaf eqA thenC blockC wB_true wB_false endF unwindA resultsA resA tupleA rdCell rdCells wrCells cl fillP lay rep bi_eql bi_neq bi_lss bi_leq bi_gtr bi_geq bi_add bi_sub bs_eql bs_neq bi_shr4 unA get_set' AHeap.get_alloc oneCell beqd bned idxA
theorem rddec_ok (A:AHeap) (s:List UInt8) (hs:s.length<900000) (Q:Value→AHeap→Prop) (hq:∀ A',Ext NoB A A'→Q (resD Ds.cells dz (Ds.dec s)) A'):wF T (.func (.func 38) #[] #[]) [.string ⟨⟨s⟩⟩] A Q:=by
 refine wF_func (first:=[]) (captured:=[]) t38 ⟨rfl,by decide⟩ ?_
 dsimp only [c38]
 match s,hs,hq with
 | [],hs,hq =>
   simp
   exact hq _ (by (repeat first|exact Ext.refl|assumption|refine Ext.allocN ?_|refine Ext.setN ?_ (by first|omega|(simp;done)|(simp;omega))))
 | a::t,hs,hq =>
   have y1:=quo16 a
   by_cases h0:a.toNat / 16≠2
   ·have hd:Ds.dec (a::t)=.error 7:=by simp only [Ds.dec,if_pos h0]
    rw [hd] at hq
    generalize a.toNat / 16=n at y1 h0
    have h0':¬ (n:Int)=2:=by omega
    simp [y1,h0',h0]
    exact hq _ (by (repeat first|exact Ext.refl|assumption|refine Ext.allocN ?_|refine Ext.setN ?_ (by first|omega|(simp;done)|(simp;omega))))
   have h0e:a.toNat / 16=2:=by omega
   rw [h0e] at y1
   match t,hs,hq with
   | [],hs,hq =>
     have hd:Ds.dec [a]=.error 4:=by simp only [Ds.dec,if_neg h0]
     rw [hd] at hq
     simp [y1]
     exact hq _ (by (repeat first|exact Ext.refl|assumption|refine Ext.allocN ?_|refine Ext.setN ?_ (by first|omega|(simp;done)|(simp;omega))))
   | b::r,hs,hq =>
     have z1:¬ ((r.length:Int)+2<2):=by omega
     have m1:=rem2 .u8 b.toNat
     obtain ⟨n2,p2,u2,v2,w2⟩:=bitQ b 2 (by decide)
     obtain ⟨n4,p4,u4,v4,w4⟩:=bitQ b 4 (by decide)
     obtain ⟨n8,p8,u8,v8,w8⟩:=bitQ b 8 (by decide)
     obtain ⟨n16,p16,u16,v16,w16⟩:=bitQ b 16 (by decide)
     have u2':binA .quo (.int .u8 (b.toNat:Nat)) (.int .u8 2)=some (.int .u8 (n2:Nat)):=u2
     have u4':binA .quo (.int .u8 (b.toNat:Nat)) (.int .u8 4)=some (.int .u8 (n4:Nat)):=u4
     have u8':binA .quo (.int .u8 (b.toNat:Nat)) (.int .u8 8)=some (.int .u8 (n8:Nat)):=u8
     have u16':binA .quo (.int .u8 (b.toNat:Nat)) (.int .u8 16)=some (.int .u8 (n16:Nat)):=u16
     have w1:decide (((b.toNat % 2:Nat):Int)=1)=decide (b.toNat % 2=1):=decide_eq_decide.2 (by omega)
     obtain ⟨p1,hp1⟩:∃ p1,p1=b.toNat % 2:=⟨_,rfl⟩
     rw [← hp1] at m1
     have w1':decide ((p1:Int)=1)=decide (b.toNat % 2=1):=by rw [hp1];exact w1
     simp only [Ds.dec,if_neg h0] at hq
     obtain ⟨ha,hha⟩:∃ ha,ha=decide (b.toNat % 2=1):=⟨_,rfl⟩
     obtain ⟨la,hla⟩:∃ la,la=decide (b.toNat / 2 % 2=1):=⟨_,rfl⟩
     obtain ⟨hm,hhm⟩:∃ hm,hm=decide (b.toNat / 4 % 2=1):=⟨_,rfl⟩
     obtain ⟨ld,hld⟩:∃ ld,ld=decide (b.toNat / 8 % 2=1):=⟨_,rfl⟩
     obtain ⟨fin,hfin⟩:∃ fin,fin=decide (b.toNat / 16 % 2=1):=⟨_,rfl⟩
     rw [← hha] at w1'
     rw [← hla] at w2
     rw [← hhm] at w4
     rw [← hld] at w8
     rw [← hfin] at w16
     rw [← hha,← hla,← hhm,← hld,← hfin] at hq
     by_cases h1:(!ha && !hm)=true
     ·rw [if_pos h1] at hq
      have q1:ha=false:=by cases ha<;>simp at h1 ⊢
      have q2:hm=false:=by cases hm<;>simp [q1] at h1 ⊢
      subst q1;subst q2
      simp [y1,z1,m1,u4',v4,w1',w4]
      exact hq _ (by (repeat first|exact Ext.refl|assumption|refine Ext.allocN ?_|refine Ext.setN ?_ (by first|omega|(simp;done)|(simp;omega))))
     rw [if_neg h1] at hq
     simp [y1,z1,m1,u4',v4,w1',w4]
     generalize hB:AHeap.set _ _ _=B
     have S:RS A B A.size (A.size+1) (⟨false,ha,false,0,hm,false,0,0,0,false,0⟩:Ds).cells:=by
      subst hB
      exact ⟨by simp [dz],by simp [Ds.cells],by omega,by (repeat first|exact Ext.refl|assumption|refine Ext.allocN ?_|refine Ext.setN ?_ (by first|omega|(simp;done)|(simp;omega))),Nat.le_refl _,by omega⟩
     have g5:=S.g5
     have l5:=AHeap.get_lt g5
     simp only [Ds.cells] at g5
     have main:∀ (B:AHeap) (env:Env) (N:Nat) (la':Bool),la'=(ha && la)→N=2+(if ha then wide la' else 0)→RS A B A.size (A.size+1) (⟨false,ha,la',0,hm,false,0,0,0,false,0⟩:Ds).cells→env.rd 0=.string ⟨⟨a::b::r⟩⟩→env.rd 2=.pointer (some ⟨A.size,0,none⟩)→env.rd 4=.int .u8 (b.toNat:Nat)→env.rd 5=.pointer (some ⟨A.size+1,0,none⟩)→env.rd 6=.int .i64 (N:Nat) →
       wC T 38 none c38f { env:=env,n:=156,dfs:=[],A:=B } (endF [.inr (2,11,true),.inl 3] Q):=by
      intro B env N la' hla' hN SB r0 r2 r4 r5 r6
      dsimp only [c38f]
      have b5:=SB.g5
      have lb5:=AHeap.get_lt b5
      simp only [Ds.cells] at b5
      have wla:=wide_le la'
      have wld:=wide_le ld
      cases hm with
      | false =>
        simp [r5,b5]
        refine rdb_ok A B A.size (A.size+1) a b r false ha la' false false N (by simp at hs;omega) (by simpa using hN) SB _ Q (by simp [r0]) (by simp [r2]) (by simp [r5]) (by simp [r6]) ?_
        rw [hla']
        simpa using hq
      | true =>
        simp [r4,r5,b5,lb5,u8',v8,w8,u16',v16,w16]
        generalize hC:AHeap.set _ _ _=C
        have SC:RS A C A.size (A.size+1) (⟨fin,ha,la',0,true,ld,0,0,0,false,0⟩:Ds).cells:=by
         subst hC
         exact (SB.put (⟨false,ha,la',0,true,ld,0,0,0,false,0⟩:Ds).cells).put (⟨fin,ha,la',0,true,ld,0,0,0,false,0⟩:Ds).cells
        refine rwide_ok C ld _ ?_
        have hN8:N≤10:=by rw [hN];split<;>omega
        have x1:IntKind.i64.wrap ((N:Int)+((wide ld:Nat):Int))=((N+wide ld:Nat):Int):=by rw [IntWalk.i64_in _ (by omega)];omega
        have x2:IntKind.i64.wrap (((N+wide ld:Nat):Int)+6)=((N+wide ld+6:Nat):Int):=by rw [IntWalk.i64_in _ (by omega)];omega
        obtain ⟨N1,hN1⟩:∃ N1,N1=N+wide ld:=⟨_,rfl⟩
        rw [← hN1] at x1 x2
        obtain ⟨N2,hN2⟩:∃ N2,N2=N1+6:=⟨_,rfl⟩
        rw [← hN2] at x2
        simp [r6,x1,x2]
        refine rdb_ok A C A.size (A.size+1) a b r fin ha la' true ld N2 (by simp at hs;omega) (by rw [hN2,hN1,hN];simp) SC _ Q (by simp [r0]) (by simp [r2]) (by simp [r5]) (by simp) ?_
        rw [hla']
        simpa using hq
     cases ha with
     | false =>
       simp at h1
       subst h1
       simp [g5]
       dsimp only [c38a]
       simp [g5]
       exact main B _ 2 false (by simp) (by simp) S (by simp) (by simp) (by simp) (by simp) (by simp)
     | true =>
       simp [g5]
       dsimp only [c38a]
       simp [g5,l5,u2',v2,w2]
       generalize hC:AHeap.set _ _ _=C
       have SC:RS A C A.size (A.size+1) (⟨false,true,la,0,hm,false,0,0,0,false,0⟩:Ds).cells:=by
        subst hC
        exact S.put (⟨false,true,la,0,hm,false,0,0,0,false,0⟩:Ds).cells
       refine rwide_ok C la _ ?_
       have wla:=wide_le la
       have x1:IntKind.i64.wrap (2+((wide la:Nat):Int))=((2+wide la:Nat):Int):=by rw [IntWalk.i64_in _ (by omega)];omega
       obtain ⟨N1,hN1⟩:∃ N1,N1=2+wide la:=⟨_,rfl⟩
       rw [← hN1] at x1
       simp [x1]
       exact main C _ N1 la (by simp) (by rw [hN1];simp) SC (by simp) (by simp) (by simp) (by simp) (by simp)
def wrongF (s:List UInt8) (k n:Nat):Int:=match s with | []=>4 | a::t=>if a.toNat / 16≠k then 7 else if t.length+1<n then 4 else if n<t.length+1 then 5 else 0
theorem quo16i (a:Nat) (h:a<256):binA .quo (.int .i64 (a:Nat)) (.int .i64 16)=some (.int .i64 ((a / 16:Nat):Int)):=by
 simp only [binA,ne_eq,not_true_eq_false,if_false]
 rw [if_neg (by decide)]
 have:((a:Nat):Int).tdiv 16=((a / 16:Nat):Int):=by rw [Int.tdiv_eq_ediv_of_nonneg (by omega)];omega
 rw [this,IntWalk.i64_in _ (by omega)]
theorem wrong_ok (A:AHeap) (s:List UInt8) (k n:Nat) (hs:s.length<1000000) (Q:Value→AHeap→Prop) (hq:Q (.int .i64 (wrongF s k n)) A):wF T (.func (.func 70) #[] #[]) [.string ⟨⟨s⟩⟩,.int .i64 (k:Nat),.int .i64 (n:Nat)] A Q:=by
 refine wF_func (first:=[]) (captured:=[]) t70 ⟨rfl,by decide⟩ ?_
 dsimp only [c70]
 match s,hs,hq with
 | [],hs,hq =>
   simp
   exact hq
 | a::t,hs,hq =>
   have ha:=a.toNat_lt
   have w1:IntKind.i64.wrap ((a.toNat:Nat):Int)=(a.toNat:Nat):=IntWalk.i64_in _ (by omega)
   have q1:=quo16i a.toNat (by omega)
   simp only [wrongF] at hq
   generalize a.toNat / 16=h at hq q1
   by_cases h0:h≠k
   ·rw [if_pos h0] at hq
    have h0i:¬ (h:Int)=(k:Int):=by omega
    simp [w1,q1,h0i,h0]
    exact hq
   have h0e:h=k:=by omega
   subst h0e
   rw [if_neg h0] at hq
   by_cases h1:t.length+1<n
   ·rw [if_pos h1] at hq
    have h1i:(t.length:Int)+1<(n:Int):=by omega
    simp [w1,q1,h1i]
    exact hq
   rw [if_neg h1] at hq
   have h1i:¬ (t.length:Int)+1<(n:Int):=by omega
   by_cases h2:n<t.length+1
   ·rw [if_pos h2] at hq
    have h2i:(n:Int)<(t.length:Int)+1:=by omega
    simp [w1,q1,h1i,h2i]
    exact hq
   ·rw [if_neg h2] at hq
    have h2i:¬ (n:Int)<(t.length:Int)+1:=by omega
    simp [w1,q1,h1i,h2i]
    exact hq
theorem rpdec_ok (A:AHeap) (s:List UInt8) (hs:s.length<1000000) (Q:Value→AHeap→Prop) (hq:∀ A',Ext NoB A A'→Q (resD (fun b=>[.bool b]) [.bool false] (prioD s)) A'):wF T (.func (.func 41) #[] #[]) [.string ⟨⟨s⟩⟩] A Q:=by
 refine wF_func (first:=[]) (captured:=[]) t41 ⟨rfl,by decide⟩ ?_
 dsimp only [c41]
 simp
 refine wrong_ok _ s 5 1 hs _ ?_
 match s,hs,hq with
 | [],hs,hq =>
   simp [wrongF]
   exact hq _ (by (repeat first|exact Ext.refl|assumption|refine Ext.allocN ?_|refine Ext.setN ?_ (by first|omega|(simp;done)|(simp;omega))))
 | a::t,hs,hq =>
   simp only [wrongF,prioD] at hq ⊢
   by_cases h0:a.toNat / 16≠5
   ·rw [if_pos h0] at hq ⊢
    simp
    exact hq _ (by (repeat first|exact Ext.refl|assumption|refine Ext.allocN ?_|refine Ext.setN ?_ (by first|omega|(simp;done)|(simp;omega))))
   rw [if_neg h0] at hq ⊢
   rw [if_neg (show ¬ t.length+1<1 by omega)]
   by_cases h1:t=[]
   ·rw [if_pos h1] at hq
    subst h1
    have m1:=rem2 .u8 a.toNat
    have d1:decide (((a.toNat % 2:Nat):Int)=1)=decide (a.toNat % 2=1):=decide_eq_decide.2 (by omega)
    obtain ⟨bb,hbb⟩:∃ bb,bb=decide (a.toNat % 2=1):=⟨_,rfl⟩
    obtain ⟨mm,hmm⟩:∃ mm,mm=a.toNat % 2:=⟨_,rfl⟩
    rw [← hbb,← hmm] at d1
    rw [← hmm] at m1
    rw [← hbb] at hq
    simp [m1,d1]
    exact hq _ (by (repeat first|exact Ext.refl|assumption|refine Ext.allocN ?_|refine Ext.setN ?_ (by first|omega|(simp;done)|(simp;omega))))
   ·rw [if_neg h1] at hq
    have:1<t.length+1:=by have:=List.length_pos_iff.2 h1;omega
    rw [if_pos this]
    simp
    exact hq _ (by (repeat first|exact Ext.refl|assumption|refine Ext.allocN ?_|refine Ext.setN ?_ (by first|omega|(simp;done)|(simp;omega))))
theorem rfdec_ok (A:AHeap) (s:List UInt8) (hs:s.length<1000000) (Q:Value→AHeap→Prop) (hq:∀ A',Ext NoB A A'→Q (resD (fun n=>[.int .u64 ((n:Nat):Int)]) [.int .u64 0] (bigD 6 s)) A'):wF T (.func (.func 42) #[] #[]) [.string ⟨⟨s⟩⟩] A Q:=by
 refine wF_func (first:=[]) (captured:=[]) t42 ⟨rfl,by decide⟩ ?_
 dsimp only [c42]
 simp
 refine wrong_ok _ s 6 10 hs _ ?_
 match s,hs,hq with
 | [],hs,hq =>
   simp [wrongF]
   exact hq _ (by (repeat first|exact Ext.refl|assumption|refine Ext.allocN ?_|refine Ext.setN ?_ (by first|omega|(simp;done)|(simp;omega))))
 | a::t,hs,hq =>
   simp only [wrongF,bigD] at hq ⊢
   by_cases h0:a.toNat / 16≠6
   ·rw [if_pos h0] at hq ⊢
    simp
    exact hq _ (by (repeat first|exact Ext.refl|assumption|refine Ext.allocN ?_|refine Ext.setN ?_ (by first|omega|(simp;done)|(simp;omega))))
   rw [if_neg h0] at hq ⊢
   by_cases h1:t.length<9
   ·rw [if_pos h1] at hq
    rw [if_pos (show t.length+1<10 by omega)]
    simp
    exact hq _ (by (repeat first|exact Ext.refl|assumption|refine Ext.allocN ?_|refine Ext.setN ?_ (by first|omega|(simp;done)|(simp;omega))))
   rw [if_neg h1] at hq
   rw [if_neg (show ¬ t.length+1<10 by omega)]
   by_cases h2:t.length=9
   ·rw [if_pos h2] at hq
    rw [if_neg (show ¬ 10<t.length+1 by omega)]
    have hsl:sliceSA (.string ⟨⟨a::t⟩⟩) (some (.int .i64 2)) none=some (.string ⟨⟨seg t 1 8⟩⟩):=by
     have:=sl_from (a::t) .i64 2 (by simp;omega)
     have e:(a::t).drop 2=seg t 1 8:=by
      show t.drop 1=(t.drop 1).take 8
      rw [List.take_of_length_le (by rw [List.length_drop];omega)]
     rw [e] at this;exact this
    simp [hsl]
    generalize hB:AHeap.alloc _ _=B
    have b2:B.get A.size=some (.cells [.int .u64 0] false 0):=by subst hB;simp
    have l2:=AHeap.get_lt b2
    have eB:Ext NoB A B:=by subst hB;(repeat first|exact Ext.refl|assumption|refine Ext.allocN ?_|refine Ext.setN ?_ (by first|omega|(simp;done)|(simp;omega)))
    refine rnumb_ok B _ (by rw [seg_len _ _ _ (by omega)];decide) _ ?_
    simp [b2,l2]
    exact hq _ (by have:=eB.size;(repeat first|exact Ext.refl|assumption|refine Ext.allocN ?_|refine Ext.setN ?_ (by first|omega|(simp;done)|(simp;omega))))
   ·rw [if_neg h2] at hq
    rw [if_pos (show 10<t.length+1 by omega)]
    simp
    exact hq _ (by (repeat first|exact Ext.refl|assumption|refine Ext.allocN ?_|refine Ext.setN ?_ (by first|omega|(simp;done)|(simp;omega))))
theorem rkdec_ok (A:AHeap) (s:List UInt8) (hs:s.length<1000000) (Q:Value→AHeap→Prop) (hq:∀ A',Ext NoB A A'→Q (resD (fun n=>[.int .u64 ((n:Nat):Int)]) [.int .u64 0] (bigD 7 s)) A'):wF T (.func (.func 43) #[] #[]) [.string ⟨⟨s⟩⟩] A Q:=by
 refine wF_func (first:=[]) (captured:=[]) t43 ⟨rfl,by decide⟩ ?_
 dsimp only [c43]
 simp
 refine wrong_ok _ s 7 10 hs _ ?_
 match s,hs,hq with
 | [],hs,hq =>
   simp [wrongF]
   exact hq _ (by (repeat first|exact Ext.refl|assumption|refine Ext.allocN ?_|refine Ext.setN ?_ (by first|omega|(simp;done)|(simp;omega))))
 | a::t,hs,hq =>
   simp only [wrongF,bigD] at hq ⊢
   by_cases h0:a.toNat / 16≠7
   ·rw [if_pos h0] at hq ⊢
    simp
    exact hq _ (by (repeat first|exact Ext.refl|assumption|refine Ext.allocN ?_|refine Ext.setN ?_ (by first|omega|(simp;done)|(simp;omega))))
   rw [if_neg h0] at hq ⊢
   by_cases h1:t.length<9
   ·rw [if_pos h1] at hq
    rw [if_pos (show t.length+1<10 by omega)]
    simp
    exact hq _ (by (repeat first|exact Ext.refl|assumption|refine Ext.allocN ?_|refine Ext.setN ?_ (by first|omega|(simp;done)|(simp;omega))))
   rw [if_neg h1] at hq
   rw [if_neg (show ¬ t.length+1<10 by omega)]
   by_cases h2:t.length=9
   ·rw [if_pos h2] at hq
    rw [if_neg (show ¬ 10<t.length+1 by omega)]
    have hsl:sliceSA (.string ⟨⟨a::t⟩⟩) (some (.int .i64 2)) none=some (.string ⟨⟨seg t 1 8⟩⟩):=by
     have:=sl_from (a::t) .i64 2 (by simp;omega)
     have e:(a::t).drop 2=seg t 1 8:=by
      show t.drop 1=(t.drop 1).take 8
      rw [List.take_of_length_le (by rw [List.length_drop];omega)]
     rw [e] at this;exact this
    simp [hsl]
    generalize hB:AHeap.alloc _ _=B
    have b2:B.get A.size=some (.cells [.int .u64 0] false 0):=by subst hB;simp
    have l2:=AHeap.get_lt b2
    have eB:Ext NoB A B:=by subst hB;(repeat first|exact Ext.refl|assumption|refine Ext.allocN ?_|refine Ext.setN ?_ (by first|omega|(simp;done)|(simp;omega)))
    refine rnumb_ok B _ (by rw [seg_len _ _ _ (by omega)];decide) _ ?_
    simp [b2,l2]
    exact hq _ (by have:=eB.size;(repeat first|exact Ext.refl|assumption|refine Ext.allocN ?_|refine Ext.setN ?_ (by first|omega|(simp;done)|(simp;omega))))
   ·rw [if_neg h2] at hq
    rw [if_pos (show 10<t.length+1 by omega)]
    simp
    exact hq _ (by (repeat first|exact Ext.refl|assumption|refine Ext.allocN ?_|refine Ext.setN ?_ (by first|omega|(simp;done)|(simp;omega))))
theorem rtdec_ok (A:AHeap) (s:List UInt8) (hs:s.length<1000000) (Q:Value→AHeap→Prop) (hq:∀ A',Ext NoB A A'→Q (resD (fun x=>[.int .i64 x.1,.int .i64 x.2]) [.int .i64 0,.int .i64 0] (rstD s)) A'):wF T (.func (.func 44) #[] #[]) [.string ⟨⟨s⟩⟩] A Q:=by
 refine wF_func (first:=[]) (captured:=[]) t44 ⟨rfl,by decide⟩ ?_
 dsimp only [c44]
 simp
 refine wrong_ok _ s 8 2 hs _ ?_
 match s,hs,hq with
 | [],hs,hq =>
   simp [wrongF]
   exact hq _ (by (repeat first|exact Ext.refl|assumption|refine Ext.allocN ?_|refine Ext.setN ?_ (by first|omega|(simp;done)|(simp;omega))))
 | a::t,hs,hq =>
   simp only [wrongF,rstD] at hq ⊢
   by_cases h0:a.toNat / 16≠8
   ·rw [if_pos h0] at hq ⊢
    simp
    exact hq _ (by (repeat first|exact Ext.refl|assumption|refine Ext.allocN ?_|refine Ext.setN ?_ (by first|omega|(simp;done)|(simp;omega))))
   rw [if_neg h0] at hq ⊢
   match t,hs,hq with
   | [],hs,hq =>
     simp
     exact hq _ (by (repeat first|exact Ext.refl|assumption|refine Ext.allocN ?_|refine Ext.setN ?_ (by first|omega|(simp;done)|(simp;omega))))
   | b::r,hs,hq =>
     rw [if_neg (show ¬ (b::r).length+1<2 by simp)]
     simp only at hq
     by_cases h1:r=[]
     ·rw [if_pos h1] at hq
      subst h1
      rw [if_neg (show ¬ 2<[b].length+1 by simp)]
      have ha:=a.toNat_lt
      have hb:=b.toNat_lt
      have w1:IntKind.i64.wrap ((a.toNat:Nat):Int)=(a.toNat:Nat):=IntWalk.i64_in _ (by omega)
      have w2:IntKind.i64.wrap ((b.toNat:Nat):Int)=(b.toNat:Nat):=IntWalk.i64_in _ (by omega)
      have hrem:binA .rem (.int .i64 (a.toNat:Nat)) (.int .i64 16)=some (.int .i64 ((a.toNat % 16:Nat):Int)):=by
       simp only [binA,ne_eq,not_true_eq_false,if_false]
       rw [if_neg (by decide),show (16:Int)=((16:Nat):Int) from rfl,Int.tmod_eq_emod_of_nonneg (by omega)]
       rfl
      generalize a.toNat % 16=m at hrem hq
      simp [w1,w2,hrem]
      exact hq _ (by (repeat first|exact Ext.refl|assumption|refine Ext.allocN ?_|refine Ext.setN ?_ (by first|omega|(simp;done)|(simp;omega))))
     ·rw [if_neg h1] at hq
      have:2<(b::r).length+1:=by have:=List.length_pos_iff.2 h1;simp;omega
      rw [if_pos this]
      simp
      exact hq _ (by (repeat first|exact Ext.refl|assumption|refine Ext.allocN ?_|refine Ext.setN ?_ (by first|omega|(simp;done)|(simp;omega))))
theorem radg_ok (A0 A:AHeap) (q2 ip po m:Nat) (ec:Bool) (a b:UInt8) (r:List UInt8) (hip:ip=4∨ip=16) (hpo:po=0∨po=2) (hm:m≤8) (hr:r.length<900000) (g2:A.get q2=some (.cells az false 0)) (ex:Ext NoB A0 A) (l2:A0.size≤q2) (env:Env) (r0:env.rd 0=.string ⟨⟨a::b::r⟩⟩) (r2:env.rd 2=.pointer (some ⟨q2,0,none⟩)) (r4:env.rd 4=.bool ec) (r5:env.rd 5=.int .i64 (m:Nat)) (r6:env.rd 6=.int .i64 (ip:Nat)) (r7:env.rd 7=.int .i64 (po:Nat))
  (K:AExit→St→Prop) (hno:r.length≠ip+po+m→∀ env',env'.rd 0=env.rd 0→env'.rd 2=env.rd 2→env'.rd 4=env.rd 4→env'.rd 5=env.rd 5→env'.rd 6=env.rd 6→env'.rd 7=env.rd 7→K (.exit 3) { env:=env',n:=68,dfs:=[],A:=A })
  (hyes:r.length=ip+po+m→∀ env' A',env'.rd 2=.pointer (some ⟨q2,0,none⟩)→env'.rd 3=.int .i64 0→Ext NoB A0 A'→A'.get q2=some (.cells (⟨ec,(b.toNat:Nat),seg r 0 ip,decide (po=2),(val (seg r ip po):Nat),seg r (ip+po) m⟩:Ad).cells false 0)→K .ret { env:=env',n:=68,dfs:=[],A:=A' }) :
  wC T 39 none c39g { env:=env,n:=68,dfs:=[],A:=A } K:=by
 dsimp only [c39g]
 obtain ⟨x1,hx1⟩:∃ x,x=2+ip:=⟨_,rfl⟩
 obtain ⟨x2,hx2⟩:∃ x,x=x1+po:=⟨_,rfl⟩
 obtain ⟨x3,hx3⟩:∃ x,x=x2+m:=⟨_,rfl⟩
 have w1:IntKind.i64.wrap (2+(ip:Int))=(x1:Int):=by rw [IntWalk.i64_in _ (by omega)];omega
 have w2:IntKind.i64.wrap ((x1:Int)+(po:Int))=(x2:Int):=by rw [IntWalk.i64_in _ (by omega)];omega
 have w3:IntKind.i64.wrap ((x2:Int)+(m:Int))=(x3:Int):=by rw [IntWalk.i64_in _ (by omega)];omega
 by_cases h:r.length=ip+po+m
 case neg =>
  have hi:¬ (r.length:Int)+2=(x3:Int):=by omega
  simp [r0,r5,r6,r7,w1,w2,w3,hi]
  exact hno h _ (by simp [r0]) (by simp [r2]) (by simp [r4]) (by simp [r5]) (by simp [r6]) (by simp [r7])
 have hi:(r.length:Int)+2=(x3:Int):=by omega
 have hs1:sliceSA (.string ⟨⟨a::b::r⟩⟩) (some (.int .i64 2)) (some (.int .i64 (x1:Nat)))=some (.string ⟨⟨seg r 0 ip⟩⟩):=by
  have:=sl_seg a b r 0 ip (by omega)
  simp only [Nat.add_zero] at this
  rw [← hx1] at this
  exact this
 have hs2:sliceSA (.string ⟨⟨a::b::r⟩⟩) (some (.int .i64 (x2:Nat))) none=some (.string ⟨⟨seg r (ip+po) m⟩⟩):=by
  have:=sl_from (a::b::r) .i64 x2 (by simp;omega)
  rw [this]
  have e:(a::b::r).drop x2=seg r (ip+po) m:=by
   rw [show x2=(ip+po)+2 by omega]
   show r.drop (ip+po)=(r.drop (ip+po)).take m
   rw [List.take_of_length_le (by rw [List.length_drop];omega)]
  rw [e]
 have hb:=b.toNat_lt
 have w4:IntKind.i64.wrap ((b.toNat:Nat):Int)=(b.toNat:Nat):=IntWalk.i64_in _ (by omega)
 have hp:=val_p r ip po
 have w5:IntKind.i64.wrap ((val (seg r ip po):Nat):Int)=(val (seg r ip po):Nat):=IntWalk.i64_in _ (by rcases hpo with rfl | rfl<;>omega)
 have d2:decide ((po:Int)=2)=decide (po=2):=decide_eq_decide.2 (by omega)
 have hgo:=(Cur.go_ok (c:=⟨a::b::r,x1,false⟩) (n:=po) rfl (by show x1+po≤(a::b::r).length;simp;omega)).2
 have e2:seg (a::b::r) x1 po=seg r ip po:=by rw [hx1];exact seg2 a b r ip po
 obtain ⟨bp,hbp⟩:∃ bp,bp=decide (po=2):=⟨_,rfl⟩
 rw [← hbp] at d2 hyes
 simp [r0,r5,r6,r7,w1,w2,w3,hi]
 generalize hB:AHeap.alloc _ _=B
 have hc:CurAt B A.size ⟨a::b::r,x1,false⟩:=⟨by subst hB;simp [Cur.cells],by show x1≤(a::b::r).length;simp;omega,by show (a::b::r).length<1000000;simp;omega⟩
 have lA:=AHeap.get_lt g2
 have b2:B.get q2=some (.cells az false 0):=by subst hB;simp [g2,show q2≠A.size by omega]
 have eB:Ext NoB A B:=by subst hB;(repeat first|exact Ext.refl|assumption|refine Ext.allocN ?_|refine Ext.setN ?_ (by first|omega|(simp;done)|(simp;omega)))
 refine cnum_ok B A.size _ po hc (by omega) _ fun C cC eC=>?_
 rw [hgo]
 simp only [e2]
 have c2:=eC.get b2 (by omega)
 have lC:=AHeap.get_lt c2
 have exC:=(ex.trans eB).past eC ex.size
 generalize val (seg r ip po)=pv at w5 hyes hp
 simp [r0,r2,r4,r6,r7,w1,w2,w4,w5,d2,hs1,hs2,c2,lC,az]
 refine hyes h _ _ (by simp [r2]) (by simp) (by (repeat first|exact Ext.refl|assumption|refine Ext.allocN ?_|refine Ext.setN ?_ (by first|omega|(simp;done)|(simp;omega)))) ?_
 simp [lC,Ad.cells]
end Go.Proofs.YtigknpfjhegkgaaGreatDoor
end
section
namespace Go.Proofs.YtigknpfjhegkgaaGreatDoor
open Go Go.AS
set_option maxRecDepth 100000
set_option linter.unusedSimpArgs false
set_option linter.unusedVariables false
attribute [local irreducible] Trie.set Trie.get Env.rd
attribute [local simp ↓] wV_b2s
attribute [local simp] Nat.add_assoc wD_cons'' wD_nil' wC_seq wC_ops wC_opsD_nil wC_cond wC_skip wC_ret wC_exit wC_block wO_cons' wO_nil wantedA wV_eq lop qop ev wL_some wL_none wPut envOf rd_set rd_leaf eqA thenC blockC wB_true wB_false endF unwindA resultsA resA tupleA rdCell rdCells wrCells cl fillP lay rep bi_eql bi_neq bi_lss bi_leq bi_gtr bi_geq bi_add bi_sub bs_eql bs_neq bi_shr4 unA get_set' AHeap.get_alloc oneCell beqd bned idxA
attribute [local simp] Op.len Op.one Cap.ln Jn.len Ds.ln Ad.len Cap.one Jn.one Ds.one Ad.one Op.take Op.at0 Op.head? Op.getCap Op.tCap Op.getJn Op.getDs Op.getAd Op.getIds Op.getPrio Op.getFail Op.getFast Op.getRst Op.putCap Op.putJn Op.putDs Op.putAd Op.putSub Op.putIds Op.putPrio Op.putFail Op.putFast Op.putRf Op.putRr Op.layAll Op.zeroC Op.vb only_lit
theorem radi_ok (A0 A:AHeap) (q2 ip m:Nat) (ec:Bool) (a b:UInt8) (r:List UInt8) (hip:ip=4∨ip=16) (hm:m≤8) (hr:r.length<900000) (g2:A.get q2=some (.cells az false 0)) (ex:Ext NoB A0 A) (l2:A0.size≤q2) (env:Env) (r0:env.rd 0=.string ⟨⟨a::b::r⟩⟩) (r2:env.rd 2=.pointer (some ⟨q2,0,none⟩)) (r4:env.rd 4=.bool ec) (r5:env.rd 5=.int .i64 (m:Nat)) (r6:env.rd 6=.int .i64 (ip:Nat))
  (K:AExit→St→Prop) (hno:r.length≠ip+m→r.length≠ip+2+m→∀ env',env'.rd 0=env.rd 0→env'.rd 2=env.rd 2→env'.rd 4=env.rd 4→env'.rd 5=env.rd 5→env'.rd 6=env.rd 6→K .normal { env:=env',n:=68,dfs:=[],A:=A })
  (hyes:∀ po,po=0∨po=2→r.length=ip+po+m→∀ env' A',env'.rd 2=.pointer (some ⟨q2,0,none⟩)→env'.rd 3=.int .i64 0→Ext NoB A0 A'→A'.get q2=some (.cells (⟨ec,(b.toNat:Nat),seg r 0 ip,decide (po=2),(val (seg r ip po):Nat),seg r (ip+po) m⟩:Ad).cells false 0)→K .ret { env:=env',n:=68,dfs:=[],A:=A' }) :
  wC T 39 none c39i { env:=env,n:=68,dfs:=[],A:=A } K:=by
 dsimp only [c39i]
 have ww1:IntKind.i64.wrap (0+2)=2:=by decide
 have ww2:IntKind.i64.wrap (2+2)=4:=by decide
 simp
 refine wC_loop ?_
 simp
 refine radg_ok A0 A q2 ip 0 m ec a b r hip (.inl rfl) hm hr g2 ex l2 _ (by simp [r0]) (by simp [r2]) (by simp [r4]) (by simp [r5]) (by simp [r6]) (by simp) _ (fun n1 env1 p0 p2 p4 p5 p6 p7=>?_) fun h env' A' q2' q3 e g=>?_
 ·simp at p0 p2 p4 p5 p6 p7
  simp [p7,show IntKind.i64.wrap 2=2 by decide]
  refine wC_loop ?_
  simp
  refine radg_ok A0 A q2 ip 2 m ec a b r hip (.inr rfl) hm hr g2 ex l2 _ (by simp [p0,r0]) (by simp [p2,r2]) (by simp [p4,r4]) (by simp [p5,r5]) (by simp [p6,r6]) (by simp) _ (fun n2 env2 s0 s2 s4 s5 s6 s7=>?_) fun h env' A' q2' q3 e g=>?_
  ·simp at s0 s2 s4 s5 s6 s7
   simp [s7,show IntKind.i64.wrap 4=4 by decide]
   refine wC_loop ?_
   simp
   exact hno (by omega) n2 _ (by simp [s0,p0]) (by simp [s2,p2]) (by simp [s4,p4]) (by simp [s5,p5]) (by simp [s6,p6])
  ·simp
   exact hyes 2 (.inr rfl) h _ _ q2' q3 e g
 ·simp
  exact hyes 0 (.inl rfl) h _ _ q2' q3 e g
theorem radn_ok (A:AHeap) (ip m:Nat) (a:UInt8) (hip:ip=4∨ip=16) (hm:m≤8) (env:Env) (r0:env.rd 0=.string ⟨⟨[a]⟩⟩) (r5:env.rd 5=.int .i64 (m:Nat)) (r6:env.rd 6=.int .i64 (ip:Nat))
  (K:AExit→St→Prop) (hno:∀ env',env'.rd 0=env.rd 0→env'.rd 2=env.rd 2→env'.rd 5=env.rd 5→env'.rd 6=env.rd 6→K .normal { env:=env',n:=68,dfs:=[],A:=A }) :
  wC T 39 none c39i { env:=env,n:=68,dfs:=[],A:=A } K:=by
 have g:∀ (po:Nat) (env:Env) (K:AExit→St→Prop),(po=0∨po=2)→env.rd 0=.string ⟨⟨[a]⟩⟩→env.rd 5=.int .i64 (m:Nat)→env.rd 6=.int .i64 (ip:Nat)→env.rd 7=.int .i64 (po:Nat)→(∀ env',env'.rd 0=env.rd 0→env'.rd 2=env.rd 2→env'.rd 5=env.rd 5→env'.rd 6=env.rd 6→env'.rd 7=env.rd 7→K (.exit 3) { env:=env',n:=68,dfs:=[],A:=A })→wC T 39 none c39g { env:=env,n:=68,dfs:=[],A:=A } K:=by
  intro po env K hpo r0 r5 r6 r7 hno
  dsimp only [c39g]
  obtain ⟨x1,hx1⟩:∃ x,x=2+ip:=⟨_,rfl⟩
  obtain ⟨x2,hx2⟩:∃ x,x=x1+po:=⟨_,rfl⟩
  obtain ⟨x3,hx3⟩:∃ x,x=x2+m:=⟨_,rfl⟩
  have w1:IntKind.i64.wrap (2+(ip:Int))=(x1:Int):=by rw [IntWalk.i64_in _ (by omega)];omega
  have w2:IntKind.i64.wrap ((x1:Int)+(po:Int))=(x2:Int):=by rw [IntWalk.i64_in _ (by omega)];omega
  have w3:IntKind.i64.wrap ((x2:Int)+(m:Int))=(x3:Int):=by rw [IntWalk.i64_in _ (by omega)];omega
  have hi:¬ (1:Int)=(x3:Int):=by omega
  simp [r0,r5,r6,r7,w1,w2,w3,hi]
  exact hno _ (by simp [r0]) (by simp) (by simp [r5]) (by simp [r6]) (by simp [r7])
 dsimp only [c39i]
 simp
 refine wC_loop ?_
 simp
 refine g 0 _ _ (.inl rfl) (by simp [r0]) (by simp [r5]) (by simp [r6]) (by simp) fun env1 p0 p2 p5 p6 p7=>?_
 simp at p0 p2 p5 p6 p7
 simp [p7,show IntKind.i64.wrap 2=2 by decide]
 refine wC_loop ?_
 simp
 refine g 2 _ _ (.inr rfl) (by simp [p0,r0]) (by simp [p5,r5]) (by simp [p6,r6]) (by simp) fun env2 s0 s2 s5 s6 s7=>?_
 simp at s0 s2 s5 s6 s7
 simp [s7,show IntKind.i64.wrap 4=4 by decide]
 refine wC_loop ?_
 simp
 exact hno _ (by simp [s0,p0]) (by simp [s2,p2]) (by simp [s5,p5]) (by simp [s6,p6])
theorem radec_ok (A:AHeap) (s:List UInt8) (hs:s.length<900000) (Q:Value→AHeap→Prop) (hq:∀ A',Ext NoB A A'→Q (resD Ad.cells az (Ad.dec s)) A'):wF T (.func (.func 39) #[] #[]) [.string ⟨⟨s⟩⟩] A Q:=by
 refine wF_func (first:=[]) (captured:=[]) t39 ⟨rfl,by decide⟩ ?_
 dsimp only [c39]
 match s,hs,hq with
 | [],hs,hq =>
   simp
   exact hq _ (by (repeat first|exact Ext.refl|assumption|refine Ext.allocN ?_|refine Ext.setN ?_ (by first|omega|(simp;done)|(simp;omega))))
 | a::t,hs,hq =>
   have y1:=quo16 a
   by_cases h0:a.toNat / 16≠3
   ·have hd:Ad.dec (a::t)=.error 7:=by simp only [Ad.dec,if_pos h0]
    rw [hd] at hq
    generalize a.toNat / 16=n at y1 h0
    have h0':¬ (n:Int)=3:=by omega
    simp [y1,h0',h0]
    exact hq _ (by (repeat first|exact Ext.refl|assumption|refine Ext.allocN ?_|refine Ext.setN ?_ (by first|omega|(simp;done)|(simp;omega))))
   have h0e:a.toNat / 16=3:=by omega
   rw [h0e] at y1
   have m1:=rem2 .u8 a.toNat
   have d1:decide (((a.toNat % 2:Nat):Int)=1)=decide (a.toNat % 2=1):=decide_eq_decide.2 (by omega)
   obtain ⟨ec,hec⟩:∃ ec,ec=decide (a.toNat % 2=1):=⟨_,rfl⟩
   obtain ⟨mm,hmm⟩:∃ mm,mm=a.toNat % 2:=⟨_,rfl⟩
   rw [← hec,← hmm] at d1
   rw [← hmm] at m1
   obtain ⟨m,hm⟩:∃ m,m=(if ec then 0 else 8:Nat):=⟨_,rfl⟩
   have hm8:m≤8:=by rw [hm];split<;>omega
   have main:∀ (B:AHeap) (env:Env),Ext NoB A B→B.get A.size=some (.cells az false 0)→env.rd 0=.string ⟨⟨a::t⟩⟩→env.rd 2=.pointer (some ⟨A.size,0,none⟩)→env.rd 4=.bool ec→env.rd 5=.int .i64 (m:Nat) →
     wC T 39 none c39o { env:=env,n:=68,dfs:=[],A:=B } (endF [.inr (2,6,true),.inl 3] Q):=by
    intro B env eB g2 r0 r2 r4 r5
    dsimp only [c39o]
    have l2:=AHeap.get_lt g2
    match t,hs,hq,r0 with
    | [],hs,hq,r0 =>
      have hd:Ad.dec [a]=.error 5:=by simp only [Ad.dec,if_neg h0]
      rw [hd] at hq
      simp
      refine wC_loop ?_
      simp
      refine radn_ok B 4 m a (.inl rfl) hm8 _ (by simp [r0]) (by simp [r5]) (by simp) _ fun env1 p0 p2 p5 p6=>?_
      simp at p0 p2 p5 p6
      simp [p6,show IntKind.i64.wrap 16=16 by decide]
      refine wC_loop ?_
      simp
      refine radn_ok B 16 m a (.inr rfl) hm8 _ (by simp [p0,r0]) (by simp [p5,r5]) (by simp) _ fun env2 s0 s2 s5 s6=>?_
      simp at s0 s2 s5 s6
      simp [s6,show IntKind.i64.wrap 28=28 by decide]
      refine wC_loop ?_
      simp [s2,p2,r2,g2,l2,az]
      exact hq _ (by (repeat first|exact Ext.refl|assumption|refine Ext.allocN ?_|refine Ext.setN ?_ (by first|omega|(simp;done)|(simp;omega))))
    | b::r,hs,hq,r0 =>
      have hr:r.length<900000:=by simp at hs;omega
      have hyes:∀ ip po,(ip=4∨ip=16)→(po=0∨po=2)→r.length=ip+po+m→∀ env' A',env'.rd 2=.pointer (some ⟨A.size,0,none⟩)→env'.rd 3=.int .i64 0→Ext NoB A A'→A'.get A.size=some (.cells (⟨ec,(b.toNat:Nat),seg r 0 ip,decide (po=2),(val (seg r ip po):Nat),seg r (ip+po) m⟩:Ad).cells false 0)→endF [.inr (2,6,true),.inl 3] Q .ret { env:=env',n:=68,dfs:=[],A:=A' }:=by
       intro ip po hip hpo hl env' A' q2 q3 e g
       have hd:Ad.dec (a::b::r)=.ok ⟨ec,(b.toNat:Nat),seg r 0 ip,decide (po=2),(val (seg r ip po):Nat),seg r (ip+po) m⟩:=by
        simp only [Ad.dec,if_neg h0]
        rw [← hec,← hm]
        rcases hip with rfl|rfl<;>rcases hpo with rfl|rfl
        ·rw [if_pos (by omega)];simp [seg_zero,val_nil]
        ·rw [if_neg (by omega),if_pos (by omega)];simp
        ·rw [if_neg (by omega),if_neg (by omega),if_pos (by omega)];simp [seg_zero,val_nil]
        ·rw [if_neg (by omega),if_neg (by omega),if_neg (by omega),if_pos (by omega)];simp
       rw [hd] at hq
       simp only [Ad.cells] at g
       simp [q2,q3,g]
       exact hq _ e
      simp
      refine wC_loop ?_
      simp
      refine radi_ok A B A.size 4 m ec a b r (.inl rfl) hm8 hr g2 eB (Nat.le_refl _) _ (by simp [r0]) (by simp [r2]) (by simp [r4]) (by simp [r5]) (by simp) _ (fun n1 n2 env1 p0 p2 p4 p5 p6=>?_) fun po hpo hl env' A' q2 q3 e g=>?_
      ·simp at p0 p2 p4 p5 p6
       simp [p6,show IntKind.i64.wrap 16=16 by decide]
       refine wC_loop ?_
       simp
       refine radi_ok A B A.size 16 m ec a b r (.inr rfl) hm8 hr g2 eB (Nat.le_refl _) _ (by simp [p0,r0]) (by simp [p2,r2]) (by simp [p4,r4]) (by simp [p5,r5]) (by simp) _ (fun n3 n4 env2 s0 s2 s4 s5 s6=>?_) fun po hpo hl env' A' q2 q3 e g=>?_
       ·simp at s0 s2 s4 s5 s6
        simp [s6,show IntKind.i64.wrap 28=28 by decide]
        refine wC_loop ?_
        have hd:Ad.dec (a::b::r)=.error 5:=by
         simp only [Ad.dec,if_neg h0]
         rw [← hec,← hm,if_neg (by omega),if_neg (by omega),if_neg (by omega),if_neg (by omega)]
        rw [hd] at hq
        simp [s2,p2,r2,g2,l2,az]
        exact hq _ (by (repeat first|exact Ext.refl|assumption|refine Ext.allocN ?_|refine Ext.setN ?_ (by first|omega|(simp;done)|(simp;omega))))
       ·have:=hyes 16 po (.inr rfl) hpo hl env' A' q2 q3 e g
        simpa using this
      ·have:=hyes 4 po (.inl rfl) hpo hl env' A' q2 q3 e g
       simpa using this
   simp [y1,m1,d1]
   generalize hB:AHeap.alloc _ _=B
   have b2:B.get A.size=some (.cells az false 0):=by subst hB;simp [az]
   have eB:Ext NoB A B:=by subst hB;(repeat first|exact Ext.refl|assumption|refine Ext.allocN ?_|refine Ext.setN ?_ (by first|omega|(simp;done)|(simp;omega)))
   cases ec with
   | true =>
     have h0:m=0:=by simpa using hm
     subst h0
     simp
     exact main B _ eB b2 (by simp) (by simp) (by simp) (by simp)
   | false =>
     have h8:m=8:=by simpa using hm
     subst h8
     simp
     exact main B _ eB b2 (by simp) (by simp) (by simp) (by simp)
theorem rdecode_ok (A:AHeap) (k:Int) (s:List UInt8) (hs:s.length<900000) (Q:Value→AHeap→Prop) (hq:∀ A',Ext NoB A A'→Q (resO (Op.dec k s)) A'):wF T (.func (.func 13) #[] #[]) [.agg ⟨[.int .i64 k,.string ⟨⟨s⟩⟩]⟩] A Q:=by
 refine wF_func (first:=[]) (captured:=[]) t13 ⟨rfl,by decide⟩ ?_
 dsimp only [c13]
 by_cases hk:k=30
 case neg =>
  have hd:Op.dec k s=.error 7:=by unfold Op.dec;rw [if_pos hk]
  rw [hd] at hq
  simp [hk]
  exact hq _ (by (repeat first|exact Ext.refl|assumption|refine Ext.allocN ?_|refine Ext.setN ?_ (by first|omega|(simp;done)|(simp;omega))))
 subst hk
 match s,hs,hq with
 | [],hs,hq =>
   simp
   exact hq _ (by (repeat first|exact Ext.refl|assumption|refine Ext.allocN ?_|refine Ext.setN ?_ (by first|omega|(simp;done)|(simp;omega))))
 | a::t,hs,hq =>
   have ha:=a.toNat_lt
   have y1:=quo16 a
   rw [Op.dec_at] at hq
   obtain ⟨n,hn⟩:∃ n,n=a.toNat / 16:=⟨_,rfl⟩
   rw [← hn] at hq y1
   have hn16:n<16:=by omega
   have wn:IntKind.i64.wrap (n:Int)=n:=IntWalk.i64_in _ (by omega)
   simp [y1,wn]
   generalize hB:AHeap.set _ _ _=B
   have b1:B.get A.size=some (.cells [.int .i64 30,.string ⟨⟨a::t⟩⟩] false 0):=by subst hB;simp
   have b2:B.get (A.size+1)=some (.cells opZ false 0):=by subst hB;simp
   have b4:B.get (A.size+2)=some (.cells (Op.only n).cells false 0):=by subst hB;simp
   have l4:=AHeap.get_lt b4
   have l2:=AHeap.get_lt b2
   have eB:Ext NoB A B:=by subst hB;(repeat first|exact Ext.refl|assumption|refine Ext.allocN ?_|refine Ext.setN ?_ (by first|omega|(simp;done)|(simp;omega)))
   by_cases h9:n<9
   case neg =>
    have hq':∀ A',Ext NoB A A'→Q (resO (.error 7)) A':=by
     intro A' e'
     have:=hq A' e'
     rwa [if_neg (by omega),if_neg (by omega),if_neg (by omega),if_neg (by omega),if_neg (by omega),if_neg (by omega),if_neg (by omega),if_neg (by omega),if_neg (by omega)] at this
    have e0:¬ (n:Int)=0:=by omega
    have e1:¬ (n:Int)=1:=by omega
    have e2:¬ (n:Int)=2:=by omega
    have e3:¬ (n:Int)=3:=by omega
    have e4:¬ (n:Int)=4:=by omega
    have e5:¬ (n:Int)=5:=by omega
    have e6:¬ (n:Int)=6:=by omega
    have e7:¬ (n:Int)=7:=by omega
    have e8:¬ (n:Int)=8:=by omega
    have e0':¬ n=0:=by omega
    simp [b4,only_sub,e0,e0',e1,e2,e3,e4,e5,e6,e7,e8,b2,l2]
    exact hq' _ (by (repeat first|exact Ext.refl|assumption|refine Ext.allocN ?_|refine Ext.setN ?_ (by first|omega|(simp;done)|(simp;omega))))
   have hc:n=0∨n=1∨n=2∨n=3∨n=4∨n=5∨n=6∨n=7∨n=8:=by omega
   rcases hc with h|h|h|h|h|h|h|h|h
   ·subst h
    simp [b4,b1,only_sub]
    refine rcdec_ok B (a::t) (by omega) _ fun C eC=>?_
    have c2:=eC.get b2 id
    have c4:=eC.get b4 id
    have l4:=AHeap.get_lt c4
    have l2:=AHeap.get_lt c2
    have eeC:=eB.trans eC
    have nz:=eeC.size
    cases hx:Cap.dec (a::t) with
    | ok x =>
      have hq':∀ A',Ext NoB A A'→Q (resO (.ok { Op.only 0 with cap:=x })) A':=by intro A' e';have:=hq A' e';simp (decide:=true) only [if_true,if_false] at this;rw [hx] at this;exact this
      simp [resD,c4,c2,l4,l2]
      exact hq' _ (by (repeat first|exact Ext.refl|assumption|refine Ext.allocN ?_|refine Ext.setN ?_ (by first|omega|(simp;done)|(simp;omega))))
    | error e =>
      have he:=cap_err hx
      have hq':∀ A',Ext NoB A A'→Q (resO (.error e)) A':=by intro A' e';have:=hq A' e';simp (decide:=true) only [if_true,if_false] at this;rw [hx] at this;exact this
      simp [resD,c4,c2,l4,l2,he,czL]
      exact hq' _ (by (repeat first|exact Ext.refl|assumption|refine Ext.allocN ?_|refine Ext.setN ?_ (by first|omega|(simp;done)|(simp;omega))))
   ·subst h
    simp [b4,b1,only_sub]
    refine rjdec_ok B (a::t) (by omega) _ fun C eC=>?_
    have c2:=eC.get b2 id
    have c4:=eC.get b4 id
    have l4:=AHeap.get_lt c4
    have l2:=AHeap.get_lt c2
    have eeC:=eB.trans eC
    have nz:=eeC.size
    cases hx:Jn.dec (a::t) with
    | ok x =>
      have hq':∀ A',Ext NoB A A'→Q (resO (.ok { Op.only 1 with jn:=x })) A':=by intro A' e';have:=hq A' e';simp (decide:=true) only [if_true,if_false] at this;rw [hx] at this;exact this
      simp [resD,c4,c2,l4,l2]
      exact hq' _ (by (repeat first|exact Ext.refl|assumption|refine Ext.allocN ?_|refine Ext.setN ?_ (by first|omega|(simp;done)|(simp;omega))))
    | error e =>
      have he:=jn_err hx
      have hq':∀ A',Ext NoB A A'→Q (resO (.error e)) A':=by intro A' e';have:=hq A' e';simp (decide:=true) only [if_true,if_false] at this;rw [hx] at this;exact this
      simp [resD,c4,c2,l4,l2,he,jzL]
      exact hq' _ (by (repeat first|exact Ext.refl|assumption|refine Ext.allocN ?_|refine Ext.setN ?_ (by first|omega|(simp;done)|(simp;omega))))
   ·subst h
    simp [b4,b1,only_sub]
    refine rddec_ok B (a::t) (by omega) _ fun C eC=>?_
    have c2:=eC.get b2 id
    have c4:=eC.get b4 id
    have l4:=AHeap.get_lt c4
    have l2:=AHeap.get_lt c2
    have eeC:=eB.trans eC
    have nz:=eeC.size
    cases hx:Ds.dec (a::t) with
    | ok x =>
      have hq':∀ A',Ext NoB A A'→Q (resO (.ok { Op.only 2 with ds:=x })) A':=by intro A' e';have:=hq A' e';simp (decide:=true) only [if_true,if_false] at this;rw [hx] at this;exact this
      simp [resD,c4,c2,l4,l2]
      exact hq' _ (by (repeat first|exact Ext.refl|assumption|refine Ext.allocN ?_|refine Ext.setN ?_ (by first|omega|(simp;done)|(simp;omega))))
    | error e =>
      have he:=ds_err hx
      have hq':∀ A',Ext NoB A A'→Q (resO (.error e)) A':=by intro A' e';have:=hq A' e';simp (decide:=true) only [if_true,if_false] at this;rw [hx] at this;exact this
      simp [resD,c4,c2,l4,l2,he,dzL]
      exact hq' _ (by (repeat first|exact Ext.refl|assumption|refine Ext.allocN ?_|refine Ext.setN ?_ (by first|omega|(simp;done)|(simp;omega))))
   ·subst h
    simp [b4,b1,only_sub]
    refine radec_ok B (a::t) (by omega) _ fun C eC=>?_
    have c2:=eC.get b2 id
    have c4:=eC.get b4 id
    have l4:=AHeap.get_lt c4
    have l2:=AHeap.get_lt c2
    have eeC:=eB.trans eC
    have nz:=eeC.size
    cases hx:Ad.dec (a::t) with
    | ok x =>
      have hq':∀ A',Ext NoB A A'→Q (resO (.ok { Op.only 3 with ad:=x })) A':=by intro A' e';have:=hq A' e';simp (decide:=true) only [if_true,if_false] at this;rw [hx] at this;exact this
      simp [resD,c4,c2,l4,l2]
      exact hq' _ (by (repeat first|exact Ext.refl|assumption|refine Ext.allocN ?_|refine Ext.setN ?_ (by first|omega|(simp;done)|(simp;omega))))
    | error e =>
      have he:=ad_err hx
      have hq':∀ A',Ext NoB A A'→Q (resO (.error e)) A':=by intro A' e';have:=hq A' e';simp (decide:=true) only [if_true,if_false] at this;rw [hx] at this;exact this
      simp [resD,c4,c2,l4,l2,he,azL]
      exact hq' _ (by (repeat first|exact Ext.refl|assumption|refine Ext.allocN ?_|refine Ext.setN ?_ (by first|omega|(simp;done)|(simp;omega))))
   ·subst h
    simp [b4,b1,only_sub]
    refine rrdec_ok B (a::t) (by omega) _ fun C eC=>?_
    have c2:=eC.get b2 id
    have c4:=eC.get b4 id
    have l4:=AHeap.get_lt c4
    have l2:=AHeap.get_lt c2
    have eeC:=eB.trans eC
    have nz:=eeC.size
    cases hx:remD (a::t) with
    | ok x =>
      have hq':∀ A',Ext NoB A A'→Q (resO (.ok { Op.only 4 with ids:=x })) A':=by intro A' e';have:=hq A' e';simp (decide:=true) only [if_true,if_false] at this;rw [hx] at this;exact this
      simp [resD,c4,c2,l4,l2]
      exact hq' _ (by (repeat first|exact Ext.refl|assumption|refine Ext.allocN ?_|refine Ext.setN ?_ (by first|omega|(simp;done)|(simp;omega))))
    | error e =>
      have he:=rem_err hx
      have hq':∀ A',Ext NoB A A'→Q (resO (.error e)) A':=by intro A' e';have:=hq A' e';simp (decide:=true) only [if_true,if_false] at this;rw [hx] at this;exact this
      simp [resD,c4,c2,l4,l2,he,e4L]
      exact hq' _ (by (repeat first|exact Ext.refl|assumption|refine Ext.allocN ?_|refine Ext.setN ?_ (by first|omega|(simp;done)|(simp;omega))))
   ·subst h
    simp [b4,b1,only_sub]
    refine rpdec_ok B (a::t) (by omega) _ fun C eC=>?_
    have c2:=eC.get b2 id
    have c4:=eC.get b4 id
    have l4:=AHeap.get_lt c4
    have l2:=AHeap.get_lt c2
    have eeC:=eB.trans eC
    have nz:=eeC.size
    cases hx:prioD (a::t) with
    | ok x =>
      have hq':∀ A',Ext NoB A A'→Q (resO (.ok { Op.only 5 with prio:=x })) A':=by intro A' e';have:=hq A' e';simp (decide:=true) only [if_true,if_false] at this;rw [hx] at this;exact this
      simp [resD,c4,c2,l4,l2]
      exact hq' _ (by (repeat first|exact Ext.refl|assumption|refine Ext.allocN ?_|refine Ext.setN ?_ (by first|omega|(simp;done)|(simp;omega))))
    | error e =>
      have he:=prio_err hx
      have hq':∀ A',Ext NoB A A'→Q (resO (.error e)) A':=by intro A' e';have:=hq A' e';simp (decide:=true) only [if_true,if_false] at this;rw [hx] at this;exact this
      simp [resD,c4,c2,l4,l2,he,e5L]
      exact hq' _ (by (repeat first|exact Ext.refl|assumption|refine Ext.allocN ?_|refine Ext.setN ?_ (by first|omega|(simp;done)|(simp;omega))))
   ·subst h
    simp [b4,b1,only_sub]
    refine rfdec_ok B (a::t) (by omega) _ fun C eC=>?_
    have c2:=eC.get b2 id
    have c4:=eC.get b4 id
    have l4:=AHeap.get_lt c4
    have l2:=AHeap.get_lt c2
    have eeC:=eB.trans eC
    have nz:=eeC.size
    cases hx:bigD 6 (a::t) with
    | ok x =>
      have hq':∀ A',Ext NoB A A'→Q (resO (.ok { Op.only 6 with fail:=x })) A':=by intro A' e';have:=hq A' e';simp (decide:=true) only [if_true,if_false] at this;rw [hx] at this;exact this
      simp [resD,c4,c2,l4,l2]
      exact hq' _ (by (repeat first|exact Ext.refl|assumption|refine Ext.allocN ?_|refine Ext.setN ?_ (by first|omega|(simp;done)|(simp;omega))))
    | error e =>
      have he:=big_err hx
      have hq':∀ A',Ext NoB A A'→Q (resO (.error e)) A':=by intro A' e';have:=hq A' e';simp (decide:=true) only [if_true,if_false] at this;rw [hx] at this;exact this
      simp [resD,c4,c2,l4,l2,he,e6L]
      exact hq' _ (by (repeat first|exact Ext.refl|assumption|refine Ext.allocN ?_|refine Ext.setN ?_ (by first|omega|(simp;done)|(simp;omega))))
   ·subst h
    simp [b4,b1,only_sub]
    refine rkdec_ok B (a::t) (by omega) _ fun C eC=>?_
    have c2:=eC.get b2 id
    have c4:=eC.get b4 id
    have l4:=AHeap.get_lt c4
    have l2:=AHeap.get_lt c2
    have eeC:=eB.trans eC
    have nz:=eeC.size
    cases hx:bigD 7 (a::t) with
    | ok x =>
      have hq':∀ A',Ext NoB A A'→Q (resO (.ok { Op.only 7 with fast:=x })) A':=by intro A' e';have:=hq A' e';simp (decide:=true) only [if_true,if_false] at this;rw [hx] at this;exact this
      simp [resD,c4,c2,l4,l2]
      exact hq' _ (by (repeat first|exact Ext.refl|assumption|refine Ext.allocN ?_|refine Ext.setN ?_ (by first|omega|(simp;done)|(simp;omega))))
    | error e =>
      have he:=big_err hx
      have hq':∀ A',Ext NoB A A'→Q (resO (.error e)) A':=by intro A' e';have:=hq A' e';simp (decide:=true) only [if_true,if_false] at this;rw [hx] at this;exact this
      simp [resD,c4,c2,l4,l2,he,e7L]
      exact hq' _ (by (repeat first|exact Ext.refl|assumption|refine Ext.allocN ?_|refine Ext.setN ?_ (by first|omega|(simp;done)|(simp;omega))))
   ·subst h
    simp [b4,b1,only_sub]
    refine rtdec_ok B (a::t) (by omega) _ fun C eC=>?_
    have c2:=eC.get b2 id
    have c4:=eC.get b4 id
    have l4:=AHeap.get_lt c4
    have l2:=AHeap.get_lt c2
    have eeC:=eB.trans eC
    have nz:=eeC.size
    cases hx:rstD (a::t) with
    | ok x =>
      have hq':∀ A',Ext NoB A A'→Q (resO (.ok { Op.only 8 with rf:=x.1,rr:=x.2 })) A':=by intro A' e';have:=hq A' e';simp (decide:=true) only [if_true,if_false] at this;rw [hx] at this;exact this
      simp [resD,c4,c2,l4,l2]
      exact hq' _ (by (repeat first|exact Ext.refl|assumption|refine Ext.allocN ?_|refine Ext.setN ?_ (by first|omega|(simp;done)|(simp;omega))))
    | error e =>
      have he:=rst_err hx
      have hq':∀ A',Ext NoB A A'→Q (resO (.error e)) A':=by intro A' e';have:=hq A' e';simp (decide:=true) only [if_true,if_false] at this;rw [hx] at this;exact this
      simp [resD,c4,c2,l4,l2,he,e8L]
      exact hq' _ (by (repeat first|exact Ext.refl|assumption|refine Ext.allocN ?_|refine Ext.setN ?_ (by first|omega|(simp;done)|(simp;omega))))
end Go.Proofs.YtigknpfjhegkgaaGreatDoor
end
