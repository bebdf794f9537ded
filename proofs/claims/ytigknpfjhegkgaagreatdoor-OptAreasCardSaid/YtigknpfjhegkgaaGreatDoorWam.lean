/- A text of this claim. -/
import Derived.Test.YtigknpfjhegkgaaGreatDoorUam
import Derived.Test.YtigknpfjhegkgaaGreatDoorNd
import Derived.KernelRfl
namespace Go.Proofs.YtigknpfjhegkgaaGreatDoor
open Go Go.AS
set_option maxRecDepth 100000
set_option linter.unusedSimpArgs false
set_option linter.unusedVariables false
theorem Dr.enc {d:Dr} (h:d.W):∃ l,d.opt.enc=some l∧1≤l.length∧l.length≤38:=by
 obtain ⟨sub,what,id,f0,f1,f2,a,b,n,m,bytes⟩:=d
 have hw:=h.what
 have hi:=h.id
 have hn:=h.n
 have hb:=h.bytes
 simp only at hw hi hn hb
 have fin:∀ (x:Op) (l:List UInt8),x=x.has→x.lay=some l→1≤l.length→l.length≤38→∃ l,x.enc=some l∧1≤l.length∧l.length≤38:=fun x l h1 h2 h3 h4=>⟨l,(if_pos h1).trans h2,h3,h4⟩
 unfold Dr.opt
 generalize hd:(⟨sub,what,id,f0,f1,f2,a,b,n,m,bytes⟩:Dr)=d
 have hdw:d.what=what:=by rw [← hd]
 have hdi:d.id=id:=by rw [← hd]
 have hdn:d.n=n:=by rw [← hd]
 have hdb:d.bytes=bytes:=by rw [← hd]
 rw [← hdw] at hw
 rw [← hdi] at hi
 rw [← hdn] at hn
 rw [← hdb] at hb
 split
 ·refine fin _ d.cap.body rfl (show d.cap.enc=some d.cap.body from if_pos ?_) ?_ ?_
  ·rw [Cap.may,Cap.lacks,Bool.and_eq_true,decide_eq_true_eq,decide_eq_true_eq]
   simp only [Dr.cap]
   refine ⟨⟨by omega,by omega,by omega,by omega,by split<;>omega,by split<;>omega⟩,?_,?_,?_,?_⟩
   ·intro q;rw [if_neg (by omega)]
   ·intro q;rw [if_neg (by omega)]
   ·intro q;rw [if_neg (by omega)]
   ·intro q;rw [if_neg (by omega)]
  ·simp [Cap.body,be_len]
  ·simp only [Cap.body,List.length_append,be_len]
   split<;>split<;>split<;>split<;>simp [be_len]
 split
 ·refine fin _ d.jn.body rfl (show d.jn.enc=some d.jn.body from if_pos ?_) ?_ ?_
  ·simp only [Dr.jn]
   split
   ·simp [Jn.may];omega
   split
   ·simp [Jn.may,hb];omega
   ·simp [Jn.may,hb]
  ·rw [Jn.body];split
   ·simp [Jn.head,be_len]
   split
   ·simp [Jn.head,be_len]
   ·simp [Jn.head,be_len]
  ·simp only [Dr.jn]
   split
   ·simp [Jn.body,Jn.head,be_len]
   split
   ·simp [Jn.body,Jn.head,be_len,hb]
   ·simp [Jn.body,Jn.head,be_len,hb]
 split
 ·refine fin _ d.ds.body rfl (show d.ds.enc=some d.ds.body from if_pos ?_) ?_ ?_
  ·simp only [Dr.ds,Ds.may,Ds.b1,Ds.b2,Ds.b3]
   have hk:d.what % 3=0∨d.what % 3=1∨d.what % 3=2:=by omega
   have z1:d.a % 4294967296<4294967296:=by omega
   have z2:d.b % 4294967296<4294967296:=by omega
   rcases hk with k|k|k<;>subst hd<;>cases f0<;>cases f1<;>cases f2<;>simp [k]<;>(try omega)
   all_goals (cases hh:decide (d.id % 2=1)<;>simp at hh<;>simp [hh]<;>omega)
  ·simp [Ds.body]
  ·simp only [Ds.body,List.length_append,be_len]
   have hk:∀ b,wide b≤8:=fun b=>by cases b<;>decide
   have h1:=hk d.ds.longAck
   have h2:=hk d.ds.longDsn
   split<;>split<;>split<;>simp [be_len]<;>omega
 split
 ·refine fin _ d.ad.body rfl (show d.ad.enc=some d.ad.body from if_pos ?_) ?_ ?_
  ·simp only [Dr.ad,Ad.may]
   subst hd<;>cases f0<;>cases f1<;>cases f2<;>simp [hb]<;>omega
  ·simp [Ad.body,be_len]
  ·simp only [Dr.ad,Ad.body]
   subst hd<;>cases f0<;>cases f1<;>cases f2<;>simp [hb,be_len]
 split
 ·have hl:(d.bytes.take (1+d.what % 24)).length=1+d.what % 24:=by rw [List.length_take];omega
  refine fin _ (64::d.bytes.take (1+d.what % 24)) rfl (show remE (d.bytes.take (1+d.what % 24))=some _ from if_pos ?_) ?_ ?_
  ·show 1≤(d.bytes.take (1+d.what % 24)).length∧(d.bytes.take (1+d.what % 24)).length≤37
   omega
  ·simp
  ·rw [List.length_cons];omega
 split
 ·exact fin _ _ rfl rfl (by simp [prioE,be_len]) (by simp [prioE,be_len])
 split
 ·exact fin _ _ rfl rfl (by simp [bigE,be_len]) (by simp [bigE,be_len])
 split
 ·exact fin _ _ rfl rfl (by simp [bigE,be_len]) (by simp [bigE,be_len])
 ·exact fin _ _ rfl (show rstE (d.id % 16:Nat) (d.what:Nat)=some _ from if_pos (by show (0:Int)≤(d.id % 16:Nat)∧((d.id % 16:Nat):Int)<16∧(0:Int)≤(d.what:Nat)∧((d.what:Nat):Int)<256;omega)) (by simp [be_len]) (by simp [be_len])
theorem Op.inj {x y:Op} (hx:x.W) (hy:y.W) {l:List UInt8} (h1:x.enc=some l) (h2:y.enc=some l):x=y:=by
 have a:=Op.rt hx h1
 have b:=Op.rt hy h2
 rw [a] at b
 cases b
 rfl
end Go.Proofs.YtigknpfjhegkgaaGreatDoor
