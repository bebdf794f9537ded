import Derived.Test.YtiilphienfadmaaAsZE
namespace Go.AS
open Go
universe u
set_option linter.unusedSimpArgs false
set_option linter.unusedVariables false

/-! ## What follows is not looked into before its turn -/
theorem get_alloc_top {A : AHeap} {x : ABlk} {l : Nat} (h : l = A.size) : (A.alloc x).get l = some x := by rw [AHeap.get_alloc, if_pos h]

/-- A value, marked: so that a congruence counts as taken. -/
def idS {α : Sort u} (x : α) : α := x
@[simp] theorem idS_eq {α : Sort u} (x : α) : idS x = x := Eq.trans rfl rfl

section
variable {T : FTab} {fn : FuncId} {ctx : Option Nat}

@[congr] theorem wC_congr {c : ACode} {st st' : St} {Q : AExit → St → Prop} (h : idS st = st') : wC T fn ctx c st Q = wC T fn ctx c st' Q := by rw [← h, idS_eq]
@[congr] theorem wO_congr {l : List AOper} {st st' : St} {Q : St → Prop} (h : idS st = st') : wO T l st Q = wO T l st' Q := by rw [← h, idS_eq]
@[congr] theorem wV_congr {e e' : Env} {A A' : AHeap} {op : AOp} {Q : Value → AHeap → Prop} (h : idS e = e') (h2 : A = A') : wV T e A op Q = wV T e' A' op Q := by rw [← h, idS_eq, ← h2]
@[congr] theorem wL_congr {r r' : Option (Value × AHeap)} {Q : Value → AHeap → Prop} (h : idS r = r') : wL r Q = wL r' Q := by rw [← h, idS_eq]
@[congr] theorem wB_congr {v v' : Value} {p q : Prop} (h : idS v = v') : wB v p q = wB v' p q := by rw [← h, idS_eq]
@[congr] theorem wF_congr {f f' : Value} {args args' : List Value} {A A' : AHeap} {Q : Value → AHeap → Prop} (h : idS f = f') (h1 : args = args') (h2 : A = A') : wF T f args A Q = wF T f' args' A' Q := by rw [← h, idS_eq, ← h1, ← h2]
@[congr] theorem wPut_congr {st st' : St} {dst : Option Nat} {v v' : Value} {A A' : AHeap} {K : St → Prop} (h : idS st = st') (h1 : v = v') (h2 : A = A') : wPut st dst v A K = wPut st' dst v' A' K := by rw [← h, idS_eq, ← h1, ← h2]
@[congr] theorem wD_congr {all l : List AOper} {chk : List (Nat × Nat)} {tr tr' : List St} {st st' : St} {Q : St → Prop} (h : idS st = st') (h1 : tr = tr') : wD T all chk l tr st Q = wD T all chk l tr' st' Q := by rw [← h, idS_eq, ← h1]
@[congr] theorem thenC_congr {K : St → Prop} {Q : AExit → St → Prop} {x x' : AExit} {st st' : St} (h : idS st = st') (h1 : x = x') : thenC K Q x st = thenC K Q x' st' := by rw [← h, idS_eq, ← h1]
@[congr] theorem blockC_congr {id : Nat} {Q : AExit → St → Prop} {x x' : AExit} {st st' : St} (h : idS st = st') (h1 : x = x') : blockC id Q x st = blockC id Q x' st' := by rw [← h, idS_eq, ← h1]
@[congr] theorem endF_congr {rs : List (Nat ⊕ (Nat × Nat × Bool))} {Q : Value → AHeap → Prop} {x x' : AExit} {st st' : St} (h : idS st = st') (h1 : x = x') : endF rs Q x st = endF rs Q x' st' := by rw [← h, idS_eq, ← h1]
@[congr] theorem endY_congr {l : Nat} {Q : Value → AHeap → Prop} {x x' : AExit} {st st' : St} (h : idS st = st') (h1 : x = x') : endY l Q x st = endY l Q x' st' := by rw [← h, idS_eq, ← h1]
@[congr] theorem midY_congr {f : FuncId} {l : Nat} {body : ACode} {Q : Value → AHeap → Prop} {st st' : St} (h : idS st = st') : midY T f l body Q st = midY T f l body Q st' := by rw [← h, idS_eq]
@[congr] theorem endR_congr {l : Nat} {st st' : St} {Q : AExit → St → Prop} {A A' : AHeap} (h : idS st = st') (h1 : A = A') : endR l st Q A = endR l st' Q A' := by rw [← h, idS_eq, ← h1]
end
end Go.AS
