import Derived.Test.YtidgbapgedegbaaAsZE
namespace Go.AS
open Go
universe u
set_option linter.unusedSimpArgs false
set_option linter.unusedVariables false

/-! ## What follows is not looked into before its turn -/
theorem get_alloc_top {A : AHeap} {x : ABlk} {l : Nat} (h : l = A.size) : (A.alloc x).get l = some x := by rw [AHeap.get_alloc, if_pos h]

/-- A value, marked: so that a congruence counts as taken. -/
def idS {α : Sort u} (x : α) : α := x
@[simp ↓] theorem idS_eq {α : Sort u} (x : α) : idS x = x := Eq.trans rfl rfl

def idP {α : Sort u} (x : α) : α := x
@[simp] theorem idP_eq {α : Sort u} (x : α) : idP x = x := Eq.trans rfl rfl

section
variable {T : FTab} {fn : FuncId} {ctx : Option Nat}

/-- A state, closed. -/
def Bx (_ : Nat) (s : St) : St := s
@[congr] theorem Bx_congr {u u' : Nat} {s : St} (h : idS (idP u) = u') : Bx u s = Bx u' s := by rw [← h, idS_eq, idP_eq]

theorem wL_some {v : Value} {A : AHeap} {Q : Value → AHeap → Prop} : wL (some (v, A)) Q ↔ Q v A := Iff.rfl
theorem wL_none {Q : Value → AHeap → Prop} : wL none Q ↔ False := Iff.rfl
theorem wB_true {p q : Prop} : wB (.bool true) p q ↔ p := by simp [wB]
theorem wB_false {p q : Prop} : wB (.bool false) p q ↔ q := by simp [wB]
theorem wO_cons' {dst : Option Nat} {guard : Option (Nat × Bool)} {op : AOp} {r : List AOper} {st : St} {Q : St → Prop} : wO T (⟨dst, guard, op⟩ :: r) st Q ↔
    wB (.bool (wantedA st.env guard)) (wV T st.env st.A op (fun v A => wPut st dst v A fun st' => wO T r st' Q)) (wPut st dst undef st.A fun st' => wO T r st' Q) := wO_cons
theorem wD_cons'' {all : List AOper} {chk : List (Nat × Nat)} {dst : Option Nat} {guard : Option (Nat × Bool)} {op : AOp} {r : List AOper} {tr : List St} {st : St} {Q : St → Prop} : wD T all chk (⟨dst, guard, op⟩ :: r) tr st Q ↔
    wB (.bool (wantedA st.env guard)) (wV T st.env st.A op (fun v A => wPut st dst v A fun st' => wD T all chk r (tr ++ [Bx 0 st]) st' Q)) (wPut st dst undef st.A fun st' => wD T all chk r (tr ++ [Bx 0 st]) st' Q) := wD_cons'

@[congr] theorem wC_congr {c : ACode} {st st' : St} {Q : AExit → St → Prop} (h : idS (idP st) = st') : wC T fn ctx c st Q = wC T fn ctx c st' Q := by rw [← h, idS_eq, idP_eq]
@[congr] theorem wO_congr {l : List AOper} {st st' : St} {Q : St → Prop} (h : idS (idP st) = st') : wO T l st Q = wO T l st' Q := by rw [← h, idS_eq, idP_eq]
@[congr] theorem wV_congr {e e' : Env} {A A' : AHeap} {op : AOp} {Q : Value → AHeap → Prop} (h : idS (idP e) = e') (h2 : idS (idP A) = A') : wV T e A op Q = wV T e' A' op Q := by rw [← h, idS_eq, idP_eq, ← h2, idS_eq, idP_eq]
@[congr] theorem wL_congr {r r' : Option (Value × AHeap)} {Q : Value → AHeap → Prop} (h : idS (idP r) = r') : wL r Q = wL r' Q := by rw [← h, idS_eq, idP_eq]
@[congr] theorem wB_congr {v v' : Value} {p q : Prop} (h : idS (idP v) = v') : wB v p q = wB v' p q := by rw [← h, idS_eq, idP_eq]
@[congr] theorem wF_congr {f f' : Value} {args args' : List Value} {A A' : AHeap} {Q : Value → AHeap → Prop} (h : idS (idP f) = f') (h1 : idS (idP args) = args') (h2 : idS (idP A) = A') : wF T f args A Q = wF T f' args' A' Q := by rw [← h, idS_eq, idP_eq, ← h1, idS_eq, idP_eq, ← h2, idS_eq, idP_eq]
@[congr] theorem wPut_congr {st st' : St} {dst : Option Nat} {v v' : Value} {A A' : AHeap} {K : St → Prop} (h : idS (idP st) = st') (h1 : idS (idP v) = v') (h2 : idS (idP A) = A') : wPut st dst v A K = wPut st' dst v' A' K := by rw [← h, idS_eq, idP_eq, ← h1, idS_eq, idP_eq, ← h2, idS_eq, idP_eq]
@[congr] theorem wD_congr {all l : List AOper} {chk : List (Nat × Nat)} {tr : List St} {st st' : St} {Q : St → Prop} (h : idS (idP st) = st') : wD T all chk l tr st Q = wD T all chk l tr st' Q := by rw [← h, idS_eq, idP_eq]
/-- The end of a region that draws its order: its checks, and what follows. -/
def wE (all : List AOper) (chk : List (Nat × Nat)) (tr : List St) (st : St) (Q : St → Prop) : Prop := chk.all (chkOk all (tr ++ [st])) = true ∧ Q st
theorem wD_nil' {all : List AOper} {chk : List (Nat × Nat)} {tr : List St} {st : St} {Q : St → Prop} : wD T all chk [] tr st Q ↔ wE all chk tr st Q := wD_nil
@[congr] theorem wE_congr {all : List AOper} {chk : List (Nat × Nat)} {tr : List St} {st st' : St} {Q : St → Prop} (h : idS (idP st) = st') : wE all chk tr st Q = wE all chk tr st' Q := by rw [← h, idS_eq, idP_eq]
theorem wE_intro {all : List AOper} {chk : List (Nat × Nat)} {tr : List St} {st : St} {Q : St → Prop} (h : chk.all (chkOk all (tr ++ [Bx 0 st])) = true) (hq : Q st) : wE all chk tr st Q := ⟨h, hq⟩
@[congr] theorem thenC_congr {K : St → Prop} {Q : AExit → St → Prop} {x x' : AExit} {st st' : St} (h : idS (idP st) = st') (h1 : idS (idP x) = x') : thenC K Q x st = thenC K Q x' st' := by rw [← h, idS_eq, idP_eq, ← h1, idS_eq, idP_eq]
@[congr] theorem blockC_congr {id : Nat} {Q : AExit → St → Prop} {x x' : AExit} {st st' : St} (h : idS (idP st) = st') (h1 : idS (idP x) = x') : blockC id Q x st = blockC id Q x' st' := by rw [← h, idS_eq, idP_eq, ← h1, idS_eq, idP_eq]
@[congr] theorem endF_congr {rs : List (Nat ⊕ (Nat × Nat × Bool))} {Q : Value → AHeap → Prop} {x x' : AExit} {st st' : St} (h : idS (idP st) = st') (h1 : idS (idP x) = x') : endF rs Q x st = endF rs Q x' st' := by rw [← h, idS_eq, idP_eq, ← h1, idS_eq, idP_eq]
@[congr] theorem endY_congr {l : Nat} {Q : Value → AHeap → Prop} {x x' : AExit} {st st' : St} (h : idS (idP st) = st') (h1 : idS (idP x) = x') : endY l Q x st = endY l Q x' st' := by rw [← h, idS_eq, idP_eq, ← h1, idS_eq, idP_eq]
@[congr] theorem midY_congr {f : FuncId} {l : Nat} {body : ACode} {Q : Value → AHeap → Prop} {st st' : St} (h : idS (idP st) = st') : midY T f l body Q st = midY T f l body Q st' := by rw [← h, idS_eq, idP_eq]
@[congr] theorem endR_congr {l : Nat} {st st' : St} {Q : AExit → St → Prop} {A A' : AHeap} (h : idS (idP st) = st') (h1 : idS (idP A) = A') : endR l st Q A = endR l st' Q A' := by rw [← h, idS_eq, idP_eq, ← h1, idS_eq, idP_eq]
end
end Go.AS
