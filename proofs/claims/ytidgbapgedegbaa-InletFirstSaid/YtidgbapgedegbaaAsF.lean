import Derived.Test.YtidgbapgedegbaaAsE
namespace Go.AS
open Go
set_option linter.unusedSimpArgs false
set_option linter.unusedVariables false

section
variable {ρ : Ren}
theorem plain0_VR {v : Value} (h : plain0 v = true) : VR ρ v v := by
  unfold plain0 at h
  split at h <;> first | (constructor; done) | exact .func _ _ _ _ _ .nil .nil | cases h
theorem plain1_VR {v : Value} (h : plain1 v = true) : VR ρ v v := by
  unfold plain1 at h
  split at h
  · exact .iface _ _ _ (plain0_VR h)
  · exact plain0_VR h
theorem plains_VRs {l : List Value} (h : l.all plain1 = true) : VRs ρ l l := by
  induction l with
  | nil => exact .nil
  | cons v l ih => simp at h; exact .cons _ _ _ _ (plain1_VR h.1) (ih (by simpa using h.2))
theorem plainV_VR {v : Value} (h : plainV v = true) : VR ρ v v := by
  unfold plainV at h
  split at h
  · exact .agg _ _ (plains_VRs h)
  · exact .tuple _ _ (plains_VRs h)
  · exact .iface _ _ _ (.agg _ _ (plains_VRs h))
  · exact plain1_VR h
end

/-! ## Types looked up -/
def szOf (P : Program) (t : TypeId) : Option Nat := (P.info? t).map (·.size)
def bytesOf (P : Program) (t : TypeId) : Option Nat := (P.info? t).map (·.bytes)
def aggOf (P : Program) (t : TypeId) : Option Bool := (P.underlying t).map fun d => match d with | .struct _ | .array _ _ => true | _ => false
def zeroOf (P : Program) (t : TypeId) : Option (List Value) := do
  let i ← P.info? t
  let z ← i.zero
  if (cl z).all plain1 then some (cl z) else none
def isIntT (P : Program) (t : TypeId) : Bool := match P.underlying t with | some (.int _) => true | _ => false

def fieldLeaves (P : Program) (fl : TypeId → Option (List (Nat × LeafK))) (f : Field) : Option (List (Nat × LeafK)) :=
  if f.name = "_" then some [] else
  match fl f.type, szOf P f.type with
  | some l, some s => if l.all (fun p => p.1 < s) && !l.isEmpty then some (l.map fun p => (f.offset + p.1, p.2)) else none
  | _, _ => none

/-- The cells by which two values of a type are compared. -/
def flat (P : Program) : Nat → TypeId → Option (List (Nat × LeafK))
  | 0, _ => none
  | d + 1, t =>
    match P.underlying t with
    | some .bool => some [(0, .b)]
    | some (.int _) => some [(0, .i)]
    | some .string => some [(0, .s)]
    | some (.struct fs) =>
      if P.stoodInHeld t then none else
      (fs.toList.mapM (fieldLeaves P (flat P d))).map List.flatten
    | some (.array n e) =>
      match flat P d e, szOf P e with
      | some l, some s => if l.all (fun p => p.1 < s) && !l.isEmpty then some ((List.range n).flatMap fun i => l.map fun p => (i * s + p.1, p.2)) else none
      | _, _ => none
    | _ => none

def partsOf (P : Program) (t : TypeId) (parts : List (Nat × Operand)) : Option (List (Nat × Nat × Operand)) :=
  match P.underlying t with
  | some (.struct fields) => if fields.toList.all (fun f => (szOf P f.type).isSome) then
      parts.mapM fun p => do let f ← fields[p.1]?; let s ← szOf P f.type; some (f.offset, s, p.2) else none
  | some (.array _ elem) => do let s ← szOf P elem; some (parts.map fun p => (p.1 * s, s, p.2))
  | _ => none

def eqKind : TypeDesc → Option EqK
  | .bool => some .bool
  | .pointer _ => some .ptr
  | .slice _ => some .slice
  | .map _ _ => some .map
  | .func _ _ _ => some .func
  | .interface _ => some .iface
  | _ => none

def isIntD : TypeDesc → Bool
  | .int _ => true
  | _ => false

def isLit : Operand → Bool
  | .const _ => true
  | _ => false

/-- The operation, types looked up; none: not one of ours. -/
def compileOp (P : Program) (o : Oper) : Option AOp :=
  if !(o.op.operands.toList.all okOp) then none else
  match o.op with
  | .move x | .assign x => some (.mov x)
  | .pick c a b => some (.pick c a b)
  | .alloc elem => (zeroOf P elem).map (.alloc elem)
  | .box elem x => (szOf P elem).map fun n => .box elem n x
  | .build t parts => do let ps ← partsOf P t parts.toList; let z ← zeroOf P t; some (.build z ps)
  | .buildSlice t len parts =>
    match P.underlying t with
    | some (.slice elem) => do
      let s ← szOf P elem
      let z ← if len * s = 0 then some [] else zeroOf P elem
      if len * s ≤ 16777216 ∧ len ≤ 16777216 ∧ (len * s = 0 ∨ z.length = s) then some (.bslice elem len z (parts.toList.map fun p => (p.1 * s, s, p.2))) else none
    | _ => none
  | .load t a => do let g ← aggOf P t; let s ← szOf P t; some (if g then .loadN s a else .load1 a)
  | .store t a x => (szOf P t).map fun n => .store n a x
  | .nilCheck x => some (.nilchk x)
  | .binOp op t x y _ =>
    match P.underlying t, op with
    | some (.int _), _ => some (.bin op x y)
    | some .string, _ => some (.bin op x y)
    | some (.struct _), .eql | some (.array _ _), .eql => if P.eqGuardType P.depth t then none else (flat P 20 t).map fun l => .eqF false l x y
    | some (.struct _), .neq | some (.array _ _), .neq => if P.eqGuardType P.depth t then none else (flat P 20 t).map fun l => .eqF true l x y
    | some d, .eql => (eqKind d).map fun k => .eq false (isLit x || isLit y) k x y
    | some d, .neq => (eqKind d).map fun k => .eq true (isLit x || isLit y) k x y
    | _, _ => none
  | .unOp op _ x => some (.un op x)
  | .convert src dst x =>
    match P.underlying src, P.underlying dst with
    | some (.int _), some (.int k) => some (.cvInt k x)
    | some .string, some .string => some (.cvStr x)
    | some .string, some (.slice e) => match P.underlying e with
      | some (.int .u8) => if szOf P e = some 1 then some (.cvS2B e x) else none
      | _ => none
    | some (.slice e), some .string => match P.underlying e with
      | some (.int .u8) => some (.cvB2S x)
      | _ => none
    | _, _ => none
  | .makeInterface t x => match P.underlying t with
    | some (.interface _) => none
    | some _ => some (.mkI t x)
    | none => none
  | .makeFunc (.func f) first captured => some (.mkF f first.toList captured.toList)
  | .makeSlice t l c => match P.underlying t with
    | some (.slice elem) => do let s ← szOf P elem; let b ← bytesOf P elem; let z ← zeroOf P elem; some (.mkS elem s b z l c)
    | _ => none
  | .slice t x lo hi mx => match P.underlying t with
    | some (.array n elem) => (szOf P elem).map fun s => .sliceA n s x lo hi mx
    | some .string => if mx.isSome then none else some (.sliceS x lo hi)
    | some (.slice elem) => (szOf P elem).map fun s => .sliceV s x lo hi mx
    | _ => none
  | .fieldAddr t x f => match P.underlying t with
    | some (.struct fields) => do let g ← fields[f]?; let s ← szOf P g.type; if s = 0 then none else some (.faddr g.offset x)
    | _ => none
  | .field t x f => match P.underlying t with
    | some (.struct fields) => do let g ← fields[f]?; let s ← szOf P g.type; let a ← aggOf P g.type; some (if a then .fldN g.offset s x else .fld1 g.offset x)
    | _ => none
  | .indexAddr t x i => match P.underlying t with
    | some (.array n elem) => (szOf P elem).map fun s => .iaddrA n s x i
    | some (.slice elem) => (szOf P elem).map fun s => .iaddrS s x i
    | _ => none
  | .index t x i => match P.underlying t with
    | some (.array n elem) => do let s ← szOf P elem; let a ← aggOf P elem; some (if a then .idxN n s x i else .idx1 n s x i)
    | some .string => some (.idxS x i)
    | _ => none
  | .extract x i => some (.ext x i)
  | .call { callee := .builtin .len, args, argTypes } =>
    match argTypes[0]?, args[0]? with
    | some t, some x => match P.underlying t with
      | some .string => some (.lenS x)
      | some (.slice _) => some (.lenV x)
      | some (.array n _) => some (.lenC n)
      | some (.pointer a) => match P.underlying a with | some (.array n _) => some (.lenC n) | _ => none
      | _ => none
    | _, _ => none
  | .call { callee := .builtin .append, args, argTypes } =>
    match argTypes.toList, args.toList with
    | [t, u], [s, x] => match P.underlying t, P.underlying u with
      | some (.slice elem), some d => if isIntD d then none else do
          let z ← szOf P elem; let b ← bytesOf P elem; let zz ← zeroOf P elem
          if zz.length = z then some (.append elem z b s x) else none
      | _, _ => none
    | _, _ => none
  | .call { callee := .builtin .copy, args, argTypes } =>
    match argTypes[0]?, args[0]?, args[1]? with
    | some t, some d, some s => match P.underlying t with
      | some (.slice elem) => (szOf P elem).map fun z => .copy z d s
      | _ => none
    | _, _, _ => none
  | .makeMap t r => match P.underlying t with
    | some (.map kt _) => match P.underlying kt with
      | some (.int .i64) => some (.mkMap r)
      | _ => none
    | _ => none
  | .mapUpdate t m k x => match P.underlying t with
    | some (.map kt _) => match P.underlying kt with
      | some (.int kk) => some (.mapPut kk m k x)
      | _ => none
    | _ => none
  | .insert t m k x => match P.underlying t with
    | some (.map kt _) => match P.underlying kt with
      | some (.int kk) => some (.mapPut kk m k x)
      | _ => none
    | _ => none
  | .lookup t m k ok => match P.underlying t with
    | some (.map kt et) => match P.underlying kt with
      | some (.int kk) => match (P.info? et).bind (·.zero) with
        | some z => if plainV z then some (.mapGet kk ok z m k) else none
        | none => none
      | _ => none
    | _ => none
  | .call { callee := .builtin .delete, args, argTypes } =>
    match argTypes[0]?, args[0]?, args[1]? with
    | some t, some m, some k => match P.underlying t with
      | some (.map kt _) => match P.underlying kt with
        | some (.int kk) => some (.mapDel kk m k)
        | _ => none
      | _ => none
    | _, _, _ => none
  | .call { callee := .builtin .clear, args, argTypes } =>
    match argTypes[0]?, args[0]? with
    | some t, some s => match P.underlying t with
      | some (.slice elem) => (zeroOf P elem).map fun z => .clear z s
      | _ => none
    | _, _ => none
  | .call { callee := .builtin .min, args, .. } => some (.min args.toList)
  | .call { callee := .builtin .max, args, .. } => some (.max args.toList)
  | .call { callee := .value (.func f), args, .. } =>
    match P.funcs[f]? with
    | some fn => if fn.name == "runtime.NumGoroutine" || fn.body.isNone then none else some (.call f args.toList)
    | none => none
  | .call { callee := .value f, args, .. } => some (.callv f args.toList)
  | _ => none

end Go.AS
