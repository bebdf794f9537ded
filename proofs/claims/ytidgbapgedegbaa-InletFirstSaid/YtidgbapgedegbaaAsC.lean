import Derived.Test.YtidgbapgedegbaaAsB
import GoSem.Op.Equal
namespace Go.AS
open Go
set_option linter.unusedSimpArgs false
set_option linter.unusedVariables false

/-! ## What an operation gives, in our memory -/

def ev (e : Env) : Operand → Value
  | .tmp t => e.rd t
  | .const v => v
  | .func f => .func (.func f) #[] #[]
  | .global _ => undef

/-- A value that names no memory, of one cell. -/
def plain0 : Value → Bool
  | .bool _ | .int _ _ | .float _ _ | .string _ | .pointer none | .slice none 0 0 | .map none | .nilFunc | .nilIface => true
  | .func (.func _) ⟨[]⟩ ⟨[]⟩ => true
  | _ => false

def plain1 : Value → Bool
  | .iface _ v => plain0 v
  | v => plain0 v

def plainV : Value → Bool
  | .agg ⟨cs⟩ => cs.all plain1
  | .tuple ⟨cs⟩ => cs.all plain1
  | .iface _ (.agg ⟨cs⟩) => cs.all plain1
  | v => plain1 v

def okOp : Operand → Bool
  | .const v => plainV v
  | .global _ => false
  | _ => true

/-- A value that lies in one cell. -/
def oneCell : Value → Bool
  | .agg _ | .tuple _ => false
  | _ => true

def lay (cs : List Value) (off : Nat) : List Value → List Value
  | [] => cs
  | v :: r => lay (cs.set off v) (off + 1) r

def fillA (place : Nat → Option (Nat × Nat)) (cells : List Value) : List (Nat × Value) → Option (List Value)
  | [] => some cells
  | (i, v) :: rest =>
    match place i with
    | none => none
    | some (off, size) =>
      if (cl v).length ≠ size || off + (cl v).length > cells.length then none
      else fillA place (lay cells off (cl v)) rest

def fillP (cells : List Value) : List (Nat × Nat × Value) → Option (List Value)
  | [] => some cells
  | (off, size, v) :: rest =>
    if (cl v).length ≠ size || off + (cl v).length > cells.length then none
    else fillP (lay cells off (cl v)) rest

def binA (op : BinOp) (x y : Value) : Option Value :=
  match x, y with
  | .int k a, .int k' b =>
    match op with
    | .shl => if b < 0 then none else some (.int k (k.wrap (a * 2 ^ (min b.toNat k.bits))))
    | .shr => if b < 0 then none else some (.int k (a.fdiv (2 ^ (min b.toNat k.bits))))
    | _ =>
      if k ≠ k' then none else
      match op with
      | .add => some (.int k (k.wrap (a + b)))
      | .sub => some (.int k (k.wrap (a - b)))
      | .mul => some (.int k (k.wrap (a * b)))
      | .quo => if b = 0 then none else some (.int k (k.wrap (a.tdiv b)))
      | .rem => if b = 0 then none else some (.int k (a.tmod b))
      | .and => some (.int k (k.wrap (BitVec.ofInt k.bits a &&& BitVec.ofInt k.bits b).toNat))
      | .or => some (.int k (k.wrap (BitVec.ofInt k.bits a ||| BitVec.ofInt k.bits b).toNat))
      | .xor => some (.int k (k.wrap (BitVec.ofInt k.bits a ^^^ BitVec.ofInt k.bits b).toNat))
      | .andNot => some (.int k (k.wrap (BitVec.ofInt k.bits a &&& ~~~ BitVec.ofInt k.bits b).toNat))
      | .eql => some (.bool (a == b))
      | .neq => some (.bool (a != b))
      | .lss => some (.bool (decide (a < b)))
      | .leq => some (.bool (decide (a ≤ b)))
      | .gtr => some (.bool (decide (a > b)))
      | .geq => some (.bool (decide (a ≥ b)))
      | _ => none
  | .string a, .string b =>
    match op with
    | .add => if ((a.data.toList.length + b.data.toList.length : Nat) : Int) > IntKind.i64.max then none else some (.string ⟨⟨a.data.toList ++ b.data.toList⟩⟩)
    | .eql => some (.bool (a.data.toList == b.data.toList))
    | .neq => some (.bool (!(a.data.toList == b.data.toList)))
    | .lss => some (.bool (Op.bytesLess a.data.toList b.data.toList))
    | .leq => some (.bool (Op.bytesLess a.data.toList b.data.toList || a.data.toList == b.data.toList))
    | .gtr => some (.bool (!(Op.bytesLess a.data.toList b.data.toList || a.data.toList == b.data.toList)))
    | .geq => some (.bool (!(Op.bytesLess a.data.toList b.data.toList)))
    | _ => none
  | _, _ => none

def unA (op : UnOp) (x : Value) : Option Value :=
  match op, x with
  | .neg, .int k n => some (.int k (k.wrap (0 - n)))
  | .xor, .int k n => some (.int k (k.wrap (BitVec.ofInt k.bits (if k.signed then -1 else k.max) ^^^ BitVec.ofInt k.bits n).toNat))
  | .not, .bool b => some (.bool !b)
  | _, _ => none

/-- Two values compared without a look at memory: against nil, or bools; lit: one of them is written out. -/
def eqA (lit : Bool) : EqK → Value → Value → Option Bool
  | .bool, .bool a, .bool b => some (a == b)
  | .ptr, .pointer none, .pointer b => some b.isNone
  | .ptr, .pointer (some _), .pointer none => some false
  | .slice, .slice none _ _, .slice b _ _ => some b.isNone
  | .slice, .slice (some _) _ _, .slice none _ _ => some false
  | .map, .map none, .map b => some b.isNone
  | .map, .map (some _), .map none => some false
  | .func, .nilFunc, .nilFunc => some true
  | .func, .nilFunc, .func _ _ _ => some false
  | .func, .func _ _ _, .nilFunc => some false
  | .iface, .nilIface, .iface _ _ => some false
  | .iface, .iface _ _, .nilIface => some false
  | .iface, .nilIface, .nilIface => if lit then some true else none
  | _, _, _ => none

def leafEq : LeafK → Option Value → Option Value → Option Bool
  | .b, some (.bool a), some (.bool b) => some (a == b)
  | .i, some (.int k a), some (.int k' b) => if k = k' then some (a == b) else none
  | .s, some (.string a), some (.string b) => some (a.data.toList == b.data.toList)
  | _, _, _ => none

/-- Two structs or arrays compared cell by cell. -/
def eqL : List (Nat × LeafK) → List Value → List Value → Option Bool
  | [], _, _ => some true
  | (o, k) :: r, xs, ys => match leafEq k xs[o]? ys[o]?, eqL r xs ys with
    | some a, some b => some (a && b)
    | _, _ => none

def rdCells (A : AHeap) (b o n : Nat) : Option (List Value) :=
  match A.get b with
  | some (.cells cs _ _) => if o + n ≤ cs.length then some ((cs.drop o).take n) else none
  | _ => none

def rdCell (A : AHeap) (b o : Nat) : Option Value :=
  match A.get b with
  | some (.cells cs _ _) => cs[o]?
  | _ => none

def wrCells (A : AHeap) (b o : Nat) (vs : List Value) : Option AHeap :=
  match A.get b with
  | some (.cells cs false opn) => if o + vs.length ≤ cs.length && vs.all oneCell then some (A.set b (.cells (lay cs o vs) false opn)) else none
  | _ => none

def lenA : Value → Option Nat
  | .slice _ n _ => some n
  | .string s => some s.data.toList.length
  | _ => none

/-- The first n elements' cells. -/
def firstA (A : AHeap) (size n : Nat) : Value → Option (List Value)
  | .slice none _ _ => some []
  | .slice (some ⟨b, o, none⟩) _ c => if n * size = 0 then some [] else if c = ENDCAP then none else rdCells A b o (n * size)
  | .string s => some ((s.data.toList.take n).map fun b => .int .u8 b.toNat)
  | _ => none

def idxA : Value → Option Int
  | .int _ n => some n
  | _ => none

/-- A bound of a slice expression. -/
def bnd (x : Value) (y : Nat) : Option Nat :=
  match x with
  | .int _ i => if 0 ≤ i ∧ i ≤ y then some i.toNat else none
  | _ => none

def bndsA (len cap : Nat) (lo hi mx : Option Value) : Option (Nat × Nat × Nat) :=
  match (match mx with | some v => bnd v cap | none => some cap) with
  | none => none
  | some m =>
    match (match hi, mx with
      | some v, _ => bnd v m
      | none, none => some len
      | none, some _ => none) with
    | none => none
    | some h =>
      match (match lo with | some v => bnd v h | none => some 0) with
      | none => none
      | some l => some (l, h, m)

def sliceSA (x : Value) (lo hi : Option Value) : Option Value :=
  match x with
  | .string s =>
    match bndsA s.data.toList.length s.data.toList.length lo hi none with
    | some (l, h, _) => some (.string ⟨⟨(s.data.toList.drop l).take (h - l)⟩⟩)
    | none => none
  | _ => none

/-- A slice of a slice: with a capacity that is known, or left open (then no further than what is there). -/
def sliceVA (A : AHeap) (size : Nat) (x : Value) (lo hi mx : Option Value) : Option Value :=
  match x with
  | .slice none len cap =>
    match bndsA len cap lo hi mx with
    | some (l, h, m) => some (.slice none (h - l) (m - l))
    | none => none
  | .slice (some ⟨b, o, none⟩) len cap =>
    if cap = OPEN then
      match A.get b with
      | some (.cells cs _ opn) =>
        if opn = 0 || opn != size then none else
        match mx with
        | some _ =>
          match bndsA len len lo hi mx with
          | some (l, h, m) => if OPEN ≤ m - l then none else some (.slice (some ⟨b, if m = l then o else o + l * size, none⟩) (h - l) (m - l))
          | none => none
        | none =>
          match bndsA len len lo hi none with
          | some (l, h, _) => if l = 0 || o + l * size < cs.length then some (.slice (some ⟨b, o + l * size, none⟩) (h - l) OPEN)
            else if h = l && o + l * size = cs.length then some (.slice (some ⟨b, o + l * size, none⟩) 0 ENDCAP) else none
          | none => none
      | _ => none
    else if cap = ENDCAP then
      match mx with
      | none => match bndsA 0 0 lo hi none with
        | some _ => if len = 0 then some (.slice (some ⟨b, o, none⟩) 0 ENDCAP) else none
        | none => none
      | some _ => match bndsA 0 0 lo hi mx with
        | some _ => if len = 0 then some (.slice (some ⟨b, o, none⟩) 0 ENDCAP) else none
        | none => none
    else if OPEN ≤ cap then none
    else
      match bndsA len cap lo hi mx with
      | some (l, h, m) => if OPEN ≤ m - l then none else some (.slice (some ⟨b, if m = l then o else o + l * size, none⟩) (h - l) (m - l))
      | none => none
  | _ => none

def sliceAA (n size : Nat) (x : Value) (lo hi mx : Option Value) : Option Value :=
  match x with
  | .pointer (some ⟨b, o, none⟩) =>
    match bndsA n n lo hi mx with
    | some (l, h, m) => if OPEN ≤ m - l then none else some (.slice (some ⟨b, if m = l then o else o + l * size, none⟩) (h - l) (m - l))
    | none => none
  | _ => none

def minV : Value → Value → Option Value
  | .int k x, .int _ y => some (.int k (if y < x then y else x))
  | _, _ => none
def maxV : Value → Value → Option Value
  | .int k x, .int _ y => some (.int k (if y > x then y else x))
  | _, _ => none
def foldV (f : Value → Value → Option Value) : Value → List Value → Option Value
  | x, [] => some x
  | x, y :: r => match f x y with | some z => foldV f z r | none => none

/-- What costs no more than a machine bears. -/
def fitsA (need bytes : Nat) : Bool := decide (need ≤ 4294967296) && decide (bytes ≤ 8192)

/-- Where a key stands. -/
def findE (n : Int) : List (Int × Value × Nat) → Nat → Option (Nat × Value)
  | [], _ => none
  | e :: es, i => if n == e.1 then some (i, e.2.1) else findE n es (i + 1)

def getRes (ok : Bool) (v : Value) (b : Bool) : Value := if ok then .tuple ⟨[v, .bool b]⟩ else v

/-- Operations that look at memory at most. -/
def qop (e : Env) (A : AHeap) : AOp → Option Value
  | .mov x => some (ev e x)
  | .pick c a b => match ev e c with | .bool t => some (if t then ev e a else ev e b) | _ => none
  | .build zero parts => (fillP zero (parts.map fun p => (p.1, p.2.1, ev e p.2.2))).map fun cs => .agg ⟨cs⟩
  | .load1 a => match ev e a with | .pointer (some ⟨b, o, none⟩) => rdCell A b o | _ => none
  | .loadN n a => match ev e a with | .pointer (some ⟨b, o, none⟩) => if n = 0 then some (.agg #[]) else (rdCells A b o n).map fun cs => .agg ⟨cs⟩ | _ => none
  | .nilchk x => match ev e x with
    | .pointer (some a) => some (.pointer (some a))
    | .func (.func f) c d => some (.func (.func f) c d)
    | .func (.yield f) c d => some (.func (.yield f) c d)
    | _ => none
  | .bin op x y => binA op (ev e x) (ev e y)
  | .eq neg lit k x y => (eqA lit k (ev e x) (ev e y)).map fun b => .bool (if neg then !b else b)
  | .eqF neg l x y => match ev e x, ev e y with
    | .agg xs, .agg ys => (eqL l xs.toList ys.toList).map fun b => .bool (if neg then !b else b)
    | _, _ => none
  | .un op x => unA op (ev e x)
  | .cvInt k x => match ev e x with | .int _ n => some (.int k (k.wrap n)) | _ => none
  | .cvStr x => match ev e x with | .string s => some (.string s) | _ => none
  | .cvB2S x => match ev e x with
    | .slice none 0 0 => some (.string ⟨⟨[]⟩⟩)
    | .slice a n c => match firstA A 1 n (.slice a n c) with
      | some cs => if cs.all (fun v => match v with | .int .u8 _ => true | _ => false) then some (.string ⟨⟨cs.map fun v => match v with | .int _ n => UInt8.ofNat n.toNat | _ => 0⟩⟩) else none
      | none => none
    | _ => none
  | .mkI t x => some (.iface t (ev e x))
  | .mkF f first captured => some (.func (.func f) ⟨first.map (ev e)⟩ ⟨captured.map (ev e)⟩)
  | .sliceS x lo hi => sliceSA (ev e x) (lo.map (ev e)) (hi.map (ev e))
  | .sliceV size x lo hi mx => sliceVA A size (ev e x) (lo.map (ev e)) (hi.map (ev e)) (mx.map (ev e))
  | .sliceA n size x lo hi mx => sliceAA n size (ev e x) (lo.map (ev e)) (hi.map (ev e)) (mx.map (ev e))
  | .faddr off x => match ev e x with | .pointer (some ⟨b, o, none⟩) => some (.pointer (some ⟨b, o + off, none⟩)) | _ => none
  | .fld1 off x => match ev e x with | .agg cs => cs.toList[off]? | _ => none
  | .fldN off n x => match ev e x with | .agg cs => if off + n ≤ cs.toList.length then some (.agg ⟨(cs.toList.drop off).take n⟩) else none | _ => none
  | .iaddrA n size x i => match ev e x, idxA (ev e i) with
    | .pointer (some ⟨b, o, none⟩), some j => if 0 ≤ j ∧ j < n then some (.pointer (some ⟨b, o + j.toNat * size, none⟩)) else none
    | _, _ => none
  | .iaddrS size x i => match ev e x, idxA (ev e i) with
    | .slice (some ⟨b, o, none⟩) len _, some j => if 0 ≤ j ∧ j < len then some (.pointer (some ⟨b, o + j.toNat * size, none⟩)) else none
    | _, _ => none
  | .idx1 n size x i => match ev e x, idxA (ev e i) with
    | .agg cs, some j => if 0 ≤ j ∧ j < n then cs.toList[j.toNat * size]? else none
    | _, _ => none
  | .idxN n size x i => match ev e x, idxA (ev e i) with
    | .agg cs, some j => if 0 ≤ j ∧ j < n then (if j.toNat * size + size ≤ cs.toList.length then some (.agg ⟨(cs.toList.drop (j.toNat * size)).take size⟩) else none) else none
    | _, _ => none
  | .idxS x i => match ev e x, idxA (ev e i) with
    | .string s, some j => if 0 ≤ j then (s.data.toList[j.toNat]?).map fun b => .int .u8 b.toNat else none
    | _, _ => none
  | .ext x i => match ev e x with | .tuple vs => vs.toList[i]? | _ => none
  | .lenS x => match ev e x with | .string s => some (.int .i64 s.data.toList.length) | _ => none
  | .lenV x => match ev e x with | .slice _ n _ => some (.int .i64 n) | _ => none
  | .lenC n => some (.int .i64 n)
  | .mapGet kk ok zero m k => match ev e m, ev e k with
    | .map none, .int kj _ => if kj = kk then some (getRes ok zero false) else none
    | .map (some b), .int kj n => if kj = kk then match A.get b with
      | some (.map k2 es _) => if k2 = kk then match findE n es 0 with
        | some (_, v) => some (getRes ok v true)
        | none => some (getRes ok zero false)
        else none
      | _ => none
      else none
    | _, _ => none
  | .min (x :: xs) => foldV minV (ev e x) (xs.map (ev e))
  | .max (x :: xs) => foldV maxV (ev e x) (xs.map (ev e))
  | _ => none

def growA (A : AHeap) (size : Nat) (old new : List Value) (need : Nat) : Value × AHeap :=
  (.slice (some ⟨A.size, 0, none⟩) need OPEN, A.alloc (.cells (old ++ new) false size))

def isStr : Value → Bool
  | .string _ => true
  | _ => false

/-- append(s, x...) -/
def appA (A : AHeap) (size bytes : Nat) (s x : Value) : Option (Value × AHeap) :=
  match s, lenA x with
  | .slice base sLen sCap, some n =>
    if !(fitsA (sLen + n) bytes) || size = 0 || (isStr x && size != 1) then none else
    match firstA A size n x with
    | none => none
    | some new =>
      match base with
      | none => if n = 0 then some (.slice none 0 0, A) else (if new.all oneCell then some (growA A size [] new n) else none)
      | some ⟨b, o, none⟩ =>
        if n = 0 then some (.slice (some ⟨b, o, none⟩) sLen sCap, A)
        else if sCap < OPEN then
          if sLen + n ≤ sCap then (wrCells A b (o + sLen * size) new).map fun A' => (.slice (some ⟨b, o, none⟩) (sLen + n) sCap, A')
          else match firstA A size sLen (.slice (some ⟨b, o, none⟩) sLen sCap) with
            | some old => some (growA A size old new (sLen + n))
            | none => none
        else if sCap = OPEN then
          match A.get b with
          | some (.cells cs false opn) =>
            if opn != size then none else
            if o + (sLen + n) * size ≤ cs.length then (wrCells A b (o + sLen * size) new).map fun A' => (.slice (some ⟨b, o, none⟩) (sLen + n) OPEN, A')
            else if o + sLen * size = cs.length && new.all oneCell then
              some (growA (A.set b .dead) size (cs.drop o) new (sLen + n))
            else none
          | _ => none
        else if sCap = ENDCAP then
          match A.get b with
          | some (.cells cs false opn) =>
            if opn != size then none else
            if sLen = 0 && o = cs.length && new.all oneCell then some (growA (A.set b .dead) size (cs.drop o) new (sLen + n)) else none
          | _ => none
        else none
      | _ => none
  | _, _ => none

def rep (n : Nat) (zero : List Value) : List Value :=
  match n with
  | 0 => []
  | n + 1 => zero ++ rep n zero

/-- Operations that make or write memory: what they give, and the memory behind. -/
def lop (e : Env) (A : AHeap) : AOp → Option (Value × AHeap)
  | .alloc _ zero => some (.pointer (some ⟨A.size, 0, none⟩), A.alloc (.cells zero false 0))
  | .box _ n x => if (cl (ev e x)).length = n then some (.pointer (some ⟨A.size, 0, none⟩), A.alloc (.cells (cl (ev e x)) false 0)) else none
  | .bslice _ len zero parts => (fillP (rep len zero) (parts.map fun p => (p.1, p.2.1, ev e p.2.2))).map fun cs => (.slice (some ⟨A.size, 0, none⟩) len len, A.alloc (.cells cs false 0))
  | .store n a x => match ev e a with
    | .pointer (some ⟨b, o, none⟩) => if (cl (ev e x)).length = n then (if n = 0 then some (undef, A) else (wrCells A b o (cl (ev e x))).map fun A' => (undef, A')) else none
    | _ => none
  | .mkS _ size bytes zero l c => match ev e l, ev e c with
    | .int _ l, .int _ c => if 0 ≤ l ∧ l ≤ c ∧ c ≤ 4294967296 ∧ bytes ≤ 8192 ∧ zero.length = size then
        some (.slice (some ⟨A.size, 0, none⟩) l.toNat c.toNat, A.alloc (.cells (rep c.toNat zero) false 0)) else none
    | _, _ => none
  | .cvS2B _ x => match ev e x with
    | .string s => some (.slice (some ⟨A.size, 0, none⟩) s.data.toList.length OPEN, A.alloc (.cells (s.data.toList.map fun b => .int .u8 b.toNat) false 1))
    | _ => none
  | .append _ size bytes s x => appA A size bytes (ev e s) (ev e x)
  | .copy size d s => match ev e d, lenA (ev e s) with
    | .slice base dLen _, some m =>
      let n := min m dLen
      match firstA A size n (ev e s) with
      | some cs => if cs.isEmpty then some (.int .i64 n, A) else match base with
        | some ⟨b, o, none⟩ => (wrCells A b o cs).map fun A' => (.int .i64 n, A')
        | _ => none
      | none => none
    | _, _ => none
  | .clear zero s => match ev e s with
    | .slice none _ _ => some (undef, A)
    | .slice (some ⟨b, o, none⟩) n _ => if n = 0 then some (undef, A) else (wrCells A b o (rep n zero)).map fun A' => (undef, A')
    | _ => none
  | .mkMap r => if r.all (fun x => match ev e x with | .int _ _ => true | _ => false) then some (.map (some A.size), A.alloc (.map .i64 [] 0)) else none
  | .mapPut kk m k x => match ev e m, ev e k with
    | .map (some b), .int kj n => if kj = kk then match A.get b with
      | some (.map k2 es clock) => if k2 = kk then match findE n es 0 with
        | some (i, _) => some (undef, A.set b (.map kk (es.modify i fun y => (n, ev e x, y.2.2)) clock))
        | none => some (undef, A.set b (.map kk (es ++ [(n, ev e x, clock)]) (clock + 1)))
        else none
      | _ => none
      else none
    | _, _ => none
  | .mapDel kk m k => match ev e m, ev e k with
    | .map none, .int _ _ => some (undef, A)
    | .map (some b), .int kj n => if kj = kk then match A.get b with
      | some (.map k2 es clock) => if k2 = kk then match findE n es 0 with
        | some (i, _) => some (undef, A.set b (.map kk (es.eraseIdx i) clock))
        | none => some (undef, A.set b (.map kk es clock))
        else none
      | _ => none
      else none
    | _, _ => none
  | op => (qop e A op).map fun v => (v, A)

/-! ### Memory only grows -/
theorem wrCells_size {A A' : AHeap} {b o : Nat} {vs : List Value} (h : wrCells A b o vs = some A') : A'.size = A.size := by
  unfold wrCells at h
  split at h
  · split at h
    · cases h; rfl
    · cases h
  · cases h

theorem map_wr {A : AHeap} {r : Option AHeap} {f : AHeap → Value} {v : Value} {A' : AHeap} (h : (r.map fun A2 => (f A2, A2)) = some (v, A')) : r = some A' := by
  cases r with
  | none => cases h
  | some A2 => cases h; rfl

theorem appA_size {A A' : AHeap} {size bytes : Nat} {s x v : Value} (h : appA A size bytes s x = some (v, A')) : A.size ≤ A'.size := by
  unfold appA at h
  split at h
  · split at h
    · cases h
    · split at h
      · cases h
      · split at h
        · split at h
          · cases h; exact Nat.le_refl _
          · split at h
            · cases h; simp [AHeap.alloc]
            · cases h
        · split at h
          · cases h; exact Nat.le_refl _
          · split at h
            · split at h
              · have := wrCells_size (map_wr (A := A) h); omega
              · split at h
                · cases h; simp [AHeap.alloc]
                · cases h
            · split at h
              · split at h
                · split at h
                  · cases h
                  · split at h
                    · have := wrCells_size (map_wr (A := A) h); omega
                    · split at h
                      · cases h; simp [AHeap.alloc, AHeap.set]
                      · cases h
                · cases h
              · split at h
                · split at h
                  · split at h
                    · cases h
                    · split at h
                      · cases h; simp [AHeap.alloc, AHeap.set]
                      · cases h
                  · cases h
                · cases h
        · cases h
  · cases h

theorem lop_size {e : Env} {A A' : AHeap} {op : AOp} {v : Value} (h : lop e A op = some (v, A')) : A.size ≤ A'.size := by
  have quiet : ∀ (q : Option Value), (q.map fun v => (v, A)) = some (v, A') → A.size ≤ A'.size := by
    intro q hq
    cases q with
    | none => cases hq
    | some u => cases hq; exact Nat.le_refl _
  cases op with
  | alloc t z => cases h; simp [AHeap.alloc]
  | box t n x =>
    simp only [lop] at h
    split at h
    · cases h; simp [AHeap.alloc]
    · cases h
  | bslice t n z p =>
    simp only [lop] at h
    cases hf : fillP (rep n z) (p.map fun p => (p.1, p.2.1, ev e p.2.2)) with
    | none => rw [hf] at h; cases h
    | some cs => rw [hf] at h; cases h; simp [AHeap.alloc]
  | store n a x =>
    simp only [lop] at h
    split at h
    · split at h
      · split at h
        · cases h; exact Nat.le_refl _
        · have := wrCells_size (map_wr (A := A) h); omega
      · cases h
    · cases h
  | mkS t s b z l c =>
    simp only [lop] at h
    split at h
    · split at h
      · cases h; simp [AHeap.alloc]
      · cases h
    · cases h
  | cvS2B t x =>
    simp only [lop] at h
    split at h
    · cases h; simp [AHeap.alloc]
    · cases h
  | append t s b x y => exact appA_size h
  | copy s d x =>
    simp only [lop] at h
    split at h
    · split at h
      · split at h
        · cases h; exact Nat.le_refl _
        · split at h
          · have := wrCells_size (map_wr (A := A) h); omega
          · cases h
      · cases h
    · cases h
  | clear z s =>
    simp only [lop] at h
    split at h
    · cases h; exact Nat.le_refl _
    · split at h
      · cases h; exact Nat.le_refl _
      · have := wrCells_size (map_wr (A := A) h); omega
    · cases h
  | mkMap r =>
    simp only [lop] at h
    split at h
    · cases h; simp [AHeap.alloc]
    · cases h
  | mapPut kk m k x =>
    simp only [lop] at h
    (repeat' split at h) <;> first | (cases h; done) | (cases h; exact Nat.le_refl _)
  | mapDel kk m k =>
    simp only [lop] at h
    (repeat' split at h) <;> first | (cases h; done) | (cases h; exact Nat.le_refl _)
  | _ => simp only [lop] at h; exact quiet _ h

end Go.AS
