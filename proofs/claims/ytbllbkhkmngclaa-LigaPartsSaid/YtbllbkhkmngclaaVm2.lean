/-
  The abstract machine, part 2: what an operation does to the abstract state: 'aFun' (it only computes, or reads), 'aVal' (all of them).
-/
import Derived.Test.YtbllbkhkmngclaaVm1
namespace Go.Vm
open Go Go.RowKit

inductive O where
  | s (t : Nat)
  | c (x : S)
  deriving Inhabited
def O.ev (env : Env) : O → S
  | .s t => env.get t
  | .c x => x

def S.okv : S → Bool
  | .dead | .tup _ => false
  | .pure v => !v.cells.isEmpty
  | .agg cs => !cs.isEmpty
  | _ => true
def S.allPure : List S → Option (List V)
  | [] => some []
  | .pure v :: r => match S.allPure r with
    | some vs => some (v :: vs)
    | none => none
  | _ :: _ => none
def S.mkAgg (ss : List S) : S := match S.allPure ss with
  | some vs => .pure (.agg vs)
  | none => .agg ss
/-- 'e' with the cells of 's' from cell 'off' on. -/
def S.put (e : S) (off : Nat) (s : S) : S :=
  if e.isCell = true then (match s.cells with | [c] => c | _ => .dead)
  else if off = 0 ∧ s.isCell = false ∧ s.cells.length = e.cells.length then s
  else S.mkAgg (e.cells.take off ++ s.cells ++ e.cells.drop (off + s.cells.length))

/-- reading a part of an element -/
def partF (agg : Bool) (n : Nat) (e : S) (off : Nat) : Option S :=
  if agg = true then
    (if off = 0 ∧ n = e.cells.length ∧ e.isCell = false then some e
     else if off + n ≤ e.cells.length then some (S.mkAgg ((e.cells.drop off).take n)) else none)
  else e.cells[off]?

/-- what kind of thing a cell is that is held against another one -/
inductive CK where
  | i | b | s
  deriving DecidableEq, Inhabited
inductive AOp where
  | mov (x : O)
  | pick (c x y : O)
  | build (zero : List S) (parts : List (Nat × Nat × O))
  | load (agg : Bool) (n : Nat) (x : O)
  | nilck (x : O)
  | bin (op : BinOp) (x y : O)
  | eqb (neg : Bool) (x y : O)
  | eqv (neg : Bool) (ks : List CK) (x y : O)
  | un (op : UnOp) (x : O)
  | conv (k : IntKind) (x : O)
  | mkfn (fn : Fn) (first captured : List O)
  | slc (size : Nat) (x : O) (lo hi mx : Option O)
  | fld (agg : Bool) (off n : Nat) (x : O)
  | fldA (off : Nat) (x : O)
  | idxA (size : Nat) (x i : O)
  | idxAA (len size : Nat) (x i : O)
  | idxV (agg : Bool) (len size : Nat) (x i : O)
  | idxS (x i : O)
  | ext (i : Nat) (x : O)
  | len (x : O)
  | lenS (x : O)
  | slnil (neg : Bool) (x : O)
  | mx (x y : O)
  | mn (x y : O)
  | box (x : O)
  | bslice (size : Nat) (parts : List O)
  | mksl (size bytes : Nat) (z : S) (x y : O)
  | store (n : Nat) (x v : O)
  | app (size bytes : Nat) (x y : O)
  | call (f : Nat) (args : List O)
  | callv (fv : O) (args : List O)
  deriving Inhabited

/-- What a step of the machine has made of memory. -/
structure Step (w : World) (μ : Mu) (H : Heap) (w' : World) (μ' : Mu) (H' : Heap) (v : Value) (s : S) : Prop where
  heap : HRep w' μ' H'
  val : Rep w' (excl μ' H') μ' v s
  ext : ∀ (b : Nat) (l : Loc), μ b = some l → μ' b = some l
  xo : μ'.xo = μ.xo
  fr : Fr (owned μ H) w w'
  own : ∀ k, owned μ' H' k → owned μ H k ∨ w.heap.size ≤ k

/-- A call of function 'f': whatever memory represents the abstract one. -/
def CallA (P : Program) (f : Nat) (args : List S) (H : Heap) (K : S → Heap → Prop) : Prop :=
  (∃ fn, P.funcs[f]? = some fn ∧ (fn.name == "runtime.NumGoroutine") = false ∧ fn.body.isNone = false) ∧
  ∀ (w : World) (μ : Mu) (cargs : Array Value), HRep w μ H → cargs.size = args.length →
    (∀ i, i < args.length → Rep w (excl μ H) μ (cargs.getD i undef) (args.getD i .dead)) →
    Calls P f cargs w fun e w' => ∃ v s H' μ', e = .returned v ∧ K s H' ∧ Step w μ H w' μ' H' v s

/-- the value of an integer's operation -/
def intF (op : BinOp) (k : IntKind) (a b : Int) : Option V :=
  match op with
  | .add => some (.int k (k.wrap (a + b)))
  | .sub => some (.int k (k.wrap (a - b)))
  | .mul => some (.int k (k.wrap (a * b)))
  | .quo => if b = 0 then none else some (.int k (k.wrap (a.tdiv b)))
  | .rem => if b = 0 then none else some (.int k (a.tmod b))
  | .and => some (.int k (k.wrap (BitVec.ofInt k.bits a &&& BitVec.ofInt k.bits b).toNat))
  | .or => some (.int k (k.wrap (BitVec.ofInt k.bits a ||| BitVec.ofInt k.bits b).toNat))
  | .xor => some (.int k (k.wrap (BitVec.ofInt k.bits a ^^^ BitVec.ofInt k.bits b).toNat))
  | .andNot => some (.int k (k.wrap (BitVec.ofInt k.bits a &&& ~~~BitVec.ofInt k.bits b).toNat))
  | .eql => some (.bool (a == b))
  | .neq => some (.bool (a != b))
  | .lss => some (.bool (decide (a < b)))
  | .leq => some (.bool (decide (a ≤ b)))
  | .gtr => some (.bool (decide (a > b)))
  | .geq => some (.bool (decide (a ≥ b)))
  | .shl => if b < 0 then none else some (.int k (k.wrap (a * 2 ^ (min b.toNat k.bits))))
  | .shr => if b < 0 then none else some (.int k (a.fdiv (2 ^ (min b.toNat k.bits))))
def isShift : BinOp → Bool
  | .shl | .shr => true
  | _ => false

def V.eqb : CK → V → V → Option Bool
  | .i, .int k a, .int k' b => if k = k' then some (a == b) else none
  | .b, .bool a, .bool b => some (a == b)
  | .s, .str a, .str b => some (a == b)
  | _, _, _ => none
def V.eqs : List CK → List V → List V → Option Bool
  | [], [], [] => some true
  | k :: ks, a :: r, b :: t => match V.eqb k a b, V.eqs ks r t with
    | some x, some y => some (x && y)
    | _, _ => none
  | _, _, _ => none

/-- a bound of a slice expression -/
def optInt (env : Env) (d : Nat) : Option O → Option Int
  | none => some d
  | some o => match o.ev env with
    | .pure (.int _ n) => some n
    | _ => none

/-- the parts of a value that is built -/
def fillA (env : Env) : List S → List (Nat × Nat × O) → Option (List S)
  | cs, [] => some cs
  | cs, (off, n, o) :: r =>
    if (o.ev env).okv = true ∧ (o.ev env).cells.length = n ∧ off + n ≤ cs.length then fillA env (cs.take off ++ (o.ev env).cells ++ cs.drop (off + n)) r else none

/-- the row under a name, if it can be read -/
def rowAt (H : Heap) (b : Nat) : Option Row := match H[b]? with
  | some r => if r.st = .dead then none else some r
  | none => none

/-- What an operation yields that only computes or reads. -/
def aFun (env : Env) (H : Heap) : AOp → Option S
  | .mov x => some (x.ev env)
  | .pick c x y => match c.ev env with
    | .pure (.bool t) => if t = true then some (x.ev env) else some (y.ev env)
    | _ => none
  | .build zero parts => match fillA env zero parts with
    | some cs => some (S.mkAgg cs)
    | none => none
  | .load agg n x => match x.ev env with
    | .ptr b i off => match rowAt H b with
      | some r => match r.es[i]? with
        | some e => partF agg n e off
        | none => none
      | none => none
    | .pptr v off => partF agg n (.pure v) off
    | _ => none
  | .nilck x => match x.ev env with
    | .ptr b i off => some (.ptr b i off)
    | .pptr v off => some (.pptr v off)
    | .pure (.func (.func f) a c) => some (.pure (.func (.func f) a c))
    | .func (.func f) a c => some (.func (.func f) a c)
    | _ => none
  | .bin op x y => match x.ev env, y.ev env with
    | .pure (.int k a), .pure (.int k' b) => if isShift op = true ∨ k = k' then (intF op k a b).map .pure else none
    | _, _ => none
  | .eqb neg x y => match x.ev env, y.ev env with
    | .pure (.bool a), .pure (.bool b) => some (.pure (.bool (if neg then a != b else a == b)))
    | _, _ => none
  | .eqv neg ks x y => match x.ev env, y.ev env with
    | .pure a, .pure b => if a.isCell = false ∧ b.isCell = false then (V.eqs ks a.cells b.cells).map fun r => .pure (.bool (if neg then !r else r)) else none
    | _, _ => none
  | .un op x => match op, x.ev env with
    | .not, .pure (.bool b) => some (.pure (.bool !b))
    | .neg, .pure (.int k n) => some (.pure (.int k (k.wrap (0 - n))))
    | _, _ => none
  | .conv k x => match x.ev env with
    | .pure (.int _ n) => some (.pure (.int k (k.wrap n)))
    | _ => none
  | .mkfn fn f c => some (.func fn (f.map (·.ev env)) (c.map (·.ev env)))
  | .slc size x lo hi mx => match x.ev env with
    | .empty => match optInt env 0 lo, optInt env 0 hi, optInt env 0 mx with
      | some l, some h, some m => if l = 0 ∧ h = 0 ∧ m = 0 then some .empty else none
      | _, _, _ => none
    | .pure (.sl es) => match optInt env 0 lo, optInt env es.length hi, optInt env es.length mx with
      | some l, some h, some m => if 0 ≤ l ∧ l ≤ h ∧ h ≤ m ∧ m ≤ es.length ∧ (∀ e ∈ es, e.cells.length = size) then
          (if mx.isSome = true ∧ l = m then some .empty else some (.pure (.sl ((es.take h.toNat).drop l.toNat)))) else none
      | _, _, _ => none
    | .rsl b off len => match optInt env 0 lo, optInt env len hi, rowAt H b with
      | some l, some h, some r => if mx.isNone = true ∧ r.size = size ∧ 0 ≤ l ∧ l ≤ h ∧ h ≤ len then some (.rsl b (off + l.toNat) (h - l).toNat) else none
      | _, _, _ => none
    | _ => none
  | .fld agg off n x => if (x.ev env).isCell = false ∧ (x.ev env).okv = true then partF agg n (x.ev env) off else none
  | .fldA off x => match x.ev env with
    | .ptr b i o => some (.ptr b i (o + off))
    | .pptr v o => some (.pptr v (o + off))
    | _ => none
  | .idxA size x i => match x.ev env, i.ev env with
    | .pure (.sl es), .pure (.int _ n) => if 0 ≤ n then (match es[n.toNat]? with
      | some e => if e.cells.length = size then some (.pptr e 0) else none
      | none => none) else none
    | .rsl b off len, .pure (.int _ n) => if 0 ≤ n ∧ n < len then (match rowAt H b with
      | some r => if r.size = size then some (.ptr b (off + n.toNat) 0) else none
      | none => none) else none
    | _, _ => none
  | .idxAA len size x i => match x.ev env, i.ev env with
    | .ptr b e o, .pure (.int _ n) => if 0 ≤ n ∧ n < len then some (.ptr b e (o + n.toNat * size)) else none
    | .pptr v o, .pure (.int _ n) => if 0 ≤ n ∧ n < len then some (.pptr v (o + n.toNat * size)) else none
    | _, _ => none
  | .idxV agg len size x i => match i.ev env with
    | .pure (.int _ n) => if 0 ≤ n ∧ n < len ∧ (x.ev env).isCell = false ∧ (x.ev env).okv = true then partF agg size (x.ev env) (n.toNat * size) else none
    | _ => none
  | .idxS x i => match x.ev env, i.ev env with
    | .pure (.str s), .pure (.int _ n) => if 0 ≤ n then (s[n.toNat]?).map fun b => .pure (.int .u8 b.toNat) else none
    | _, _ => none
  | .ext i x => match x.ev env with
    | .tup ss => ss[i]?
    | _ => none
  | .len x => match x.ev env with
    | .empty => some (.pure (.int .i64 0))
    | .pure (.sl es) => some (.pure (.int .i64 es.length))
    | .rsl _ _ n => some (.pure (.int .i64 n))
    | _ => none
  | .lenS x => match x.ev env with
    | .pure (.str s) => some (.pure (.int .i64 s.length))
    | _ => none
  | .mx x y => match x.ev env, y.ev env with
    | .pure (.int k a), .pure (.int k' b) => if k = k' then some (.pure (.int k (if b > a then b else a))) else none
    | _, _ => none
  | .mn x y => match x.ev env, y.ev env with
    | .pure (.int k a), .pure (.int k' b) => if k = k' then some (.pure (.int k (if b < a then b else a))) else none
    | _, _ => none
  | _ => none

/-- the elements that an append takes over -/
def srcOf (H : Heap) (size : Nat) : S → Option (List S)
  | .empty => some []
  | .pure (.sl es) => some (es.map .pure)
  | .rsl b off len => match rowAt H b with
    | some r => if r.size = size ∧ off + len ≤ r.es.length then some ((r.es.drop off).take len) else none
    | none => none
  | _ => none

/-- how long a slice is -/
def lenN : S → Option Nat
  | .empty => some 0
  | .pure (.sl es) => some es.length
  | .rsl _ _ n => some n
  | _ => none

def aVal (P : Program) (env : Env) (H : Heap) : AOp → (S → Heap → Prop) → Prop
  | .pick c x y, K => match c.ev env with
    | .pure (.bool t) => (t = true → K (x.ev env) H) ∧ (t = false → K (y.ev env) H)
    | _ => False
  | .len x, K => match x.ev env with
    | .empty => K (.pure (.int .i64 0)) H
    | .pure (.sl es) => es.length ≤ 9223372036854775807 → K (.pure (.int .i64 es.length)) H
    | .rsl _ _ n => n ≤ 9223372036854775807 → K (.pure (.int .i64 n)) H
    | _ => False
  | .lenS x, K => match x.ev env with
    | .pure (.str s) => s.length ≤ 9223372036854775807 → K (.pure (.int .i64 s.length)) H
    | _ => False
  | .slnil neg x, K => match lenN (x.ev env) with
    | some n => ∀ b : Bool, (n ≠ 0 → b = neg) → K (.pure (.bool b)) H
    | none => False
  | .box x, K => (x.ev env).okv = true ∧ K (.ptr H.length 0 0) (H ++ [⟨[x.ev env], (x.ev env).cells.length, .live⟩])
  | .bslice size parts, K => (∀ o ∈ parts, (o.ev env).okv = true ∧ (o.ev env).cells.length = size) ∧ K (.rsl H.length 0 parts.length) (H ++ [⟨parts.map (·.ev env), size, .live⟩])
  | .mksl size bytes z x y, K => match x.ev env, y.ev env with
    | .pure (.int _ n), .pure (.int _ c) => (0 ≤ n ∧ n ≤ c ∧ bytes * c.toNat ≤ 281474976710656 ∧ c.toNat ≤ maxLen) ∧ K (.rsl H.length 0 n.toNat) (H ++ [⟨List.replicate c.toNat z, size, .live⟩])
    | _, _ => False
  | .store n x v, K => match x.ev env with
    | .ptr b i off => match H[b]? with
      | some r => r.st = .live ∧ (match r.es[i]? with
        | some e => (v.ev env).okv = true ∧ (v.ev env).cells.length = n ∧ off + n ≤ e.cells.length ∧ K .dead (H.set b ⟨r.es.set i (e.put off (v.ev env)), r.size, .live⟩)
        | none => False)
      | none => False
    | _ => False
  | .app size bytes x y, K => match srcOf H size (y.ev env) with
    | none => False
    | some ys => (∀ e ∈ ys, e.cells.length = size) ∧ (match x.ev env with
      | .empty => ys.length * bytes ≤ 140737488355328 ∧ ys.length ≤ maxLen ∧ K (.rsl H.length 0 ys.length) (H ++ [⟨ys, size, .live⟩])
      | .rsl b off len => match H[b]? with
        | some r => r.st = .live ∧ r.size = size ∧ off + len ≤ r.es.length ∧ (len + ys.length) * bytes ≤ 140737488355328 ∧ len + ys.length ≤ maxLen ∧
            K (.rsl H.length 0 (len + ys.length)) (H.set b ⟨[], r.size, .dead⟩ ++ [⟨(r.es.drop off).take len ++ ys, size, .live⟩])
        | none => False
      | _ => False)
  | .call f args, K => CallA P f (args.map (·.ev env)) H K
  | .callv fv args, K => match fv.ev env with
    | .pure (.func (.func f) a c) => CallA P f (a.map .pure ++ args.map (·.ev env) ++ c.map .pure) H K
    | .func (.func f) a c => CallA P f (a ++ args.map (·.ev env) ++ c) H K
    | _ => False
  | op, K => match aFun env H op with
    | some s => K s H
    | none => False

structure AI where
  dst : Option Nat
  guard : Option (Nat × Bool)
  op : AOp
  deriving Inhabited

def putD (d : Option Nat) (s : S) (env : Env) : Env := match d with
  | some d => (d, s) :: env
  | none => env

def aIns (P : Program) (i : AI) (K : Env → Heap → Prop) (env : Env) (H : Heap) : Prop :=
  match i.guard with
  | none => aVal P env H i.op fun s H' => K (putD i.dst s env) H'
  | some (t, b) => match env.get t with
    | .pure (.bool c) => (c = b → aVal P env H i.op fun s H' => K (putD i.dst s env) H') ∧ (c = !b → K (putD i.dst (.tup []) env) H)
    | .tup [] => K (putD i.dst (.tup []) env) H
    | _ => False

def aOps (P : Program) : List AI → (Env → Heap → Prop) → Env → Heap → Prop
  | [], K => K
  | i :: is, K => aIns P i (aOps P is K)

end Go.Vm
