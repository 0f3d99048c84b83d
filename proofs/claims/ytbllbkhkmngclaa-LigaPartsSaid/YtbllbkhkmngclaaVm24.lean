/-
  The abstract machine, part 24: equations by which simp reckons values: each fires behind its operands.
-/
import Derived.Test.YtbllbkhkmngclaaVm23
namespace Go.Vm
open Go Go.RowKit

theorem ev_s {env : Env} {t : Nat} : O.ev env (.s t) = env.get t := rfl
theorem ev_c {env : Env} {x : S} : O.ev env (.c x) = x := rfl
theorem cells_agg {cs : List V} : (V.agg cs).cells = cs := rfl
theorem cells_int {k : IntKind} {n : Int} : (V.int k n).cells = [.int k n] := rfl
theorem cells_bool {b : Bool} : (V.bool b).cells = [.bool b] := rfl
theorem cells_str {s : List UInt8} : (V.str s).cells = [.str s] := rfl
theorem cells_sl {es : List V} : (V.sl es).cells = [.sl es] := rfl
theorem cells_func {f : Fn} {a c : List V} : (V.func f a c).cells = [.func f a c] := rfl
theorem cells_nilf : V.nilf.cells = [.nilf] := rfl
theorem cells_nilp : V.nilp.cells = [.nilp] := rfl
theorem isCell_agg {cs : List V} : (V.agg cs).isCell = false := rfl
theorem isCell_int {k : IntKind} {n : Int} : (V.int k n).isCell = true := rfl
theorem isCell_bool {b : Bool} : (V.bool b).isCell = true := rfl
theorem isCell_str {s : List UInt8} : (V.str s).isCell = true := rfl
theorem isCell_sl {es : List V} : (V.sl es).isCell = true := rfl
theorem isCell_func {f : Fn} {a c : List V} : (V.func f a c).isCell = true := rfl
theorem isCell_nilf : V.nilf.isCell = true := rfl
theorem isCell_nilp : V.nilp.isCell = true := rfl
theorem scells_pure {v : V} : (S.pure v).cells = v.cells.map .pure := rfl
theorem scells_agg {cs : List S} : (S.agg cs).cells = cs := rfl
theorem scells_empty : S.empty.cells = [.empty] := rfl
theorem scells_rsl {b o l : Nat} : (S.rsl b o l).cells = [.rsl b o l] := rfl
theorem scells_ptr {b o l : Nat} : (S.ptr b o l).cells = [.ptr b o l] := rfl
theorem scells_func {f : Fn} {a c : List S} : (S.func f a c).cells = [.func f a c] := rfl
theorem sisCell_pure {v : V} : (S.pure v).isCell = v.isCell := rfl
theorem sisCell_agg {cs : List S} : (S.agg cs).isCell = false := rfl
theorem sisCell_empty : S.empty.isCell = true := rfl
theorem sisCell_rsl {b o l : Nat} : (S.rsl b o l).isCell = true := rfl
theorem sisCell_ptr {b o l : Nat} : (S.ptr b o l).isCell = true := rfl
theorem sisCell_func {f : Fn} {a c : List S} : (S.func f a c).isCell = true := rfl
theorem okv_pure {v : V} : (S.pure v).okv = !v.cells.isEmpty := rfl
theorem okv_agg {cs : List S} : (S.agg cs).okv = !cs.isEmpty := rfl
theorem okv_empty : S.empty.okv = true := rfl
theorem okv_rsl {b o l : Nat} : (S.rsl b o l).okv = true := rfl
theorem okv_ptr {b o l : Nat} : (S.ptr b o l).okv = true := rfl
theorem okv_func {f : Fn} {a c : List S} : (S.func f a c).okv = true := rfl

/-! lists of slots as aggregates -/
def mkA (o : Option (List V)) (ss : List S) : S := match o with
  | some vs => .pure (.agg vs)
  | none => .agg ss
theorem mkAgg_eq {ss : List S} : S.mkAgg ss = mkA (S.allPure ss) ss := by
  unfold S.mkAgg mkA
  cases S.allPure ss <;> rfl
theorem mkA_some {vs : List V} {ss : List S} : mkA (some vs) ss = .pure (.agg vs) := rfl
theorem mkA_none {ss : List S} : mkA none ss = .agg ss := rfl
def consP (v : V) : Option (List V) → Option (List V)
  | some vs => some (v :: vs)
  | none => none
theorem allPure_nil : S.allPure [] = some [] := rfl
theorem allPure_pure {v : V} {r : List S} : S.allPure (.pure v :: r) = consP v (S.allPure r) := by
  simp only [S.allPure]
  cases S.allPure r <;> rfl
theorem allPure_empty {r : List S} : S.allPure (.empty :: r) = none := rfl
theorem allPure_rsl {b o l : Nat} {r : List S} : S.allPure (.rsl b o l :: r) = none := rfl
theorem allPure_ptr {b o l : Nat} {r : List S} : S.allPure (.ptr b o l :: r) = none := rfl
theorem allPure_func {f : Fn} {a c : List S} {r : List S} : S.allPure (.func f a c :: r) = none := rfl
theorem consP_some {v : V} {vs : List V} : consP v (some vs) = some (v :: vs) := rfl
theorem consP_none {v : V} : consP v none = none := rfl
theorem allPure_map {vs : List V} : S.allPure (vs.map .pure) = some vs := by
  induction vs with
  | nil => rfl
  | cons v r ih => rw [List.map_cons, allPure_pure, ih]; rfl

def one (l : List S) : S := match l with
  | [c] => c
  | _ => .dead
theorem one_one {c : S} : one [c] = c := rfl
theorem put_eq {e s : S} {off : Nat} : e.put off s = if e.isCell = true then one s.cells else if off = 0 ∧ s.isCell = false ∧ s.cells.length = e.cells.length then s else S.mkAgg (e.cells.take off ++ s.cells ++ e.cells.drop (off + s.cells.length)) := by
  unfold S.put one
  split
  · rcases s.cells with _ | ⟨a, _ | ⟨b, q⟩⟩ <;> rfl
  · rfl
theorem partF_false {n off : Nat} {e : S} : partF false n e off = e.cells[off]? := rfl
theorem partF_true {n off : Nat} {e : S} : partF true n e off = if off = 0 ∧ n = e.cells.length ∧ e.isCell = false then some e else if off + n ≤ e.cells.length then some (S.mkAgg ((e.cells.drop off).take n)) else none := rfl

/-! rows -/
theorem rowAt_live {es : List S} {n : Nat} {H : Heap} : Vm.rowAt (⟨es, n, .live⟩ :: H) 0 = some ⟨es, n, .live⟩ := rfl
theorem rowAt_frozen {es : List S} {n : Nat} {H : Heap} : Vm.rowAt (⟨es, n, .frozen⟩ :: H) 0 = some ⟨es, n, .frozen⟩ := rfl
theorem rowAt_succ {r : Row} {H : Heap} {b : Nat} : Vm.rowAt (r :: H) (b + 1) = Vm.rowAt H b := rfl
def loadE (g : Bool) (n off : Nat) : Option S → Option S
  | some e => partF g n e off
  | none => none
theorem loadE_some {g : Bool} {n off : Nat} {e : S} : loadE g n off (some e) = partF g n e off := rfl
def loadR (g : Bool) (n i off : Nat) : Option Row → Option S
  | some r => loadE g n off r.es[i]?
  | none => none
theorem loadR_some {g : Bool} {n i off m : Nat} {es : List S} {st : RowSt} : loadR g n i off (some ⟨es, m, st⟩) = loadE g n off es[i]? := rfl
def loadF (H : Heap) (g : Bool) (n : Nat) : S → Option S
  | .ptr b i off => loadR g n i off (Vm.rowAt H b)
  | .pptr v off => partF g n (.pure v) off
  | _ => none
theorem loadF_ptr {H : Heap} {g : Bool} {n b i off : Nat} : loadF H g n (.ptr b i off) = loadR g n i off (Vm.rowAt H b) := rfl
theorem loadF_pptr {H : Heap} {g : Bool} {n off : Nat} {v : V} : loadF H g n (.pptr v off) = partF g n (.pure v) off := rfl

/-! the operations -/
section
variable {env : Env} {H : Heap}
theorem aFun_load {g : Bool} {n : Nat} {x : O} : aFun env H (.load g n x) = loadF H g n (x.ev env) := by
  simp only [aFun, loadF, loadR, loadE]
  generalize x.ev env = s
  cases s <;> rfl
def bldF : Option (List S) → Option S
  | some cs => some (S.mkAgg cs)
  | none => none
theorem bldF_some {cs : List S} : bldF (some cs) = some (S.mkAgg cs) := rfl
theorem aFun_build {z : List S} {ps : List (Nat × Nat × O)} : aFun env H (.build z ps) = bldF (fillA env z ps) := by
  simp only [aFun, bldF]
  cases fillA env z ps <;> rfl
theorem fillA_nil {cs : List S} : fillA env cs [] = some cs := rfl
def fillS (env : Env) (cs : List S) (off n : Nat) (r : List (Nat × Nat × O)) (s : S) : Option (List S) := if s.okv = true ∧ s.cells.length = n ∧ off + n ≤ cs.length then fillA env (cs.take off ++ s.cells ++ cs.drop (off + n)) r else none
theorem fillA_cons {cs : List S} {off n : Nat} {o : O} {r : List (Nat × Nat × O)} : fillA env cs ((off, n, o) :: r) = fillS env cs off n r (o.ev env) := rfl
theorem fillS_eq {cs : List S} {off n : Nat} {s : S} {r : List (Nat × Nat × O)} : fillS env cs off n r s = if s.okv = true ∧ s.cells.length = n ∧ off + n ≤ cs.length then fillA env (cs.take off ++ s.cells ++ cs.drop (off + n)) r else none := rfl
def nilF (s : S) : Option S := match s with
  | .ptr b i off => some (.ptr b i off)
  | .pptr v off => some (.pptr v off)
  | .pure (.func (.func f) a c) => some (.pure (.func (.func f) a c))
  | .func (.func f) a c => some (.func (.func f) a c)
  | _ => none
theorem aFun_nilck {x : O} : aFun env H (.nilck x) = nilF (x.ev env) := rfl
theorem nilF_ptr {b i off : Nat} : nilF (.ptr b i off) = some (.ptr b i off) := rfl
theorem nilF_pptr {v : V} {off : Nat} : nilF (.pptr v off) = some (.pptr v off) := rfl
theorem nilF_pure {f : Nat} {a c : List V} : nilF (.pure (.func (.func f) a c)) = some (.pure (.func (.func f) a c)) := rfl
theorem nilF_func {f : Nat} {a c : List S} : nilF (.func (.func f) a c) = some (.func (.func f) a c) := rfl
def binF (op : BinOp) (a b : S) : Option S := match a, b with
  | .pure (.int k a), .pure (.int k' b) => if isShift op = true ∨ k = k' then (intF op k a b).map .pure else none
  | _, _ => none
theorem aFun_bin {op : BinOp} {x y : O} : aFun env H (.bin op x y) = binF op (x.ev env) (y.ev env) := rfl
theorem bin_add {k : IntKind} {a b : Int} : binF .add (.pure (.int k a)) (.pure (.int k b)) = some (.pure (.int k (k.wrap (a + b)))) := by simp [binF, intF]
theorem bin_sub {k : IntKind} {a b : Int} : binF .sub (.pure (.int k a)) (.pure (.int k b)) = some (.pure (.int k (k.wrap (a - b)))) := by simp [binF, intF]
theorem bin_mul {k : IntKind} {a b : Int} : binF .mul (.pure (.int k a)) (.pure (.int k b)) = some (.pure (.int k (k.wrap (a * b)))) := by simp [binF, intF]
theorem bin_quo {k : IntKind} {a b : Int} : binF .quo (.pure (.int k a)) (.pure (.int k b)) = if b = 0 then none else some (.pure (.int k (k.wrap (a.tdiv b)))) := by
  simp only [binF, intF]; by_cases h : b = 0 <;> simp [h]
theorem bin_rem {k : IntKind} {a b : Int} : binF .rem (.pure (.int k a)) (.pure (.int k b)) = if b = 0 then none else some (.pure (.int k (a.tmod b))) := by
  simp only [binF, intF]; by_cases h : b = 0 <;> simp [h]
theorem bin_eql {k : IntKind} {a b : Int} : binF .eql (.pure (.int k a)) (.pure (.int k b)) = some (.pure (.bool (decide (a = b)))) := by simp [binF, intF, BEq.beq]
theorem bin_neq {k : IntKind} {a b : Int} : binF .neq (.pure (.int k a)) (.pure (.int k b)) = some (.pure (.bool (decide (a ≠ b)))) := by
  simp only [binF, intF]
  by_cases h : a = b <;> simp [h]
theorem bin_lss {k : IntKind} {a b : Int} : binF .lss (.pure (.int k a)) (.pure (.int k b)) = some (.pure (.bool (decide (a < b)))) := by simp [binF, intF]
theorem bin_leq {k : IntKind} {a b : Int} : binF .leq (.pure (.int k a)) (.pure (.int k b)) = some (.pure (.bool (decide (a ≤ b)))) := by simp [binF, intF]
theorem bin_gtr {k : IntKind} {a b : Int} : binF .gtr (.pure (.int k a)) (.pure (.int k b)) = some (.pure (.bool (decide (b < a)))) := by simp [binF, intF]
theorem bin_geq {k : IntKind} {a b : Int} : binF .geq (.pure (.int k a)) (.pure (.int k b)) = some (.pure (.bool (decide (b ≤ a)))) := by simp [binF, intF]
theorem bin_and {k : IntKind} {a b : Int} : binF .and (.pure (.int k a)) (.pure (.int k b)) = some (.pure (.int k (k.wrap (BitVec.ofInt k.bits a &&& BitVec.ofInt k.bits b).toNat))) := by simp [binF, intF]
theorem bin_or {k : IntKind} {a b : Int} : binF .or (.pure (.int k a)) (.pure (.int k b)) = some (.pure (.int k (k.wrap (BitVec.ofInt k.bits a ||| BitVec.ofInt k.bits b).toNat))) := by simp [binF, intF]
theorem bin_shl {k k' : IntKind} {a b : Int} : binF .shl (.pure (.int k a)) (.pure (.int k' b)) = if b < 0 then none else some (.pure (.int k (k.wrap (a * 2 ^ (min b.toNat k.bits))))) := by
  simp only [binF, intF, isShift]; by_cases h : b < 0 <;> simp [h]
theorem bin_shr {k k' : IntKind} {a b : Int} : binF .shr (.pure (.int k a)) (.pure (.int k' b)) = if b < 0 then none else some (.pure (.int k (a.fdiv (2 ^ (min b.toNat k.bits))))) := by
  simp only [binF, intF, isShift]; by_cases h : b < 0 <;> simp [h]
def eqbF (neg : Bool) (a b : S) : Option S := match a, b with
  | .pure (.bool a), .pure (.bool b) => some (.pure (.bool (if neg then a != b else a == b)))
  | _, _ => none
theorem aFun_eqb {neg : Bool} {x y : O} : aFun env H (.eqb neg x y) = eqbF neg (x.ev env) (y.ev env) := rfl
theorem eqb_f {a b : Bool} : eqbF false (.pure (.bool a)) (.pure (.bool b)) = some (.pure (.bool (a == b))) := rfl
theorem eqb_t {a b : Bool} : eqbF true (.pure (.bool a)) (.pure (.bool b)) = some (.pure (.bool (a != b))) := rfl
def eqvF (neg : Bool) (ks : List CK) (a b : S) : Option S := match a, b with
  | .pure a, .pure b => if a.isCell = false ∧ b.isCell = false then (V.eqs ks a.cells b.cells).map fun r => .pure (.bool (if neg then !r else r)) else none
  | _, _ => none
theorem aFun_eqv {neg : Bool} {ks : List CK} {x y : O} : aFun env H (.eqv neg ks x y) = eqvF neg ks (x.ev env) (y.ev env) := rfl
theorem eqv_f {ks : List CK} {a b : V} : eqvF false ks (.pure a) (.pure b) = if a.isCell = false ∧ b.isCell = false then (V.eqs ks a.cells b.cells).map fun r => .pure (.bool r) else none := by simp [eqvF]
theorem eqv_t {ks : List CK} {a b : V} : eqvF true ks (.pure a) (.pure b) = if a.isCell = false ∧ b.isCell = false then (V.eqs ks a.cells b.cells).map fun r => .pure (.bool !r) else none := by simp [eqvF]
def eqc (a : Option Bool) (b : Option Bool) : Option Bool := match a, b with
  | some x, some y => some (x && y)
  | _, _ => none
theorem eqc_some {x y : Bool} : eqc (some x) (some y) = some (x && y) := rfl
theorem eqs_nil : V.eqs [] [] [] = some true := rfl
theorem eqs_cons {k : CK} {ks : List CK} {a b : V} {r t : List V} : V.eqs (k :: ks) (a :: r) (b :: t) = eqc (V.eqb k a b) (V.eqs ks r t) := by
  simp only [V.eqs, eqc]
  cases V.eqb k a b <;> cases V.eqs ks r t <;> rfl
theorem eqb_int {k : IntKind} {a b : Int} : V.eqb .i (.int k a) (.int k b) = some (decide (a = b)) := by simp [V.eqb, BEq.beq]
theorem eqb_bool {a b : Bool} : V.eqb .b (.bool a) (.bool b) = some (a == b) := rfl
theorem eqb_str {a b : List UInt8} : V.eqb .s (.str a) (.str b) = some (a == b) := rfl
def unF (op : UnOp) (s : S) : Option S := match op, s with
  | .not, .pure (.bool b) => some (.pure (.bool !b))
  | .neg, .pure (.int k n) => some (.pure (.int k (k.wrap (0 - n))))
  | _, _ => none
theorem aFun_un {op : UnOp} {x : O} : aFun env H (.un op x) = unF op (x.ev env) := rfl
theorem un_not {b : Bool} : unF .not (.pure (.bool b)) = some (.pure (.bool !b)) := rfl
theorem un_neg {k : IntKind} {n : Int} : unF .neg (.pure (.int k n)) = some (.pure (.int k (k.wrap (0 - n)))) := rfl
def convF (k : IntKind) (s : S) : Option S := match s with
  | .pure (.int _ n) => some (.pure (.int k (k.wrap n)))
  | _ => none
theorem aFun_conv {k : IntKind} {x : O} : aFun env H (.conv k x) = convF k (x.ev env) := rfl
theorem conv_int {k k' : IntKind} {n : Int} : convF k (.pure (.int k' n)) = some (.pure (.int k (k.wrap n))) := rfl
def fldF (g : Bool) (off n : Nat) (s : S) : Option S := if s.isCell = false ∧ s.okv = true then partF g n s off else none
theorem aFun_fld {g : Bool} {off n : Nat} {x : O} : aFun env H (.fld g off n x) = fldF g off n (x.ev env) := rfl
theorem fldF_eq {g : Bool} {off n : Nat} {s : S} : fldF g off n s = if s.isCell = false ∧ s.okv = true then partF g n s off else none := rfl
def fldAF (off : Nat) (s : S) : Option S := match s with
  | .ptr b i o => some (.ptr b i (o + off))
  | .pptr v o => some (.pptr v (o + off))
  | _ => none
theorem aFun_fldA {off : Nat} {x : O} : aFun env H (.fldA off x) = fldAF off (x.ev env) := rfl
theorem fldA_ptr {off b i o : Nat} : fldAF off (.ptr b i o) = some (.ptr b i (o + off)) := rfl
theorem fldA_pptr {off o : Nat} {v : V} : fldAF off (.pptr v o) = some (.pptr v (o + off)) := rfl
/-- an element of a slice -/
def atE (size : Nat) : Option V → Option S
  | some e => if e.cells.length = size then some (.pptr e 0) else none
  | none => none
theorem atE_some {size : Nat} {e : V} : atE size (some e) = if e.cells.length = size then some (.pptr e 0) else none := rfl
def atR (size b off : Nat) (n : Int) : Option Row → Option S
  | some r => if r.size = size then some (.ptr b (off + n.toNat) 0) else none
  | none => none
theorem atR_some {size b off m : Nat} {n : Int} {es : List S} {st : RowSt} : atR size b off n (some ⟨es, m, st⟩) = if m = size then some (.ptr b (off + n.toNat) 0) else none := rfl
def idxAF (H : Heap) (size : Nat) (s i : S) : Option S := match s, i with
  | .pure (.sl es), .pure (.int _ n) => if 0 ≤ n then atE size es[n.toNat]? else none
  | .rsl b off len, .pure (.int _ n) => if 0 ≤ n ∧ n < len then atR size b off n (Vm.rowAt H b) else none
  | _, _ => none
theorem aFun_idxA {size : Nat} {x i : O} : aFun env H (.idxA size x i) = idxAF H size (x.ev env) (i.ev env) := by
  simp only [aFun, idxAF]
  generalize x.ev env = s
  generalize i.ev env = t
  cases s <;> first | rfl | (cases t <;> first | rfl | (rename_i v u; cases u <;> first | rfl | (cases v <;> rfl)) | (rename_i u; cases u <;> rfl))
theorem idxA_sl {size : Nat} {es : List V} {k : IntKind} {n : Int} : idxAF H size (.pure (.sl es)) (.pure (.int k n)) = if 0 ≤ n then atE size es[n.toNat]? else none := rfl
theorem idxA_rsl {size b off len : Nat} {k : IntKind} {n : Int} : idxAF H size (.rsl b off len) (.pure (.int k n)) = if 0 ≤ n ∧ n < len then atR size b off n (Vm.rowAt H b) else none := rfl
def idxAAF (len size : Nat) (s i : S) : Option S := match s, i with
  | .ptr b e o, .pure (.int _ n) => if 0 ≤ n ∧ n < len then some (.ptr b e (o + n.toNat * size)) else none
  | .pptr v o, .pure (.int _ n) => if 0 ≤ n ∧ n < len then some (.pptr v (o + n.toNat * size)) else none
  | _, _ => none
theorem aFun_idxAA {len size : Nat} {x i : O} : aFun env H (.idxAA len size x i) = idxAAF len size (x.ev env) (i.ev env) := rfl
theorem idxAA_ptr {len size b e o : Nat} {k : IntKind} {n : Int} : idxAAF len size (.ptr b e o) (.pure (.int k n)) = if 0 ≤ n ∧ n < len then some (.ptr b e (o + n.toNat * size)) else none := rfl
theorem idxAA_pptr {len size o : Nat} {v : V} {k : IntKind} {n : Int} : idxAAF len size (.pptr v o) (.pure (.int k n)) = if 0 ≤ n ∧ n < len then some (.pptr v (o + n.toNat * size)) else none := rfl
def idxSF (s i : S) : Option S := match s, i with
  | .pure (.str s), .pure (.int _ n) => if 0 ≤ n then (s[n.toNat]?).map fun b => .pure (.int .u8 b.toNat) else none
  | _, _ => none
theorem aFun_idxS {x i : O} : aFun env H (.idxS x i) = idxSF (x.ev env) (i.ev env) := rfl
theorem idxS_eq {s : List UInt8} {k : IntKind} {n : Int} : idxSF (.pure (.str s)) (.pure (.int k n)) = if 0 ≤ n then (s[n.toNat]?).map fun b => .pure (.int .u8 b.toNat) else none := rfl
def extF (i : Nat) (s : S) : Option S := match s with
  | .tup ss => ss[i]?
  | _ => none
theorem lenN_empty : lenN .empty = some 0 := rfl
theorem lenN_sl {es : List V} : lenN (.pure (.sl es)) = some es.length := rfl
theorem lenN_rsl {b o n : Nat} : lenN (.rsl b o n) = some n := rfl
theorem aFun_ext {i : Nat} {x : O} : aFun env H (.ext i x) = extF i (x.ev env) := rfl
theorem ext_tup {i : Nat} {ss : List S} : extF i (.tup ss) = ss[i]? := rfl
def mxF (a b : S) : Option S := match a, b with
  | .pure (.int k a), .pure (.int k' b) => if k = k' then some (.pure (.int k (if b > a then b else a))) else none
  | _, _ => none
def mnF (a b : S) : Option S := match a, b with
  | .pure (.int k a), .pure (.int k' b) => if k = k' then some (.pure (.int k (if b < a then b else a))) else none
  | _, _ => none
theorem aFun_mx {x y : O} : aFun env H (.mx x y) = mxF (x.ev env) (y.ev env) := rfl
theorem aFun_mn {x y : O} : aFun env H (.mn x y) = mnF (x.ev env) (y.ev env) := rfl
theorem mx_int {k : IntKind} {a b : Int} : mxF (.pure (.int k a)) (.pure (.int k b)) = some (.pure (.int k (max a b))) := by
  simp only [mxF, if_true]
  congr 3
  by_cases h : b > a
  · rw [if_pos h]; omega
  · rw [if_neg h]; omega
theorem mn_int {k : IntKind} {a b : Int} : mnF (.pure (.int k a)) (.pure (.int k b)) = some (.pure (.int k (min a b))) := by
  simp only [mnF, if_true]
  congr 3
  by_cases h : b < a
  · rw [if_pos h]; omega
  · rw [if_neg h]; omega
def lenO (s : S) : Option S := match s with
  | .empty => some (.pure (.int .i64 0))
  | .pure (.sl es) => some (.pure (.int .i64 es.length))
  | .rsl _ _ n => some (.pure (.int .i64 n))
  | _ => none
theorem aFun_len {x : O} : aFun env H (.len x) = lenO (x.ev env) := rfl
theorem lenO_empty : lenO .empty = some (.pure (.int .i64 0)) := rfl
theorem lenO_sl {es : List V} : lenO (.pure (.sl es)) = some (.pure (.int .i64 es.length)) := rfl
theorem lenO_rsl {b o n : Nat} : lenO (.rsl b o n) = some (.pure (.int .i64 n)) := rfl
theorem lenF_empty : lenF .empty = some (0, .pure (.int .i64 0)) := rfl
theorem lenF_sl {es : List V} : lenF (.pure (.sl es)) = some (es.length, .pure (.int .i64 es.length)) := rfl
theorem lenF_rsl {b o n : Nat} : lenF (.rsl b o n) = some (n, .pure (.int .i64 n)) := rfl
/-- parts of slices -/
def slcF (H : Heap) (size : Nat) (mx : Bool) (s : S) (b : Nat → Option (Int × Int × Int)) : Option S := match s with
  | .empty => match b 0 with
    | some (l, h, m) => if l = 0 ∧ h = 0 ∧ m = 0 then some .empty else none
    | none => none
  | .pure (.sl es) => match b es.length with
    | some (l, h, m) => if 0 ≤ l ∧ l ≤ h ∧ h ≤ m ∧ m ≤ es.length ∧ (∀ e ∈ es, e.cells.length = size) then
        (if mx = true ∧ l = m then some .empty else some (.pure (.sl ((es.take h.toNat).drop l.toNat)))) else none
    | none => none
  | .rsl b' off len => match b len, Vm.rowAt H b' with
    | some (l, h, _), some r => if mx = false ∧ r.size = size ∧ 0 ≤ l ∧ l ≤ h ∧ h ≤ len then some (.rsl b' (off + l.toNat) (h - l).toNat) else none
    | _, _ => none
  | _ => none
def bndF (lo : Option Int) (hi mx : Nat → Option Int) (d : Nat) : Option (Int × Int × Int) := match lo, hi d, mx d with
  | some l, some h, some m => some (l, h, m)
  | _, _, _ => none
theorem stF_ptr {n b i off : Nat} {v : S} : stF H n (.ptr b i off) v = match H[b]? with
    | some r => match r.es[i]? with
      | some e => if r.st = .live ∧ v.okv = true ∧ v.cells.length = n ∧ off + n ≤ e.cells.length then some (H.set b ⟨r.es.set i (e.put off v), r.size, .live⟩) else none
      | none => none
    | none => none := rfl
theorem boxF_eq {s : S} : boxF H s = if s.okv = true then some (.ptr H.length 0 0, H ++ [⟨[s], s.cells.length, .live⟩]) else none := rfl
theorem bsF_eq {size : Nat} {ss : List S} : bsF H size ss = if (ss.all fun s => s.okv && s.cells.length == size) = true then some (.rsl H.length 0 ss.length, H ++ [⟨ss, size, .live⟩]) else none := rfl
theorem appF_empty {size bytes : Nat} {ys : List S} : appF H size bytes .empty (some ys) = some ((∀ e ∈ ys, e.cells.length = size) ∧ ys.length * bytes ≤ 140737488355328 ∧ ys.length ≤ maxLen, .rsl H.length 0 ys.length, H ++ [⟨ys, size, .live⟩]) := rfl
theorem appF_rsl {size bytes b off len : Nat} {ys : List S} : appF H size bytes (.rsl b off len) (some ys) = match H[b]? with
      | some r => some ((∀ e ∈ ys, e.cells.length = size) ∧ r.st = .live ∧ r.size = size ∧ off + len ≤ r.es.length ∧ (len + ys.length) * bytes ≤ 140737488355328 ∧ len + ys.length ≤ maxLen, .rsl H.length 0 (len + ys.length), H.set b ⟨[], r.size, .dead⟩ ++ [⟨(r.es.drop off).take len ++ ys, size, .live⟩])
      | none => none := rfl
theorem srcOf_empty {size : Nat} : srcOf H size .empty = some [] := rfl
theorem srcOf_sl {size : Nat} {es : List V} : srcOf H size (.pure (.sl es)) = some (es.map .pure) := rfl
theorem fvF_pure {f : Nat} {a c : List V} {args : List S} : fvF (.pure (.func (.func f) a c)) args = some (f, a.map .pure ++ args ++ c.map .pure) := rfl
theorem fvF_func {f : Nat} {a c : List S} {args : List S} : fvF (.func (.func f) a c) args = some (f, a ++ args ++ c) := rfl

/-! results -/
theorem resVals_nil : resVals env H [] = some [] := rfl
def consR : Option S → Option (List S) → Option (List S)
  | some s, some l => some (s :: l)
  | _, _ => none
theorem consR_some {s : S} {l : List S} : consR (some s) (some l) = some (s :: l) := rfl
theorem resVals_cons {r : RS} {q : List RS} : resVals env H (r :: q) = consR (r.val env H) (resVals env H q) := by
  simp only [resVals, consR]
  cases r.val env H <;> cases resVals env H q <;> rfl
theorem val_t {k : Nat} : RS.val env H (.t k) = some (env.get k) := rfl
theorem val_c {k n : Nat} {g : Bool} : RS.val env H (.c k g n) = loadF H g n (env.get k) := aFun_load
theorem retS_one {s : S} : retS [s] = s := rfl
theorem retS_two {s t : S} {l : List S} : retS (s :: t :: l) = .tup (s :: t :: l) := rfl
theorem retS_nil : retS [] = .tup [] := rfl
end
end Go.Vm
