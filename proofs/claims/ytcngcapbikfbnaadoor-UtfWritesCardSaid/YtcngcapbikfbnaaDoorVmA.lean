/-
  The abstract machine that the proofs of this seat walk on. No condition.
-/
import Derived.Orders
import Derived.Below
import Derived.Laws.AppendOwn
import Derived.Laws.MakeOwn
import Derived.WalkKit
import Derived.OpenShut
import GoSem.PinnedTables
import Derived.Laws.BytesString
import Derived.ChangeKeysEq
/-! The abstract machine, part 1: data ('V'), what slots hold ('S'), own rows, and how memory represents them.
  No program in sight. -/
namespace Go.Vm
open Go Go.RowKit
/-- Deep data that nobody changes. Structs and arrays are flat rows of one-cell data. -/
inductive V where
 | int (k : IntKind) (n : Int)
 | bool (b : Bool)
 | str (s : List UInt8)
 | agg (cs : List V)
 | sl (es : List V)
 | nilp
 | func (fn : Fn) (first captured : List V)
 | nilf
 | iface (t : TypeId) (v : V)
 | nili
 deriving Inhabited
def V.cells : V → List V
 | .agg cs => cs
 | v => [v]
def V.isCell : V → Bool
 | .agg _ => false
 | _ => true
/-- 'v' reads as the data 'V', and reads so as long as no block of 'X' is looked at. -/
inductive PRep (w : World) (X : Nat → Prop) : Value → V → Prop where
 | int (k : IntKind) (n : Int) (h : (Lit.int k n).wf = true) : PRep w X (.int k n) (.int k n)
 | bool (b : Bool) : PRep w X (.bool b) (.bool b)
 | str (s : ByteArray) (h : s.size ≤ maxLen) : PRep w X (.string s) (.str s.data.toList)
 | agg (cs : Array Value) (vs : List V) (hl : cs.size = vs.length) (hc : ∀ v ∈ vs, v.isCell = true)
   (h : ∀ i, i < vs.length → PRep w X (cs.getD i undef) (vs.getD i default)) : PRep w X (.agg cs) (.agg vs)
 | nils (a : Option Addr) : PRep w X (.slice a 0 0) (.sl [])
 | sl (blk off len cap size : Nat) (es : List V) (f : Nat → Value) (hz : 0 < size) (hl : es.length = len) (hc : len ≤ cap) (hm : cap ≤ maxLen) (hx : es ≠ [] → ¬ X blk)
   (hs : ∀ e ∈ es, e.cells.length = size) (hcell : ∀ e ∈ es, ∀ v ∈ e.cells, v.isCell = true)
   (hw : ∀ i j, i < es.length → j < size → w.cell? ⟨blk, off + i * size + j, none⟩ = some (f (i * size + j)))
   (hr : ∀ i j, i < es.length → j < size → PRep w X (f (i * size + j)) ((es.getD i default).cells.getD j default)) :
   PRep w X (.slice (some ⟨blk, off, none⟩) len cap) (.sl es)
 | nilp : PRep w X (.pointer none) .nilp
 | func (fn : Fn) (f c : Array Value) (fs cs : List V) (h1 : f.size = fs.length) (h2 : c.size = cs.length)
   (h3 : ∀ i, i < fs.length → PRep w X (f.getD i undef) (fs.getD i default)) (h4 : ∀ i, i < cs.length → PRep w X (c.getD i undef) (cs.getD i default)) : PRep w X (.func fn f c) (.func fn fs cs)
 | nilf : PRep w X .nilFunc .nilf
 | iface (t : TypeId) (v : Value) (d : V) (h : PRep w X v d) : PRep w X (.iface t v) (.iface t d)
 | nili : PRep w X .nilIface .nili
/-- What is kept of a world: all blocks that were there and are not in 'X' are as they were. -/
def Keeps (X : Nat → Prop) (w w' : World) : Prop := ∀ k, k < w.heap.size → ¬ X k → w'.heap[k]? = w.heap[k]?
theorem Keeps.cell {X : Nat → Prop} {w w' : World} (h : Keeps X w w') {b o : Nat} {v : Value} (hx : ¬ X b) (hc : w.cell? ⟨b, o, none⟩ = some v) : w'.cell? ⟨b, o, none⟩ = some v := by
 have hlt : b < w.heap.size := World.block_lt_of_cell? w ⟨b, o, none⟩ hc
 rw [World.cell?_of_block (w := w) (a := ⟨b, o, none⟩) (h b hlt hx)]
 exact hc
theorem PRep.keeps {w w' : World} {X X' : Nat → Prop} (hk : Keeps X w w') (hX : ∀ k, X' k → X k ∨ w.heap.size ≤ k) {v : Value} {d : V} (h : PRep w X v d) : PRep w' X' v d := by
 induction h with
 | int k n h => exact .int k n h
 | bool b => exact .bool b
 | str s h => exact .str s h
 | agg cs vs hl hc _ ih => exact .agg cs vs hl hc ih
 | nils a => exact .nils a
 | sl blk off len cap size es f hz hl hc hm hx hs hcell hw hr ih =>
  refine .sl blk off len cap size es f hz hl hc hm ?_ hs hcell ?_ ih
  ·intro hne hx'
   rcases hX _ hx' with h1 | h1
   ·exact hx hne h1
   ·have h0 : 0 < es.length := List.length_pos_iff.2 hne
    have := World.block_lt_of_cell? w _ (hw 0 0 h0 hz)
    simp at this
    omega
  ·intro i j hi hj
   exact hk.cell (hx (by intro e; subst e; simp at hi)) (hw i j hi hj)
 | nilp => exact .nilp
 | func fn f c fs cs h1 h2 _ _ ih1 ih2 => exact .func fn f c fs cs h1 h2 ih1 ih2
 | nilf => exact .nilf
 | iface t v d _ ih => exact .iface t v d ih
 | nili => exact .nili
theorem PRep.less {w : World} {X X' : Nat → Prop} (hX : ∀ k, X' k → X k) {v : Value} {d : V} (h : PRep w X v d) : PRep w X' v d :=
 h.keeps (fun _ _ _ => rfl) (fun k hk => .inl (hX k hk))
/-! Tables of the program that nobody writes: where each lies, and what it holds. -/
/-- the bytes that may stand first (unicode/utf8.first), and the ranges of those behind (unicode/utf8.acceptRanges) -/
def rangesZ : List Nat := [128, 191, 160, 191, 128, 159, 144, 191, 128, 143] ++ List.replicate 22 0
def tabV256 : V := .agg (Pinned.utf8FirstZ.map fun (n : Nat) => .int .u8 (n : Int))
def tabV32 : V := .agg (rangesZ.map fun (n : Nat) => .int .u8 (n : Int))
def tabs : List (Nat × V) := [(0, tabV256), (1, tabV32)]
/-- they lie there -/
def TabOk (w : World) (X : Nat → Prop) : Prop := ∀ p ∈ tabs, ∃ f : Nat → Value, 0 < p.2.cells.length ∧ ¬ X p.1 ∧ (∀ v ∈ p.2.cells, v.isCell = true) ∧
 (∀ j, j < p.2.cells.length → w.cell? ⟨p.1, j, none⟩ = some (f j)) ∧ ∀ j, j < p.2.cells.length → PRep w X (f j) (p.2.cells.getD j default)
theorem TabOk.keeps {w w' : World} {X X' : Nat → Prop} (hk : Keeps X w w') (hX : ∀ k, X' k → X k ∨ w.heap.size ≤ k) (h : TabOk w X) : TabOk w' X' := by
 intro p hp
 obtain ⟨f, h1, h2, h3, h4, h5⟩ := h p hp
 refine ⟨f, h1, fun hx => ?_, h3, fun j hj => hk.cell h2 (h4 j hj), fun j hj => (h5 j hj).keeps hk hX⟩
 rcases hX _ hx with h6 | h6
 ·exact h2 h6
 ·have := World.block_lt_of_cell? w _ (h4 0 h1)
  simp at this
  omega
theorem TabOk.less {w : World} {X X' : Nat → Prop} (hX : ∀ k, X' k → X k) (h : TabOk w X) : TabOk w X' := h.keeps (fun _ _ _ => rfl) (fun k hk => .inl (hX k hk))
/-- what lies in a block -/
def tabAt (g : Nat) : Option V := (tabs.find? fun p => p.1 == g).map (·.2)
theorem tabAt_mem {g : Nat} {v : V} (h : tabAt g = some v) : (g, v) ∈ tabs := by
 unfold tabAt at h
 obtain ⟨p, hp, rfl⟩ := Option.map_eq_some_iff.1 h
 have h1 := List.mem_of_find?_eq_some hp
 have h2 := List.find?_some hp
 simp only [beq_iff_eq] at h2
 rw [← h2]
 exact h1
/-- What a slot, or a cell of an own row, holds. -/
inductive S where
 | pure (v : V)
 | empty
 | rsl (b off len : Nat)
 | ptr (b i off : Nat)
 | pptr (v : V) (off : Nat)
 | agg (cs : List S)
 | func (fn : Fn) (first captured : List S)
 | iface (t : TypeId) (s : S)
 | tup (ss : List S)
 | dead
 deriving Inhabited
def S.cells : S → List S
 | .pure v => v.cells.map .pure
 | .agg cs => cs
 | s => [s]
def S.isCell : S → Bool
 | .pure v => v.isCell
 | .agg _ | .tup _ | .dead => false
 | _ => true
/-- Where an own row lies: its block, the first cell, the cells of one element, how many cells the block has. A row without a place ('virt') is that of a slice that is nil, or has no room. -/
structure Loc where
 blk : Nat
 base : Nat
 size : Nat
 room : Nat
 virt : Bool
 deriving Inhabited
/-- where the own rows lie -/
structure Mu where
 at_ : Nat → Option Loc
 /-- blocks of others: they are not written, but no pure data of ours lies there -/
 xo : Nat → Prop
instance : CoeFun Mu (fun _ => Nat → Option Loc) := ⟨Mu.at_⟩
inductive Rep (w : World) (X : Nat → Prop) (μ : Mu) : Value → S → Prop where
 | pure (v : Value) (d : V) (h : PRep w X v d) : Rep w X μ v (.pure d)
 | empty (a : Option Addr) (ha : ∀ x, a = some x → True) : Rep w X μ (.slice a 0 0) .empty
 | rsl (b off len cap : Nat) (l : Loc) (hl : μ b = some l) (hv : l.virt = false) (hc : len ≤ cap) (hm : cap ≤ maxLen) (hr : l.base + (off + cap) * l.size ≤ l.room) :
   Rep w X μ (.slice (some ⟨l.blk, l.base + off * l.size, none⟩) len cap) (.rsl b off len)
 | rslz (a : Option Addr) (ha : ∀ x, a = some x → True) (b off : Nat) (l : Loc) (hl : μ b = some l) : Rep w X μ (.slice a 0 0) (.rsl b off 0)
 | ptr (b i off : Nat) (l : Loc) (hl : μ b = some l) (hv : l.virt = false) : Rep w X μ (.pointer (some ⟨l.blk, l.base + i * l.size + off, none⟩)) (.ptr b i off)
 | pptr (blk o : Nat) (d : V) (off : Nat) (f : Nat → Value) (hz : 0 < d.cells.length) (hx : ¬ X blk) (hcell : ∀ v ∈ d.cells, v.isCell = true)
   (hw : ∀ j, j < d.cells.length → w.cell? ⟨blk, o + j, none⟩ = some (f j)) (hr : ∀ j, j < d.cells.length → PRep w X (f j) (d.cells.getD j default)) :
   Rep w X μ (.pointer (some ⟨blk, o + off, none⟩)) (.pptr d off)
 | agg (cs : Array Value) (ss : List S) (hl : cs.size = ss.length) (hc : ∀ s ∈ ss, s.isCell = true)
   (h : ∀ i, i < ss.length → Rep w X μ (cs.getD i undef) (ss.getD i .dead)) : Rep w X μ (.agg cs) (.agg ss)
 | func (fn : Fn) (f c : Array Value) (fs cs : List S) (h1 : f.size = fs.length) (h2 : c.size = cs.length)
   (h3 : ∀ i, i < fs.length → Rep w X μ (f.getD i undef) (fs.getD i .dead)) (h4 : ∀ i, i < cs.length → Rep w X μ (c.getD i undef) (cs.getD i .dead)) : Rep w X μ (.func fn f c) (.func fn fs cs)
 | iface (t : TypeId) (v : Value) (s : S) (h : Rep w X μ v s) : Rep w X μ (.iface t v) (.iface t s)
 | tup (vs : Array Value) (ss : List S) (hl : vs.size = ss.length) (h : ∀ i, i < ss.length → Rep w X μ (vs.getD i undef) (ss.getD i .dead)) : Rep w X μ (.tuple vs) (.tup ss)
 | dead (v : Value) : Rep w X μ v .dead
theorem Rep.keeps {w w' : World} {X X' : Nat → Prop} {μ μ' : Mu} (hk : Keeps X w w') (hX : ∀ k, X' k → X k ∨ w.heap.size ≤ k) (hμ : ∀ (b : Nat) (l : Loc), μ b = some l → μ' b = some l) {v : Value} {s : S}
  (h : Rep w X μ v s) : Rep w' X' μ' v s := by
 induction h with
 | pure v d h => exact .pure v d (h.keeps hk hX)
 | empty a ha => exact .empty a ha
 | rsl b off len cap l hl hv hc hm hr => exact .rsl b off len cap l (hμ _ _ hl) hv hc hm hr
 | rslz a ha b off l hl => exact .rslz a ha b off l (hμ _ _ hl)
 | ptr b i off l hl hv => exact .ptr b i off l (hμ _ _ hl) hv
 | pptr blk o d off f hz hx hcell hw hr =>
  refine .pptr blk o d off f hz ?_ hcell (fun j hj => hk.cell hx (hw j hj)) (fun j hj => (hr j hj).keeps hk hX)
  intro hx'
  rcases hX _ hx' with h1 | h1
  ·exact hx h1
  ·have := World.block_lt_of_cell? w _ (hw 0 hz)
   simp at this
   omega
 | agg cs ss hl hc _ ih => exact .agg cs ss hl hc ih
 | func fn f c fs cs h1 h2 _ _ ih1 ih2 => exact .func fn f c fs cs h1 h2 ih1 ih2
 | iface t v s _ ih => exact .iface t v s ih
 | tup vs ss hl _ ih => exact .tup vs ss hl ih
 | dead v => exact .dead v
theorem TabOk.rep {w : World} {X : Nat → Prop} {μ : Mu} (h : TabOk w X) {g : Nat} {v : V} (hm : (g, v) ∈ tabs) : Rep w X μ (.pointer (some ⟨g, 0, none⟩)) (.pptr v 0) := by
 obtain ⟨f, h1, h2, h3, h4, h5⟩ := h _ hm
 exact .pptr g 0 v 0 f h1 h2 h3 (fun j hj => by rw [Nat.zero_add]; exact h4 j hj) h5
inductive RowSt where
 | live | frozen | dead
 deriving DecidableEq, Inhabited
structure Row where
 es : List S
 size : Nat
 st : RowSt
 deriving Inhabited
abbrev Heap := List Row
/-- The blocks that are written: those of the rows that live. -/
def owned (μ : Mu) (H : Heap) : Nat → Prop := fun k => ∃ (b : Nat) (r : Row) (l : Loc), H[b]? = some r ∧ r.st = .live ∧ μ b = some l ∧ l.virt = false ∧ l.blk = k
/-- where no pure data lies -/
def excl (μ : Mu) (H : Heap) : Nat → Prop := fun k => owned μ H k ∨ μ.xo k
structure RowRep (w : World) (X : Nat → Prop) (μ : Mu) (l : Loc) (r : Row) : Prop where
 size : r.size = l.size
 pos : 0 < l.size
 virt : l.virt = true → r.es = []
 lens : ∀ e ∈ r.es, e.cells.length = l.size
 cellOk : ∀ e ∈ r.es, ∀ s ∈ e.cells, s.isCell = true
 fits : l.virt = false → l.base + r.es.length * l.size ≤ l.room
 cells : l.virt = false → ∀ i j, i < r.es.length → j < l.size → ∃ v, w.cell? ⟨l.blk, l.base + i * l.size + j, none⟩ = some v ∧ Rep w X μ v ((r.es.getD i .dead).cells.getD j .dead)
 live : l.virt = false → r.st = .live → ∃ c t, w.heap[l.blk]? = some (.cells c t (0, 0)) ∧ c.size = l.room
 frozen : l.virt = false → r.st = .frozen → r.es ≠ [] → ¬ X l.blk
structure HRep (w : World) (μ : Mu) (H : Heap) : Prop where
 tab : TabOk w (excl μ H)
 dom : ∀ (b : Nat) (l : Loc), μ b = some l → b < H.length
 xo : ∀ k, μ.xo k → k < w.heap.size ∧ ¬ owned μ H k
 row : ∀ (b : Nat) (r : Row) (l : Loc), H[b]? = some r → r.st ≠ .dead → μ b = some l → RowRep w (excl μ H) μ l r
 inj : ∀ (b b' : Nat) (r r' : Row) (l l' : Loc), H[b]? = some r → H[b']? = some r' → r.st = .live → r'.st = .live → μ b = some l → μ b' = some l' → l.virt = false → l'.virt = false → l.blk = l'.blk → b = b'
abbrev Env := List (Nat × S)
def Env.get : Env → Nat → S
 | [], _ => .dead
 | (k, s) :: e, d => if k = d then s else Env.get e d
theorem Env.get_cons (k d : Nat) (s : S) (e : Env) : Env.get ((k, s) :: e) d = if k = d then s else Env.get e d := rfl
/-- What has become of the world since the call began: of the old blocks just those of 'X0' may have been written. -/
structure Fr (X0 : Nat → Prop) (w0 w : World) : Prop where
 os : w.os = w0.os
 tape : w.tape = w0.tape
 output : w.output = w0.output
 size : w0.heap.size ≤ w.heap.size
 keep : Keeps X0 w0 w
theorem Fr.refl (X0 : Nat → Prop) (w : World) : Fr X0 w w := ⟨rfl, rfl, rfl, Nat.le_refl _, fun _ _ _ => rfl⟩
/-- The relation of the abstract state to the machine's. -/
structure Rel (w0 : World) (X0 : Nat → Prop) (μ0 : Mu) (n : Nat) (env : Env) (H : Heap) (a : Act) (w : World) (μ : Mu) : Prop where
 tmps : a.tmps.size = n
 defers : a.defers = []
 env : ∀ d, Rep w (excl μ H) μ (a.tmps.getD d undef) (env.get d)
 heap : HRep w μ H
 fr : Fr X0 w0 w
 own : ∀ k, owned μ H k → X0 k ∨ w0.heap.size ≤ k
 pre : ∀ (b : Nat) (l : Loc), μ0 b = some l → μ b = some l
 xo : μ.xo = μ0.xo
def St (w0 : World) (X0 : Nat → Prop) (μ0 : Mu) (n : Nat) (env : Env) (H : Heap) (a : Act) (w : World) : Prop := ∃ μ, Rel w0 X0 μ0 n env H a w μ
end Go.Vm
/-! The abstract machine, part 2: what an operation does to the abstract state: 'aFun' (it only computes, or reads), 'aVal' (all of them). -/
namespace Go.Vm
open Go Go.RowKit
inductive O where
 | s (t : Nat)
 | c (x : S)
 deriving Inhabited
def O.ev (env : Env) : O → S
 | .s t => env.get t
 | .c x => x
def S.okv : S → Bool
 | .dead | .tup _ => false
 | .pure v => !v.cells.isEmpty
 | .agg cs => !cs.isEmpty
 | _ => true
def S.allPure : List S → Option (List V)
 | [] => some []
 | .pure v :: r => match S.allPure r with
  | some vs => some (v :: vs)
  | none => none
 | _ :: _ => none
def S.mkAgg (ss : List S) : S := match S.allPure ss with
 | some vs => .pure (.agg vs)
 | none => .agg ss
/-- 'e' with the cells of 's' from cell 'off' on. -/
def S.put (e : S) (off : Nat) (s : S) : S :=
 if e.isCell = true then (match s.cells with | [c] => c | _ => .dead)
 else if off = 0 ∧ s.isCell = false ∧ s.cells.length = e.cells.length then s
 else S.mkAgg (e.cells.take off ++ s.cells ++ e.cells.drop (off + s.cells.length))
/-- reading a part of an element -/
def partF (agg : Bool) (n : Nat) (e : S) (off : Nat) : Option S :=
 if agg = true then
  (if off = 0 ∧ n = e.cells.length ∧ e.isCell = false then some e
   else if off + n ≤ e.cells.length then some (S.mkAgg ((e.cells.drop off).take n)) else none)
 else e.cells[off]?
/-- what kind of thing a cell is that is held against another one -/
inductive CK where
 | i | b | s
 deriving DecidableEq, Inhabited
inductive AOp where
 | mov (x : O)
 | pick (c x y : O)
 | build (zero : List S) (parts : List (Nat × Nat × O))
 | load (agg : Bool) (n : Nat) (x : O)
 | nilck (x : O)
 | bin (op : BinOp) (x y : O)
 | eqb (neg : Bool) (x y : O)
 | eqs (neg : Bool) (x y : O)
 | eqv (neg : Bool) (ks : List CK) (x y : O)
 | un (op : UnOp) (x : O)
 | conv (k : IntKind) (x : O)
 | mkfn (fn : Fn) (first captured : List O)
 | slc (size : Nat) (x : O) (lo hi mx : Option O)
 | fld (agg : Bool) (off n : Nat) (x : O)
 | fldA (off : Nat) (x : O)
 | idxA (size : Nat) (x i : O)
 | idxAA (len size : Nat) (x i : O)
 | idxV (agg : Bool) (len size : Nat) (x i : O)
 | idxS (x i : O)
 | b2s (x : O)
 | ext (i : Nat) (x : O)
 | len (x : O)
 | lenS (x : O)
 | slnil (neg : Bool) (x : O)
 | mx (x y : O)
 | mn (x y : O)
 | box (x : O)
 | bslice (size : Nat) (parts : List O)
 | mksl (size bytes : Nat) (z : S) (x y : O)
 | store (n : Nat) (x v : O)
 | clr (size : Nat) (x : O)
 | app (size bytes : Nat) (x y : O)
 | call (f : Nat) (args : List O)
 | callv (fv : O) (args : List O)
 deriving Inhabited
/-- What a step of the machine has made of memory. -/
structure Step (w : World) (μ : Mu) (H : Heap) (w' : World) (μ' : Mu) (H' : Heap) (v : Value) (s : S) : Prop where
 heap : HRep w' μ' H'
 val : Rep w' (excl μ' H') μ' v s
 ext : ∀ (b : Nat) (l : Loc), μ b = some l → μ' b = some l
 xo : μ'.xo = μ.xo
 fr : Fr (owned μ H) w w'
 own : ∀ k, owned μ' H' k → owned μ H k ∨ w.heap.size ≤ k
/-- A call of function 'f': whatever memory represents the abstract one. -/
def CallA (P : Program) (f : Nat) (args : List S) (H : Heap) (K : S → Heap → Prop) : Prop :=
 (∃ fn, P.funcs[f]? = some fn ∧ (fn.name == "runtime.NumGoroutine") = false ∧ fn.body.isNone = false) ∧
 ∀ (w : World) (μ : Mu) (cargs : Array Value), HRep w μ H → cargs.size = args.length →
  (∀ i, i < args.length → Rep w (excl μ H) μ (cargs.getD i undef) (args.getD i .dead)) →
  Calls P f cargs w fun e w' => ∃ v s H' μ', e = .returned v ∧ K s H' ∧ Step w μ H w' μ' H' v s
/-- the value of an integer's operation -/
def intF (op : BinOp) (k : IntKind) (a b : Int) : Option V :=
 match op with
 | .add => some (.int k (k.wrap (a + b)))
 | .sub => some (.int k (k.wrap (a - b)))
 | .mul => some (.int k (k.wrap (a * b)))
 | .quo => if b = 0 then none else some (.int k (k.wrap (a.tdiv b)))
 | .rem => if b = 0 then none else some (.int k (a.tmod b))
 | .and => some (.int k (k.wrap (BitVec.ofInt k.bits a &&& BitVec.ofInt k.bits b).toNat))
 | .or => some (.int k (k.wrap (BitVec.ofInt k.bits a ||| BitVec.ofInt k.bits b).toNat))
 | .xor => some (.int k (k.wrap (BitVec.ofInt k.bits a ^^^ BitVec.ofInt k.bits b).toNat))
 | .andNot => some (.int k (k.wrap (BitVec.ofInt k.bits a &&& ~~~BitVec.ofInt k.bits b).toNat))
 | .eql => some (.bool (a == b))
 | .neq => some (.bool (a != b))
 | .lss => some (.bool (decide (a < b)))
 | .leq => some (.bool (decide (a ≤ b)))
 | .gtr => some (.bool (decide (a > b)))
 | .geq => some (.bool (decide (a ≥ b)))
 | .shl => if b < 0 then none else some (.int k (k.wrap (a * 2 ^ (min b.toNat k.bits))))
 | .shr => if b < 0 then none else some (.int k (a.fdiv (2 ^ (min b.toNat k.bits))))
def isShift : BinOp → Bool
 | .shl | .shr => true
 | _ => false
def V.eqb : CK → V → V → Option Bool
 | .i, .int k a, .int k' b => if k = k' then some (a == b) else none
 | .b, .bool a, .bool b => some (a == b)
 | .s, .str a, .str b => some (a == b)
 | _, _, _ => none
def V.eqs : List CK → List V → List V → Option Bool
 | [], [], [] => some true
 | k :: ks, a :: r, b :: t => match V.eqb k a b, V.eqs ks r t with
  | some x, some y => some (x && y)
  | _, _ => none
 | _, _, _ => none
/-- a bound of a slice expression -/
def optInt (env : Env) (d : Nat) : Option O → Option Int
 | none => some d
 | some o => match o.ev env with
  | .pure (.int _ n) => some n
  | _ => none
/-- the parts of a value that is built -/
def fillA (env : Env) : List S → List (Nat × Nat × O) → Option (List S)
 | cs, [] => some cs
 | cs, (off, n, o) :: r =>
  if (o.ev env).okv = true ∧ (o.ev env).cells.length = n ∧ off + n ≤ cs.length then fillA env (cs.take off ++ (o.ev env).cells ++ cs.drop (off + n)) r else none
/-- the row under a name, if it can be read -/
def rowAt (H : Heap) (b : Nat) : Option Row := match H[b]? with
 | some r => if r.st = .dead then none else some r
 | none => none
/-- the bytes of a row of numbers -/
def bytesOf : List V → Option (List UInt8)
 | [] => some []
 | .int .u8 n :: r => match bytesOf r with
  | some q => some (UInt8.ofNat n.toNat :: q)
  | none => none
 | _ :: _ => none
/-- What an operation yields that only computes or reads. -/
def aFun (env : Env) (H : Heap) : AOp → Option S
 | .mov x => some (x.ev env)
 | .pick c x y => match c.ev env with
  | .pure (.bool t) => if t = true then some (x.ev env) else some (y.ev env)
  | _ => none
 | .build zero parts => match fillA env zero parts with
  | some cs => some (S.mkAgg cs)
  | none => none
 | .load agg n x => match x.ev env with
  | .ptr b i off => match rowAt H b with
   | some r => match r.es[i]? with
    | some e => partF agg n e off
    | none => none
   | none => none
  | .pptr v off => partF agg n (.pure v) off
  | _ => none
 | .nilck x => match x.ev env with
  | .ptr b i off => some (.ptr b i off)
  | .pptr v off => some (.pptr v off)
  | .pure (.func (.func f) a c) => some (.pure (.func (.func f) a c))
  | .func (.func f) a c => some (.func (.func f) a c)
  | _ => none
 | .bin op x y => match x.ev env, y.ev env with
  | .pure (.int k a), .pure (.int k' b) => if isShift op = true ∨ k = k' then (intF op k a b).map .pure else none
  | _, _ => none
 | .eqb neg x y => match x.ev env, y.ev env with
  | .pure (.bool a), .pure (.bool b) => some (.pure (.bool (if neg then a != b else a == b)))
  | _, _ => none
 | .eqs neg x y => match x.ev env, y.ev env with
  | .pure (.str a), .pure (.str b) => some (.pure (.bool (if neg then a != b else a == b)))
  | _, _ => none
 | .eqv neg ks x y => match x.ev env, y.ev env with
  | .pure a, .pure b => if a.isCell = false ∧ b.isCell = false then (V.eqs ks a.cells b.cells).map fun r => .pure (.bool (if neg then !r else r)) else none
  | _, _ => none
 | .un op x => match op, x.ev env with
  | .not, .pure (.bool b) => some (.pure (.bool !b))
  | .neg, .pure (.int k n) => some (.pure (.int k (k.wrap (0 - n))))
  | _, _ => none
 | .conv k x => match x.ev env with
  | .pure (.int _ n) => some (.pure (.int k (k.wrap n)))
  | _ => none
 | .mkfn fn f c => some (.func fn (f.map (·.ev env)) (c.map (·.ev env)))
 | .slc size x lo hi mx => match x.ev env with
  | .empty => match optInt env 0 lo, optInt env 0 hi, optInt env 0 mx with
   | some l, some h, some m => if l = 0 ∧ h = 0 ∧ m = 0 then some .empty else none
   | _, _, _ => none
  | .pure (.sl es) => match optInt env 0 lo, optInt env es.length hi, optInt env es.length mx with
   | some l, some h, some m => if 0 ≤ l ∧ l ≤ h ∧ h ≤ m ∧ m ≤ es.length ∧ (∀ e ∈ es, e.cells.length = size) then
     (if mx.isSome = true ∧ l = m then some .empty else some (.pure (.sl ((es.take h.toNat).drop l.toNat)))) else none
   | _, _, _ => none
  | .rsl b off len => match optInt env 0 lo, optInt env len hi, rowAt H b with
   | some l, some h, some r => if mx.isNone = true ∧ r.size = size ∧ 0 ≤ l ∧ l ≤ h ∧ h ≤ len then some (.rsl b (off + l.toNat) (h - l).toNat) else none
   | _, _, _ => none
  | _ => none
 | .fld agg off n x => if (x.ev env).isCell = false ∧ (x.ev env).okv = true then partF agg n (x.ev env) off else none
 | .fldA off x => match x.ev env with
  | .ptr b i o => some (.ptr b i (o + off))
  | .pptr v o => some (.pptr v (o + off))
  | _ => none
 | .idxA size x i => match x.ev env, i.ev env with
  | .pure (.sl es), .pure (.int _ n) => if 0 ≤ n then (match es[n.toNat]? with
   | some e => if e.cells.length = size then some (.pptr e 0) else none
   | none => none) else none
  | .rsl b off len, .pure (.int _ n) => if 0 ≤ n ∧ n < len then (match rowAt H b with
   | some r => if r.size = size then some (.ptr b (off + n.toNat) 0) else none
   | none => none) else none
  | _, _ => none
 | .idxAA len size x i => match x.ev env, i.ev env with
  | .ptr b e o, .pure (.int _ n) => if 0 ≤ n ∧ n < len then some (.ptr b e (o + n.toNat * size)) else none
  | .pptr v o, .pure (.int _ n) => if 0 ≤ n ∧ n < len then some (.pptr v (o + n.toNat * size)) else none
  | _, _ => none
 | .idxV agg len size x i => match i.ev env with
  | .pure (.int _ n) => if 0 ≤ n ∧ n < len ∧ (x.ev env).isCell = false ∧ (x.ev env).okv = true then partF agg size (x.ev env) (n.toNat * size) else none
  | _ => none
 | .idxS x i => match x.ev env, i.ev env with
  | .pure (.str s), .pure (.int _ n) => if 0 ≤ n then (s[n.toNat]?).map fun b => .pure (.int .u8 b.toNat) else none
  | _, _ => none
 | .b2s x => match x.ev env with
  | .empty => some (.pure (.str []))
  | .pure (.sl es) => match bytesOf es with
   | some b => some (.pure (.str b))
   | none => none
  | _ => none
 | .ext i x => match x.ev env with
  | .tup ss => ss[i]?
  | _ => none
 | .len x => match x.ev env with
  | .empty => some (.pure (.int .i64 0))
  | .pure (.sl es) => some (.pure (.int .i64 es.length))
  | .rsl _ _ n => some (.pure (.int .i64 n))
  | _ => none
 | .lenS x => match x.ev env with
  | .pure (.str s) => some (.pure (.int .i64 s.length))
  | _ => none
 | .mx x y => match x.ev env, y.ev env with
  | .pure (.int k a), .pure (.int k' b) => if k = k' then some (.pure (.int k (if b > a then b else a))) else none
  | _, _ => none
 | .mn x y => match x.ev env, y.ev env with
  | .pure (.int k a), .pure (.int k' b) => if k = k' then some (.pure (.int k (if b < a then b else a))) else none
  | _, _ => none
 | _ => none
/-- the elements that an append takes over -/
def srcOf (H : Heap) (size : Nat) : S → Option (List S)
 | .empty => some []
 | .pure (.sl es) => some (es.map .pure)
 | .rsl b off len => match rowAt H b with
  | some r => if r.size = size ∧ off + len ≤ r.es.length then some ((r.es.drop off).take len) else none
  | none => none
 | _ => none
/-- how long a slice is -/
def lenN : S → Option Nat
 | .empty => some 0
 | .pure (.sl es) => some es.length
 | .rsl _ _ n => some n
 | _ => none
def aVal (P : Program) (env : Env) (H : Heap) : AOp → (S → Heap → Prop) → Prop
 | .pick c x y, K => match c.ev env with
  | .pure (.bool t) => (t = true → K (x.ev env) H) ∧ (t = false → K (y.ev env) H)
  | _ => False
 | .len x, K => match x.ev env with
  | .empty => K (.pure (.int .i64 0)) H
  | .pure (.sl es) => es.length ≤ 9223372036854775807 → K (.pure (.int .i64 es.length)) H
  | .rsl _ _ n => n ≤ 9223372036854775807 → K (.pure (.int .i64 n)) H
  | _ => False
 | .lenS x, K => match x.ev env with
  | .pure (.str s) => s.length ≤ 9223372036854775807 → K (.pure (.int .i64 s.length)) H
  | _ => False
 | .slnil neg x, K => match lenN (x.ev env) with
  | some n => ∀ b : Bool, (n ≠ 0 → b = neg) → K (.pure (.bool b)) H
  | none => False
 | .box x, K => (x.ev env).okv = true ∧ K (.ptr H.length 0 0) (H ++ [⟨[x.ev env], (x.ev env).cells.length, .live⟩])
 | .bslice size parts, K => (∀ o ∈ parts, (o.ev env).okv = true ∧ (o.ev env).cells.length = size) ∧ K (.rsl H.length 0 parts.length) (H ++ [⟨parts.map (·.ev env), size, .live⟩])
 | .mksl size bytes z x y, K => match x.ev env, y.ev env with
  | .pure (.int _ n), .pure (.int _ c) => (0 ≤ n ∧ n ≤ c ∧ bytes * c.toNat ≤ 281474976710656 ∧ c.toNat ≤ maxLen) ∧ K (.rsl H.length 0 n.toNat) (H ++ [⟨List.replicate c.toNat z, size, .live⟩])
  | _, _ => False
 | .store n x v, K => match x.ev env with
  | .ptr b i off => match H[b]? with
   | some r => r.st = .live ∧ (match r.es[i]? with
    | some e => (v.ev env).okv = true ∧ (v.ev env).cells.length = n ∧ off + n ≤ e.cells.length ∧ K .dead (H.set b ⟨r.es.set i (e.put off (v.ev env)), r.size, .live⟩)
    | none => False)
   | none => False
  | _ => False
 | .clr size x, K => match x.ev env with
  | .rsl b off _ => match H[b]? with
   | some r => r.st = .live ∧ r.size = size ∧ K (.tup []) (H.set b ⟨r.es.take off, r.size, .live⟩)
   | none => False
  | _ => False
 | .app size bytes x y, K => match srcOf H size (y.ev env) with
  | none => False
  | some ys => (∀ e ∈ ys, e.cells.length = size) ∧ (match x.ev env with
   | .empty => ys.length * bytes ≤ 140737488355328 ∧ ys.length ≤ maxLen ∧ K (.rsl H.length 0 ys.length) (H ++ [⟨ys, size, .live⟩])
   | .rsl b off len => match H[b]? with
    | some r => r.st = .live ∧ r.size = size ∧ off + len ≤ r.es.length ∧ (len + ys.length) * bytes ≤ 140737488355328 ∧ len + ys.length ≤ maxLen ∧
      K (.rsl H.length 0 (len + ys.length)) (H.set b ⟨[], r.size, .dead⟩ ++ [⟨(r.es.drop off).take len ++ ys, size, .live⟩])
    | none => False
   | _ => False)
 | .call f args, K => CallA P f (args.map (·.ev env)) H K
 | .callv fv args, K => match fv.ev env with
  | .pure (.func (.func f) a c) => CallA P f (a.map .pure ++ args.map (·.ev env) ++ c.map .pure) H K
  | .func (.func f) a c => CallA P f (a ++ args.map (·.ev env) ++ c) H K
  | _ => False
 | op, K => match aFun env H op with
  | some s => K s H
  | none => False
structure AI where
 dst : Option Nat
 guard : Option (Nat × Bool)
 op : AOp
 deriving Inhabited
def putD (d : Option Nat) (s : S) (env : Env) : Env := match d with
 | some d => (d, s) :: env
 | none => env
def aIns (P : Program) (i : AI) (K : Env → Heap → Prop) (env : Env) (H : Heap) : Prop :=
 match i.guard with
 | none => aVal P env H i.op fun s H' => K (putD i.dst s env) H'
 | some (t, b) => match env.get t with
  | .pure (.bool c) => (c = b → aVal P env H i.op fun s H' => K (putD i.dst s env) H') ∧ (c = !b → K (putD i.dst (.tup []) env) H)
  | .tup [] => K (putD i.dst (.tup []) env) H
  | _ => False
def aOps (P : Program) : List AI → (Env → Heap → Prop) → Env → Heap → Prop
 | [], K => K
 | i :: is, K => aIns P i (aOps P is K)
end Go.Vm
/-! The abstract machine, part 3: lemmas on memory: a step of the machine keeps the relation. -/
namespace Go.Vm
open Go Go.RowKit
theorem PRep.one {w : World} {X : Nat → Prop} {v : Value} {d : V} (h : PRep w X v d) (hd : d.isCell = true) : v.cells = #[v] ∧ d.cells = [d] ∧ v.oneCell' = true := by
 cases h <;> simp_all [Value.cells, V.isCell, V.cells, Value.oneCell']
theorem Rep.one {w : World} {X : Nat → Prop} {μ : Mu} {v : Value} {s : S} (h : Rep w X μ v s) (hs : s.isCell = true) : v.cells = #[v] ∧ s.cells = [s] ∧ v.oneCell' = true := by
 cases h with
 | pure v d h =>
  obtain ⟨h1, h2, h3⟩ := h.one (by simpa [S.isCell] using hs)
  exact ⟨h1, by simp [S.cells, h2], h3⟩
 | _ => simp_all [S.isCell, S.cells, Value.cells, Value.oneCell']
theorem Rep.cells {w : World} {X : Nat → Prop} {μ : Mu} {v : Value} {s : S} (h : Rep w X μ v s) (hs : s.okv = true) :
  v.cells.size = s.cells.length ∧ ∀ i, i < s.cells.length → Rep w X μ (v.cells.getD i undef) (s.cells.getD i .dead) := by
 by_cases hc : s.isCell = true
 ·obtain ⟨h1, h2, _⟩ := h.one hc
  rw [h1, h2]
  refine ⟨rfl, fun i hi => ?_⟩
  obtain rfl : i = 0 := by simpa using hi
  exact h
 ·cases h with
  | dead => simp [S.okv] at hs
  | tup => simp [S.okv] at hs
  | agg cs ss hl hc h => exact ⟨hl, h⟩
  | pure v d h =>
   cases h with
   | agg cs vs hl hc h =>
    refine ⟨by simp [Value.cells, S.cells, V.cells, hl], fun i hi => ?_⟩
    have hi' : i < vs.length := by simpa [S.cells, V.cells] using hi
    have := h i hi'
    simp only [Value.cells, S.cells, V.cells]
    rw [List.getD_eq_getElem?_getD, List.getElem?_map]
    rw [List.getD_eq_getElem?_getD] at this
    rw [List.getElem?_eq_getElem hi'] at this ⊢
    exact .pure _ _ (by simpa using this)
   | _ => simp [S.isCell, V.isCell] at hc
  | _ => simp [S.isCell] at hc
/-- the cells of a value that is no dead one are each one cell -/
theorem Rep.cellsOk {w : World} {X : Nat → Prop} {μ : Mu} {v : Value} {s : S} (h : Rep w X μ v s) (hs : s.okv = true) : ∀ c ∈ s.cells, c.isCell = true := by
 by_cases hc : s.isCell = true
 ·obtain ⟨_, h2, _⟩ := h.one hc
  rw [h2]
  simp [hc]
 ·cases h with
  | dead => simp [S.okv] at hs
  | tup => simp [S.okv] at hs
  | agg cs ss hl hc' h => exact hc'
  | pure v d h =>
   cases h with
   | agg cs vs hl hc' h =>
    intro c hcm
    simp only [S.cells, V.cells, List.mem_map] at hcm
    obtain ⟨x, hx, rfl⟩ := hcm
    exact hc' x hx
   | _ => simp [S.isCell, V.isCell] at hc
  | _ => simp [S.isCell] at hc
theorem S.okv_pos {s : S} (h : s.okv = true) : 0 < s.cells.length := by
 cases s <;> simp_all [S.okv, S.cells, List.length_pos_iff]
theorem Keeps.excl {μ : Mu} {H : Heap} {w w' : World} (h : Keeps (owned μ H) w w') : Keeps (excl μ H) w w' := fun k hk hx => h k hk (fun ho => hx (.inl ho))
theorem excl_of {μ μ' : Mu} {H H' : Heap} {n : Nat} (ho : ∀ k, owned μ' H' k → owned μ H k ∨ n ≤ k) (hxo : μ'.xo = μ.xo) : ∀ k, excl μ' H' k → excl μ H k ∨ n ≤ k := by
 rintro k (h | h)
 ·exact (ho k h).imp .inl id
 ·exact .inl (.inr (by rw [← hxo]; exact h))
/-- The general step on own rows: each row that is not dead is either told anew, or untouched. -/
theorem HRep.alter {w w' : World} {μ μ' : Mu} {H H' : Heap} (h : HRep w μ H) (hk : Keeps (owned μ H) w w') (ho : ∀ k, owned μ' H' k → owned μ H k ∨ w.heap.size ≤ k)
  (hμ : ∀ (b : Nat) (l : Loc), μ b = some l → μ' b = some l) (hxo : μ'.xo = μ.xo) (hgrow : w.heap.size ≤ w'.heap.size) (hlen : ∀ (b : Nat) (l : Loc), μ' b = some l → b < H'.length)
  (hrow : ∀ (b : Nat) (r : Row) (l : Loc), H'[b]? = some r → r.st ≠ .dead → μ' b = some l → RowRep w' (excl μ' H') μ' l r ∨ (H[b]? = some r ∧ μ b = some l ∧ (r.st = .live → l.virt = false → w'.heap[l.blk]? = w.heap[l.blk]?)))
  (hinj : ∀ (b b' : Nat) (r r' : Row) (l l' : Loc), H'[b]? = some r → H'[b']? = some r' → r.st = .live → r'.st = .live → μ' b = some l → μ' b' = some l' → l.virt = false → l'.virt = false → l.blk = l'.blk → b = b') :
  HRep w' μ' H' := by
 refine ⟨h.tab.keeps hk.excl (excl_of ho hxo), hlen, fun k hk' => ?_, fun b r l hb hd hl => ?_, hinj⟩
 ·rw [hxo] at hk'
  obtain ⟨h1, h2⟩ := h.xo k hk'
  exact ⟨by omega, fun h3 => by rcases ho k h3 with h4 | h4; exact h2 h4; omega⟩
 rcases hrow b r l hb hd hl with hr | ⟨hb0, hl0, hlive⟩
 ·exact hr
 ·have old := h.row b r l hb0 hd hl0
  have hfz : l.virt = false → r.st = .frozen → r.es ≠ [] → ¬ excl μ' H' l.blk := by
   intro hv hst hne hx
   rcases excl_of ho hxo _ hx with h1 | h1
   ·exact old.frozen hv hst hne h1
   ·have h0 : 0 < r.es.length := List.length_pos_iff.2 hne
    obtain ⟨v, hc, _⟩ := old.cells hv 0 0 h0 old.pos
    have := World.block_lt_of_cell? w _ hc
    simp at this
    omega
  refine ⟨old.size, old.pos, old.virt, old.lens, old.cellOk, old.fits, ?_, ?_, hfz⟩
  ·intro hv i j hi hj
   obtain ⟨v, hc, hr⟩ := old.cells hv i j hi hj
   refine ⟨v, ?_, hr.keeps hk.excl (excl_of ho hxo) hμ⟩
   cases hst : r.st with
   | dead => exact absurd hst hd
   | live => rw [World.cell?_of_block (w := w) (hlive hst hv)]; exact hc
   | frozen => exact hk.excl.cell (old.frozen hv hst (by intro e; rw [e] at hi; simp at hi)) hc
  ·intro hv hst
   obtain ⟨c, t, hc, hs⟩ := old.live hv hst
   exact ⟨c, t, by rw [hlive hst hv]; exact hc, hs⟩
theorem live_lt {w : World} {μ : Mu} {H : Heap} (h : HRep w μ H) {b : Nat} {r : Row} {l : Loc} (hb : H[b]? = some r) (hst : r.st = .live) (hl : μ b = some l) (hv : l.virt = false) : l.blk < w.heap.size := by
 obtain ⟨c, t, hc, _⟩ := (h.row b r l hb (by rw [hst]; decide) hl).live hv hst
 exact (Array.getElem?_eq_some_iff.1 hc).1
theorem owned_lt {w : World} {μ : Mu} {H : Heap} (h : HRep w μ H) {k : Nat} (hk : owned μ H k) : k < w.heap.size := by
 obtain ⟨b, r, l, hb, hst, hl, hv, rfl⟩ := hk
 exact live_lt h hb hst hl hv
theorem get_push {α : Type} {l : List α} {x y : α} {b : Nat} (h : (l ++ [x])[b]? = some y) : l[b]? = some y ∨ (b = l.length ∧ y = x) := by
 rw [List.getElem?_append] at h
 split at h
 ·exact .inl h
 ·rename_i hb
  right
  have : b - l.length = 0 := by
   rcases Nat.eq_zero_or_pos (b - l.length) with h0 | h0
   ·exact h0
   ·rw [List.getElem?_cons] at h; simp [show b - l.length ≠ 0 by omega] at h
  rw [this] at h
  simp at h
  exact ⟨by omega, h.symm⟩
theorem Keeps.alloc (X : Nat → Prop) (w : World) (o : Obj) : Keeps X w (w.alloc o) := fun k hk _ => Below.heap_alloc w o k hk
theorem Fr.alloc (X : Nat → Prop) (w : World) (o : Obj) : Fr X w (w.alloc o) := ⟨rfl, rfl, rfl, by simp, Keeps.alloc X w o⟩
/-- one place more -/
def Mu.add (μ : Mu) (b : Nat) (l : Loc) : Mu := ⟨fun k => if k = b then some l else μ k, μ.xo⟩
theorem Mu.add_self (μ : Mu) (b : Nat) (l : Loc) : μ.add b l b = some l := by simp [Mu.add]
theorem Mu.add_ne {μ : Mu} {b k : Nat} {l : Loc} (h : k ≠ b) : μ.add b l k = μ k := by simp [Mu.add, h]
/-- A new row, under a name that has no place yet. -/
theorem HRep.push {w : World} {μ : Mu} {H : Heap} (h : HRep w μ H) {H1 : Heap} {nb : Nat} (hnb : μ nb = none)
  (c : Array Value) (t : TypeId) (es : List S) (size : Nat) (hN : H1[nb]? = some ⟨es, size, .live⟩) (hl1 : H.length ≤ H1.length) (h1 : ∀ (b : Nat) (r : Row), b ≠ nb → H1[b]? = some r → r.st ≠ .dead → H[b]? = some r)
  (hpos : 0 < size) (hlen : ∀ e ∈ es, e.cells.length = size) (hok : ∀ e ∈ es, ∀ s ∈ e.cells, s.isCell = true)
  (hsz : es.length * size ≤ c.size) (hrep : ∀ i j, i < es.length → j < size → Rep w (excl μ H) μ (c.getD (i * size + j) undef) ((es.getD i .dead).cells.getD j .dead)) :
  HRep (w.alloc (.cells c t)) (μ.add nb ⟨w.heap.size, 0, size, c.size, false⟩) H1 ∧
  (∀ k, owned (μ.add nb ⟨w.heap.size, 0, size, c.size, false⟩) H1 k → owned μ H k ∨ w.heap.size ≤ k) ∧
  (∀ (b : Nat) (l : Loc), μ b = some l → (μ.add nb ⟨w.heap.size, 0, size, c.size, false⟩) b = some l) := by
 have hμ : ∀ (b : Nat) (l : Loc), μ b = some l → (μ.add nb (⟨w.heap.size, 0, size, c.size, false⟩ : Loc)) b = some l := by
  intro b l hb
  rw [Mu.add_ne (by rintro rfl; rw [hnb] at hb; cases hb)]
  exact hb
 have hlocOf : ∀ (b : Nat) (l : Loc), (μ.add nb (⟨w.heap.size, 0, size, c.size, false⟩ : Loc)) b = some l → b ≠ nb → μ b = some l := by
  intro b l hb hne
  rw [Mu.add_ne hne] at hb
  exact hb
 have hlocNew : ∀ (l : Loc), (μ.add nb (⟨w.heap.size, 0, size, c.size, false⟩ : Loc)) nb = some l → l = ⟨w.heap.size, 0, size, c.size, false⟩ := by
  intro l hb
  rw [Mu.add_self] at hb
  exact (Option.some.inj hb).symm
 have ho : ∀ k, owned (μ.add nb (⟨w.heap.size, 0, size, c.size, false⟩ : Loc)) H1 k → owned μ H k ∨ w.heap.size ≤ k := by
  rintro k ⟨b, r, l, hb, hst, hl, hv, rfl⟩
  by_cases hne : b = nb
  ·subst hne
   rw [hlocNew l hl]; exact .inr (Nat.le_refl _)
  ·exact .inl ⟨b, r, l, h1 b r hne hb (by rw [hst]; decide), hst, hlocOf b l hl hne, hv, rfl⟩
 refine ⟨h.alter (Keeps.alloc _ w _) ho hμ rfl (by simp) ?_ ?_ ?_, ho, hμ⟩
 ·intro b l hb
  by_cases hne : b = nb
  ·subst hne; exact (List.getElem?_eq_some_iff.1 hN).1
  ·exact Nat.lt_of_lt_of_le (h.dom b l (hlocOf b l hb hne)) hl1
 ·intro b r l hb hd hl
  by_cases hne : b = nb
  ·subst hne
   rw [hN] at hb
   cases hb
   rw [hlocNew l hl]
   refine .inl ⟨rfl, hpos, fun hv => by simp at hv, hlen, hok, fun _ => by simpa using hsz, ?_, ?_, ?_⟩
   ·intro _ i j hi hj
    have hi : i < es.length := hi
    have hj : j < size := hj
    have hlt : i * size + j < c.size := by
     have : (i + 1) * size ≤ es.length * size := Nat.mul_le_mul_right _ hi
     rw [Nat.add_mul] at this
     omega
    refine ⟨c.getD (i * size + j) undef, ?_, (hrep i j hi hj).keeps (Keeps.alloc _ w _) (excl_of ho rfl) hμ⟩
    simp only [Nat.zero_add]
    rw [World.cell?_alloc_new]
    simp [Array.getD_eq_getD_getElem?, Array.getElem?_eq_getElem hlt]
   ·intro _ _
    exact ⟨c, t, heap_alloc_new w _, rfl⟩
   ·intro _ hst
    simp at hst
  ·have hb0 := h1 b r hne hb hd
   refine .inr ⟨hb0, hlocOf b l hl hne, fun hst hv => ?_⟩
   exact Below.heap_alloc w _ _ (live_lt h hb0 hst (hlocOf b l hl hne) hv)
 ·intro b b' r r' l l' hb hb' hst hst' hl hl' hv hv' heq
  by_cases hne : b = nb <;> by_cases hne' : b' = nb
  ·rw [hne, hne']
  ·subst hne
   have := live_lt h (h1 b' r' hne' hb' (by rw [hst']; decide)) hst' (hlocOf b' l' hl' hne') hv'
   rw [hlocNew l hl] at heq
   simp at heq
   omega
  ·subst hne'
   have := live_lt h (h1 b r hne hb (by rw [hst]; decide)) hst (hlocOf b l hl hne) hv
   rw [hlocNew l' hl'] at heq
   simp at heq
   omega
  ·exact h.inj b b' r r' l l' (h1 b r hne hb (by rw [hst]; decide)) (h1 b' r' hne' hb' (by rw [hst']; decide)) hst hst' (hlocOf b l hl hne) (hlocOf b' l' hl' hne') hv hv' heq
theorem HRep.fresh {w : World} {μ : Mu} {H : Heap} (h : HRep w μ H) : μ H.length = none := by
 cases hb : μ H.length with
 | none => rfl
 | some l => exact absurd (h.dom _ l hb) (Nat.lt_irrefl _)
theorem Rel.step {w0 : World} {X0 : Nat → Prop} {μ0 : Mu} {n : Nat} {env : Env} {H H' : Heap} {a : Act} {w w' : World} {μ μ' : Mu} {v : Value} {s : S}
  (h : Rel w0 X0 μ0 n env H a w μ) (st : Step w μ H w' μ' H' v s) (d : Nat) (hd : d < n) : Rel w0 X0 μ0 n ((d, s) :: env) H' (a.put (some d) v) w' μ' := by
 refine ⟨by simp [Act.put, h.tmps], h.defers, fun d' => ?_, st.heap, ?_, ?_, fun b l hb => st.ext b l (h.pre b l hb), st.xo.trans h.xo⟩
 ·simp only [Act.put, Env.get_cons]
  by_cases hdd : d = d'
  ·subst hdd
   rw [if_pos rfl]
   have : (a.tmps.setIfInBounds d v).getD d undef = v := by simp [Array.getD_eq_getD_getElem?, h.tmps, hd]
   rw [this]
   exact st.val
  ·rw [if_neg hdd]
   have : (a.tmps.setIfInBounds d v).getD d' undef = a.tmps.getD d' undef := by simp [Array.getD_eq_getD_getElem?, Array.getElem?_setIfInBounds_ne hdd]
   rw [this]
   exact (h.env d').keeps st.fr.keep.excl (excl_of st.own st.xo) st.ext
 ·refine ⟨st.fr.os.trans h.fr.os, st.fr.tape.trans h.fr.tape, st.fr.output.trans h.fr.output, Nat.le_trans h.fr.size st.fr.size, fun k hk hx => ?_⟩
  rw [st.fr.keep k (Nat.lt_of_lt_of_le hk h.fr.size) (fun ho => by rcases h.own k ho with h1 | h1; exact hx h1; omega)]
  exact h.fr.keep k hk hx
 ·intro k hk
  rcases st.own k hk with h1 | h1
  ·exact h.own k h1
  ·exact .inr (Nat.le_trans h.fr.size h1)
theorem Rel.step_none {w0 : World} {X0 : Nat → Prop} {μ0 : Mu} {n : Nat} {env : Env} {H H' : Heap} {a : Act} {w w' : World} {μ μ' : Mu} {v : Value} {s : S}
  (h : Rel w0 X0 μ0 n env H a w μ) (st : Step w μ H w' μ' H' v s) : Rel w0 X0 μ0 n env H' a w' μ' := by
 refine ⟨h.tmps, h.defers, fun d' => (h.env d').keeps st.fr.keep.excl (excl_of st.own st.xo) st.ext, st.heap, ?_, ?_, fun b l hb => st.ext b l (h.pre b l hb), st.xo.trans h.xo⟩
 ·refine ⟨st.fr.os.trans h.fr.os, st.fr.tape.trans h.fr.tape, st.fr.output.trans h.fr.output, Nat.le_trans h.fr.size st.fr.size, fun k hk hx => ?_⟩
  rw [st.fr.keep k (Nat.lt_of_lt_of_le hk h.fr.size) (fun ho => by rcases h.own k ho with h1 | h1; exact hx h1; omega)]
  exact h.fr.keep k hk hx
 ·intro k hk
  rcases st.own k hk with h1 | h1
  ·exact h.own k h1
  ·exact .inr (Nat.le_trans h.fr.size h1)
theorem Step.same {w : World} {μ : Mu} {H : Heap} (h : HRep w μ H) {v : Value} {s : S} (hv : Rep w (excl μ H) μ v s) : Step w μ H w μ H v s :=
 ⟨h, hv, fun _ _ h => h, rfl, Fr.refl _ _, fun _ h => .inl h⟩
end Go.Vm
/-! The abstract machine, part 4: the operations that only compute or read do in the model what 'aFun' says. -/
namespace Go.Vm
open Go Go.RowKit
def aggT (P : Program) (t : TypeId) : Option Bool := match P.underlying t with
 | some (.struct _) => some true
 | some (.array _ _) => some true
 | some _ => some false
 | none => none
def sizeT (P : Program) (t : TypeId) : Option Nat := (P.info? t).map (·.size)
theorem addr_add (b o j : Nat) : (⟨b, o, none⟩ : Addr).add j = ⟨b, o + j, none⟩ := by
 unfold Addr.add; split <;> simp_all
theorem run_isAgg {P : Program} {t : TypeId} {agg : Bool} (h : aggT P t = some agg) (w : World) : (isAgg t).run P w = .ok agg w := by
 unfold aggT at h
 cases hu : P.underlying t with
 | none => simp [hu] at h
 | some d => cases d <;> simp [hu] at h <;> subst h <;> simp [isAgg, run_underlying hu]
theorem run_sizeT {P : Program} {t : TypeId} {n : Nat} (h : sizeT P t = some n) (w : World) : (sizeOf t).run P w = .ok n w := by
 unfold sizeT at h
 cases hi : P.info? t with
 | none => simp [hi] at h
 | some i => simp [hi] at h; subst h; simp [sizeOf, typeInfo, hi]
theorem S.allPure_eq {ss : List S} {vs : List V} (h : S.allPure ss = some vs) : ss = vs.map .pure := by
 induction ss generalizing vs with
 | nil => simp [S.allPure] at h; subst h; rfl
 | cons s r ih =>
  cases s with
  | pure v =>
   simp only [S.allPure] at h
   split at h
   ·rename_i vs' h'
    simp at h
    subst h
    rw [ih h']; rfl
   ·cases h
  | _ => simp [S.allPure] at h
theorem Rep.pure_inv {w : World} {X : Nat → Prop} {μ : Mu} {v : Value} {d : V} (h : Rep w X μ v (.pure d)) : PRep w X v d := by
 cases h with
 | pure _ _ h => exact h
theorem Rep.mkAgg {w : World} {X : Nat → Prop} {μ : Mu} {cs : Array Value} {ss : List S} (hl : cs.size = ss.length) (hc : ∀ s ∈ ss, s.isCell = true)
  (h : ∀ i, i < ss.length → Rep w X μ (cs.getD i undef) (ss.getD i .dead)) : Rep w X μ (.agg cs) (S.mkAgg ss) := by
 unfold S.mkAgg
 split
 ·rename_i vs hvs
  have := S.allPure_eq hvs
  subst this
  refine .pure _ _ (.agg _ _ (by simpa using hl) (fun v hv => hc (.pure v) (List.mem_map_of_mem hv)) fun i hi => ?_)
  have h1 := h i (by simpa using hi)
  rw [List.getD_eq_getElem?_getD, List.getElem?_map, List.getElem?_eq_getElem hi] at h1
  rw [List.getD_eq_getElem?_getD, List.getElem?_eq_getElem hi]
  exact h1.pure_inv
 ·exact .agg _ _ hl hc h
theorem Rep.ofCells {w : World} {X : Nat → Prop} {μ : Mu} {cs : Array Value} {e : S} (hne : e.isCell = false) (hc : ∀ s ∈ e.cells, s.isCell = true) (hl : cs.size = e.cells.length)
  (h : ∀ i, i < e.cells.length → Rep w X μ (cs.getD i undef) (e.cells.getD i .dead)) : Rep w X μ (.agg cs) e := by
 cases e with
 | pure v =>
  cases v with
  | agg vs =>
   refine .pure _ _ (.agg _ _ (by simpa [S.cells, V.cells] using hl) (fun v hv => hc (.pure v) (by simpa [S.cells, V.cells] using hv)) fun i hi => ?_)
   have h1 := h i (by simpa [S.cells, V.cells] using hi)
   simp only [S.cells, V.cells] at h1
   rw [List.getD_eq_getElem?_getD, List.getElem?_map, List.getElem?_eq_getElem hi] at h1
   rw [List.getD_eq_getElem?_getD, List.getElem?_eq_getElem hi]
   exact h1.pure_inv
  | _ => simp [S.isCell, V.isCell] at hne
 | agg ss => exact .agg _ _ hl hc h
 | tup ss => simp [S.cells, S.isCell] at hc
 | dead => exact absurd (hc .dead (by simp [S.cells])) (by decide)
 | _ => simp [S.isCell] at hne
/-- The cells of an element lie at an address. -/
def ElemAt (w : World) (X : Nat → Prop) (μ : Mu) (blk o : Nat) (e : S) : Prop :=
 (∀ s ∈ e.cells, s.isCell = true) ∧ ∀ j, j < e.cells.length → ∃ v, w.cell? ⟨blk, o + j, none⟩ = some v ∧ Rep w X μ v (e.cells.getD j .dead)
theorem getD_map_range (f : Nat → Value) (n i : Nat) (h : i < n) : (((List.range n).map f).toArray).getD i undef = f i := by
 simp [Array.getD_eq_getD_getElem?, h]
theorem run_loadVar {P : Program} {w : World} {X : Nat → Prop} {μ : Mu} {t : TypeId} {agg : Bool} {n blk o off : Nat} {e s : S}
  (ht : aggT P t = some agg) (hn : sizeT P t = some n) (he : ElemAt w X μ blk o e) (h : partF agg n e off = some s) :
  ∃ v, (loadVar t ⟨blk, o + off, none⟩).run P w = .ok v w ∧ Rep w X μ v s := by
 obtain ⟨hok, hcell⟩ := he
 have hf : ∀ j, j < e.cells.length → w.cell? ⟨blk, o + j, none⟩ = some ((w.cell? ⟨blk, o + j, none⟩).getD undef) ∧ Rep w X μ ((w.cell? ⟨blk, o + j, none⟩).getD undef) (e.cells.getD j .dead) := by
  intro j hj
  obtain ⟨v, h1, h2⟩ := hcell j hj
  rw [h1]; exact ⟨rfl, h2⟩
 generalize hfd : (fun j => (w.cell? ⟨blk, o + j, none⟩).getD undef) = f at *
 have hf' : ∀ j, j < e.cells.length → w.cell? ⟨blk, o + j, none⟩ = some (f j) ∧ Rep w X μ (f j) (e.cells.getD j .dead) := by
  intro j hj; rw [← hfd]; exact hf j hj
 unfold partF at h
 cases agg with
 | true =>
  simp only [if_true] at h
  have fin : ∀ (_ : off + n ≤ e.cells.length), (loadVar t ⟨blk, o + off, none⟩).run P w = .ok (.agg ((List.range n).map (fun j => f (off + j))).toArray) w := by
   intro hle
   have := run_loadCells (P := P) w ⟨blk, o + off, none⟩ n (fun j => f (off + j)) (fun j hj => by
    rw [addr_add, Nat.add_assoc]; exact (hf' (off + j) (by omega)).1)
   simp [loadVar, run_isAgg ht, run_sizeT hn, this]
  split at h
  ·rename_i hc
   obtain ⟨rfl, rfl, hcell'⟩ := hc
   simp only [Option.some.injEq] at h
   subst h
   refine ⟨_, fin (by omega), ?_⟩
   refine Rep.ofCells hcell' hok (by simp) fun i hi => ?_
   rw [getD_map_range _ _ _ hi, Nat.zero_add]
   exact (hf' i hi).2
  ·split at h
   ·rename_i hle
    simp only [Option.some.injEq] at h
    subst h
    have hlen : ((e.cells.drop off).take n).length = n := by simp; omega
    refine ⟨_, fin hle, Rep.mkAgg (by simp; omega) (fun s hs => hok s (List.mem_of_mem_drop (List.mem_of_mem_take hs))) fun i hi => ?_⟩
    rw [hlen] at hi
    rw [getD_map_range _ _ _ hi]
    have := (hf' (off + i) (by omega)).2
    rw [List.getD_eq_getElem?_getD] at this ⊢
    rw [List.getElem?_take_of_lt hi, List.getElem?_drop]
    exact this
   ·cases h
 | false =>
  simp only [Bool.false_eq_true, if_false] at h
  obtain ⟨hlt, hs⟩ := List.getElem?_eq_some_iff.1 h
  obtain ⟨h1, h2⟩ := hf' off hlt
  refine ⟨f off, ?_, ?_⟩
  ·simp [loadVar, run_isAgg ht, h1]
  ·rw [List.getD_eq_getElem?_getD, h] at h2
   exact h2
theorem elemAt_ptr {w : World} {μ : Mu} {H : Heap} (hrep : HRep w μ H) {b i : Nat} {l : Loc} {r : Row} {e : S} (hl : μ b = some l) (hv : l.virt = false) (hr : rowAt H b = some r) (he : r.es[i]? = some e) :
  ElemAt w (excl μ H) μ l.blk (l.base + i * l.size) e := by
 have hb : H[b]? = some r ∧ r.st ≠ .dead := by
  unfold rowAt at hr
  split at hr
  ·rename_i r' h'
   split at hr
   ·cases hr
   ·simp at hr; subst hr; exact ⟨h', by assumption⟩
  ·cases hr
 have rr := hrep.row b r l hb.1 hb.2 hl
 obtain ⟨hlt, hge⟩ := List.getElem?_eq_some_iff.1 he
 have hm : e ∈ r.es := List.mem_of_getElem? he
 refine ⟨rr.cellOk e hm, fun j hj => ?_⟩
 rw [rr.lens e hm] at hj
 have := rr.cells hv i j hlt hj
 rw [show r.es.getD i .dead = e by simp [List.getD_eq_getElem?_getD, he]] at this
 exact this
theorem elemAt_pptr {w : World} {X : Nat → Prop} {μ : Mu} {blk o : Nat} {d : V} {f : Nat → Value} (hcell : ∀ v ∈ d.cells, v.isCell = true)
  (hw : ∀ j, j < d.cells.length → w.cell? ⟨blk, o + j, none⟩ = some (f j)) (hr : ∀ j, j < d.cells.length → PRep w X (f j) (d.cells.getD j default)) :
  ElemAt w X μ blk o (.pure d) := by
 refine ⟨fun s hs => ?_, fun j hj => ?_⟩
 ·simp only [S.cells, List.mem_map] at hs
  obtain ⟨v, hv, rfl⟩ := hs
  exact hcell v hv
 ·have hj' : j < d.cells.length := by simpa [S.cells] using hj
  refine ⟨f j, hw j hj', ?_⟩
  simp only [S.cells]
  rw [List.getD_eq_getElem?_getD, List.getElem?_map, List.getElem?_eq_getElem hj']
  have := hr j hj'
  rw [List.getD_eq_getElem?_getD, List.getElem?_eq_getElem hj'] at this
  exact .pure _ _ this
/-- the address that a pointer has, and what lies there -/
theorem Rep.ptr_inv {w : World} {X : Nat → Prop} {μ : Mu} {v : Value} {b i off : Nat} (h : Rep w X μ v (.ptr b i off)) : ∃ l, μ b = some l ∧ l.virt = false ∧ v = .pointer (some ⟨l.blk, l.base + i * l.size + off, none⟩) := by
 cases h with
 | ptr _ _ _ l hl hv => exact ⟨l, hl, hv, rfl⟩
theorem load_sound {P : Program} {w : World} {μ : Mu} {H : Heap} (hrep : HRep w μ H) {t : TypeId} {agg : Bool} {n : Nat} (ht : aggT P t = some agg) (hn : sizeT P t = some n) {av : Value} {env : Env} {x : O} {s : S}
  (hr : Rep w (excl μ H) μ av (x.ev env)) (h : aFun env H (.load agg n x) = some s) : ∃ v, (Instr.loadAt t av).run P w = .ok v w ∧ Rep w (excl μ H) μ v s := by
 simp only [aFun] at h
 split at h
 ·rename_i b i off heq
  rw [heq] at hr
  obtain ⟨l, hl, hv, rfl⟩ := hr.ptr_inv
  split at h
  ·rename_i r hrow
   split at h
   ·rename_i e he
    obtain ⟨v, h1, h2⟩ := run_loadVar (P := P) ht hn (elemAt_ptr hrep hl hv hrow he) h
    exact ⟨v, by simpa [Instr.loadAt, Instr.sureAddr] using h1, h2⟩
   ·cases h
  ·cases h
 ·rename_i d off heq
  rw [heq] at hr
  cases hr with
  | pptr blk o _ _ f hz hx hcell hw hr =>
   obtain ⟨v, h1, h2⟩ := run_loadVar (P := P) (μ := μ) ht hn (elemAt_pptr hcell hw hr) h
   exact ⟨v, by simpa [Instr.loadAt, Instr.sureAddr] using h1, h2⟩
 ·cases h
/-- a part of an aggregate that is at hand -/
theorem part_sound {P : Program} {w : World} {X : Nat → Prop} {μ : Mu} {t : TypeId} {agg : Bool} {n off : Nat} (ht : aggT P t = some agg) (hn : sizeT P t = some n) {cs : Array Value} {e s : S}
  (hr : Rep w X μ (.agg cs) e) (hz : e.okv = true) (h : partF agg n e off = some s) : ∃ v, (part t cs off).run P w = .ok v w ∧ Rep w X μ v s := by
 obtain ⟨hl, hc⟩ := hr.cells hz
 have hok := hr.cellsOk hz
 simp only [Value.cells] at hl hc
 unfold partF at h
 cases agg with
 | true =>
  simp only [if_true] at h
  split at h
  ·rename_i hcnd
   obtain ⟨rfl, rfl, _⟩ := hcnd
   simp only [Option.some.injEq] at h
   subst h
   refine ⟨_, by simp [part, run_isAgg ht, run_sizeT hn]; rfl, ?_⟩
   rw [← hl]
   simpa using hr
  ·split at h
   ·rename_i hle
    simp only [Option.some.injEq] at h
    subst h
    have hlen : ((e.cells.drop off).take n).length = n := by simp; omega
    refine ⟨_, by simp [part, run_isAgg ht, run_sizeT hn]; rfl, Rep.mkAgg (by simp; omega) (fun s hs => hok s (List.mem_of_mem_drop (List.mem_of_mem_take hs))) fun i hi => ?_⟩
    rw [hlen] at hi
    have := hc (off + i) (by omega)
    rw [List.getD_eq_getElem?_getD] at this ⊢
    rw [List.getElem?_take_of_lt hi, List.getElem?_drop]
    have hcs : (cs.extract off (off + n)).getD i undef = cs.getD (off + i) undef := by
     simp [Array.getD_eq_getD_getElem?, Array.getElem?_extract]
     rw [if_pos (by omega)]
    rw [hcs]
    exact this
   ·cases h
 | false =>
  simp only [Bool.false_eq_true, if_false] at h
  obtain ⟨hlt, hs⟩ := List.getElem?_eq_some_iff.1 h
  have h2 := hc off hlt
  rw [List.getD_eq_getElem?_getD, h] at h2
  obtain ⟨v, hcs⟩ : ∃ v, cs[off]? = some v := ⟨_, Array.getElem?_eq_getElem (by omega)⟩
  rw [Array.getD_eq_getD_getElem?, hcs] at h2
  exact ⟨v, by simp [part, run_isAgg ht, hcs], h2⟩
end Go.Vm
/-! The abstract machine, part 5: integers, strings, slices, addresses: each operation against the model. -/
namespace Go.Vm
open Go Go.RowKit
section inv
variable {w : World} {X : Nat → Prop} {μ : Mu} {v : Value}
theorem Rep.int_inv {k : IntKind} {n : Int} (h : Rep w X μ v (.pure (.int k n))) : v = .int k n ∧ (Lit.int k n).wf = true := by
 cases h.pure_inv with
 | int _ _ hw => exact ⟨rfl, hw⟩
theorem Rep.bool_inv {b : Bool} (h : Rep w X μ v (.pure (.bool b))) : v = .bool b := by
 cases h.pure_inv with
 | bool _ => rfl
theorem Rep.str_inv {s : List UInt8} (h : Rep w X μ v (.pure (.str s))) : ∃ b : ByteArray, v = .string b ∧ b.data.toList = s ∧ b.size ≤ maxLen := by
 cases h.pure_inv with
 | str b hb => exact ⟨b, rfl, rfl, hb⟩
theorem Rep.empty_inv (h : Rep w X μ v .empty) : ∃ a : Option Addr, v = .slice a 0 0 ∧ ∀ x, a = some x → True := by
 cases h with
 | empty a ha => exact ⟨a, rfl, ha⟩
theorem Rep.mkInt {k : IntKind} {n : Int} (h : (Lit.int k n).wf = true) : Rep w X μ (.int k n) (.pure (.int k n)) := .pure _ _ (.int _ _ h)
theorem Rep.mkBool {b : Bool} : Rep w X μ (.bool b) (.pure (.bool b)) := .pure _ _ (.bool _)
end inv
theorem wf_tmod {k : IntKind} {a b : Int} (ha : (Lit.int k a).wf = true) : (Lit.int k (a.tmod b)).wf = true := by
 have h1 : (0 ≤ a → 0 ≤ a.tmod b ∧ a.tmod b ≤ a) ∧ (a ≤ 0 → a ≤ a.tmod b ∧ a.tmod b ≤ 0) := by
  constructor
  ·intro h
   obtain ⟨m, rfl⟩ := Int.eq_ofNat_of_zero_le h
   have e : (m : Int).tmod b = ((m % b.natAbs : Nat) : Int) := by
    cases b with
    | ofNat n => rfl
    | negSucc n => rfl
   rw [e]
   have := Nat.mod_le m b.natAbs
   omega
  ·intro h
   obtain ⟨m, hm⟩ := Int.eq_ofNat_of_zero_le (show 0 ≤ -a by omega)
   obtain rfl : a = -(m : Int) := by omega
   have e : (-(m : Int)).tmod b = -((m % b.natAbs : Nat) : Int) := by
    rw [Int.neg_tmod]
    congr 1
    cases b with
    | ofNat n => rfl
    | negSucc n => rfl
   rw [e]
   have := Nat.mod_le m b.natAbs
   omega
 have hk : k.min ≤ 0 ∧ 0 ≤ k.max := by cases k <;> decide
 simp only [Lit.wf, Bool.and_eq_true, decide_eq_true_eq] at ha ⊢
 rcases Int.le_total 0 a with h | h
 ·have := h1.1 h; omega
 ·have := h1.2 h; omega
theorem wf_shr {k : IntKind} {a : Int} (n : Nat) (ha : (Lit.int k a).wf = true) : (Lit.int k (a.fdiv (2 ^ n))).wf = true := by
 have hp : (0 : Int) < 2 ^ n := Int.pow_pos (by decide)
 rw [Int.fdiv_eq_ediv_of_nonneg _ (by omega)]
 have hk : k.min ≤ 0 ∧ 0 ≤ k.max := by cases k <;> decide
 simp only [Lit.wf, Bool.and_eq_true, decide_eq_true_eq] at ha ⊢
 rcases Int.le_total 0 a with h | h
 ·have h0 : 0 ≤ a / 2 ^ n := Int.ediv_nonneg h (by omega)
  have h1 : a / 2 ^ n ≤ a := Int.ediv_le_self _ h
  omega
 ·have h1 : a / 2 ^ n ≤ 0 := by
   have := Int.ediv_le_ediv hp h
   simpa using this
  have h2 : a ≤ a / 2 ^ n := by
   rw [Int.le_ediv_iff_mul_le hp]
   have h3 : (1 : Int) ≤ 2 ^ n := by omega
   have := Int.mul_le_mul_of_nonpos_left h h3
   omega
  omega
theorem intF_sound {P : Program} {w : World} {X : Nat → Prop} {op : BinOp} {t : TypeId} {k k' : IntKind} {a b : Int} (ha : (Lit.int k a).wf = true) (hkk : isShift op = true ∨ k = k') {r : V} (h : intF op k a b = some r) :
  ∃ v, (binOp op t (.int k a) (.int k' b)).run P w = .ok v w ∧ PRep w X v r := by
 have shiftCase : isShift op = true → ∃ v, (binOp op t (.int k a) (.int k' b)).run P w = .ok v w ∧ PRep w X v r := by
  intro hs
  cases op <;> simp [isShift] at hs
  ·simp only [intF] at h
   split at h
   ·cases h
   ·rename_i hb
    simp only [Option.some.injEq] at h
    subst h
    exact ⟨_, by simp [binOp, Op.shift, hb], .int _ _ (wf_wrap _ _)⟩
  ·simp only [intF] at h
   split at h
   ·cases h
   ·rename_i hb
    simp only [Option.some.injEq] at h
    subst h
    exact ⟨_, by simp [binOp, Op.shift, hb], .int _ _ (wf_shr _ ha)⟩
 by_cases hs : isShift op = true
 ·exact shiftCase hs
 ·have hk : k = k' := hkk.resolve_left hs
  subst hk
  cases op <;> simp [isShift] at hs <;> simp only [intF] at h
  case quo =>
   split at h
   ·cases h
   ·rename_i hb
    simp only [Option.some.injEq] at h
    subst h
    exact ⟨_, by simp [binOp, Op.intDiv, hb], .int _ _ (wf_wrap _ _)⟩
  case rem =>
   split at h
   ·cases h
   ·rename_i hb
    simp only [Option.some.injEq] at h
    subst h
    exact ⟨_, by simp [binOp, Op.intDiv, hb], .int _ _ (wf_tmod ha)⟩
  all_goals
   simp only [Option.some.injEq] at h
   subst h
   first
    | (refine ⟨.int k _, ?_, .int _ _ (wf_wrap _ _)⟩; simp only [binOp, ne_eq, not_true_eq_false, if_false]; rfl)
    | (refine ⟨.bool _, ?_, .bool _⟩; simp only [binOp, ne_eq, not_true_eq_false, if_false]; rfl)
section addr
variable {P : Program} {w : World} {μ : Mu} {H HF : Heap}
theorem rowAt_of (hF : ∀ (b : Nat) (l : Loc), μ b = some l → HF[b]? = H[b]?) {b : Nat} {l : Loc} (hl : μ b = some l) {r : Row} (h : rowAt HF b = some r) : rowAt H b = some r := by
 unfold rowAt at *
 rw [hF b l hl] at h
 exact h
theorem rowAt_inv {b : Nat} {r : Row} (h : rowAt H b = some r) : H[b]? = some r ∧ r.st ≠ .dead := by
 unfold rowAt at h
 split at h
 ·rename_i r' h'
  split at h
  ·cases h
  ·simp at h; subst h; exact ⟨h', by assumption⟩
 ·cases h
theorem idxA_sound (hrep : HRep w μ H) (hF : ∀ (b : Nat) (l : Loc), μ b = some l → HF[b]? = H[b]?) {t e : TypeId} {size : Nat} (ht : P.underlying t = some (.slice e)) (hs : sizeT P e = some size)
  {xv iv : Value} {env : Env} {x i : O} {s : S} (hx : Rep w (excl μ H) μ xv (x.ev env)) (hi : Rep w (excl μ H) μ iv (i.ev env)) (h : aFun env HF (.idxA size x i) = some s) :
  ∃ v, (Instr.indexAt t xv iv).run P w = .ok v w ∧ Rep w (excl μ H) μ v s := by
 simp only [aFun] at h
 split at h
 ·rename_i es k n hxe hie
  rw [hxe] at hx
  rw [hie] at hi
  obtain ⟨rfl, _⟩ := hi.int_inv
  split at h
  ·rename_i h0
   split at h
   ·rename_i e' hget
    split at h
    ·rename_i hsz
     simp only [Option.some.injEq] at h
     subst h
     obtain ⟨hlt, _⟩ := List.getElem?_eq_some_iff.1 hget
     cases hx.pure_inv with
     | nils => simp at hget
     | sl blk off len cap size' es f hz hl hc hm hx' hs' hcell hw hr =>
      have hmem := List.mem_of_getElem? hget
      have hsz' : size' = size := by rw [← hs' _ hmem, hsz]
      subst hsz'
      refine ⟨.pointer (some ⟨blk, off + n.toNat * size' + 0, none⟩), ?_, ?_⟩
      ·have hn : n < (len : Int) := by omega
       simp [Instr.indexAt, run_underlying ht, asIntOf, h0, hn, run_sizeT hs, addr_add]
      ·refine .pptr blk (off + n.toNat * size') e' 0 (fun j => f (n.toNat * size' + j)) (by omega) (hx' (List.ne_nil_of_mem hmem)) (hcell _ hmem) (fun j hj => ?_) (fun j hj => ?_)
       ·exact hw n.toNat j hlt (by omega)
       ·have := hr n.toNat j hlt (by omega)
        rw [show es.getD n.toNat default = e' by simp [List.getD_eq_getElem?_getD, hget]] at this
        exact this
    ·cases h
   ·cases h
  ·cases h
 ·rename_i b off len k n hxe hie
  rw [hxe] at hx
  rw [hie] at hi
  obtain ⟨rfl, _⟩ := hi.int_inv
  split at h
  ·rename_i h0
   split at h
   ·rename_i r hrow
    split at h
    ·rename_i hsz
     simp only [Option.some.injEq] at h
     subst h
     cases hx with
     | rslz => omega
     | rsl _ _ _ cap l hl hv hc hm hr =>
      obtain ⟨hb, hd⟩ := rowAt_inv (rowAt_of hF hl hrow)
      have rr := hrep.row b r l hb hd hl
      have hsz' : l.size = size := by rw [← rr.size, hsz]
      refine ⟨.pointer (some ⟨l.blk, l.base + (off + n.toNat) * l.size + 0, none⟩), ?_, .ptr b (off + n.toNat) 0 l hl hv⟩
      simp [Instr.indexAt, run_underlying ht, asIntOf, h0.1, h0.2, run_sizeT hs, addr_add, hsz', Nat.add_mul, Nat.add_assoc]
    ·cases h
   ·cases h
  ·cases h
 ·cases h
theorem idxAA_sound {t e : TypeId} {len size : Nat} (ht : P.underlying t = some (.array len e)) (hs : sizeT P e = some size) {X : Nat → Prop}
  {xv iv : Value} {env : Env} {x i : O} {s : S} (hx : Rep w X μ xv (x.ev env)) (hi : Rep w X μ iv (i.ev env)) (h : aFun env HF (.idxAA len size x i) = some s) :
  ∃ v, (Instr.indexAt t xv iv).run P w = .ok v w ∧ Rep w X μ v s := by
 simp only [aFun] at h
 split at h
 ·rename_i b e' o k n hxe hie
  rw [hxe] at hx
  rw [hie] at hi
  obtain ⟨rfl, _⟩ := hi.int_inv
  obtain ⟨l, hl, hv, rfl⟩ := hx.ptr_inv
  split at h
  ·rename_i h0
   simp only [Option.some.injEq] at h
   subst h
   refine ⟨_, ?_, .ptr b e' (o + n.toNat * size) l hl hv⟩
   simp [Instr.indexAt, run_underlying ht, asIntOf, Instr.sureAddr, h0.1, h0.2, run_sizeT hs, addr_add, Nat.add_assoc]
  ·cases h
 ·rename_i d o k n hxe hie
  rw [hxe] at hx
  rw [hie] at hi
  obtain ⟨rfl, _⟩ := hi.int_inv
  split at h
  ·rename_i h0
   simp only [Option.some.injEq] at h
   subst h
   cases hx with
   | pptr blk o' _ _ f hz hx hcell hw hr =>
    refine ⟨_, ?_, .pptr blk o' d (o + n.toNat * size) f hz hx hcell hw hr⟩
    simp [Instr.indexAt, run_underlying ht, asIntOf, Instr.sureAddr, h0.1, h0.2, run_sizeT hs, addr_add, Nat.add_assoc]
  ·cases h
 ·cases h
theorem fldA_sound {t : TypeId} {fs : Array Field} {f : Field} {i n : Nat} (ht : P.underlying t = some (.struct fs)) (hf : fs[i]? = some f) (hs : sizeT P f.type = some n) (hn : n ≠ 0) {X : Nat → Prop}
  {xv : Value} {env : Env} {x : O} {s : S} (hx : Rep w X μ xv (x.ev env)) (h : aFun env HF (.fldA f.offset x) = some s) :
  ∃ v, (Instr.fieldAt t xv i).run P w = .ok v w ∧ Rep w X μ v s := by
 simp only [aFun] at h
 split at h
 ·rename_i b e' o hxe
  rw [hxe] at hx
  obtain ⟨l, hl, hv, rfl⟩ := hx.ptr_inv
  simp only [Option.some.injEq] at h
  subst h
  refine ⟨_, ?_, .ptr b e' (o + f.offset) l hl hv⟩
  simp [Instr.fieldAt, run_underlying ht, hf, Instr.sureAddr, fieldPlace, run_sizeT hs, hn, addr_add, Nat.add_assoc]
 ·rename_i d o hxe
  rw [hxe] at hx
  simp only [Option.some.injEq] at h
  subst h
  cases hx with
  | pptr blk o' _ _ g hz hx hcell hw hr =>
   refine ⟨_, ?_, .pptr blk o' d (o + f.offset) g hz hx hcell hw hr⟩
   simp [Instr.fieldAt, run_underlying ht, hf, Instr.sureAddr, fieldPlace, run_sizeT hs, hn, addr_add, Nat.add_assoc]
 ·cases h
end addr
section slices
variable {P : Program} {w : World} {μ : Mu} {H HF : Heap}
/-- how a bound of a slice expression is evaluated -/
def BRel (w : World) (X : Nat → Prop) (μ : Mu) (env : Env) : Option Value → Option O → Prop
 | none, none => True
 | some v, some o => Rep w X μ v (o.ev env)
 | _, _ => False
theorem optInt_inv {X : Nat → Prop} {env : Env} {bv : Option Value} {bo : Option O} {d : Nat} {n : Int} (hb : BRel w X μ env bv bo) (h : optInt env d bo = some n) :
  (bv = none ∧ bo = none ∧ n = d) ∨ (∃ k, bv = some (.int k n) ∧ bo.isSome = true) := by
 cases bv with
 | none =>
  cases bo with
  | none => simp [optInt] at h; exact .inl ⟨rfl, rfl, h.symm⟩
  | some o => exact hb.elim
 | some v =>
  cases bo with
  | none => exact hb.elim
  | some o =>
   simp only [optInt] at h
   split at h
   ·rename_i k m he
    simp only [BRel] at hb
    rw [he] at hb
    obtain ⟨rfl, _⟩ := hb.int_inv
    simp at h
    subst h
    exact .inr ⟨k, rfl, rfl⟩
   ·cases h
theorem run_bounds {len cap : Nat} {lv hv mv : Option Value} {l h m : Int}
  (hl : (lv = none ∧ l = 0) ∨ ∃ k, lv = some (.int k l)) (hh : (hv = none ∧ h = len ∧ mv = none) ∨ ∃ k, hv = some (.int k h)) (hm : (mv = none ∧ m = cap) ∨ ∃ k, mv = some (.int k m))
  (h0 : 0 ≤ l) (h1 : l ≤ h) (h2 : h ≤ m) (h3 : m ≤ cap) :
  (Instr.sliceBounds true len cap lv hv mv).run P w = .ok (l.toNat, h.toNat, m.toNat) w := by
 have e1 : max h 0 = h := by omega
 have e2 : max m 0 = m := by omega
 have g1 : 0 ≤ h := by omega
 have g2 : 0 ≤ m := by omega
 have g3 : h ≤ cap := by omega
 rcases hm with ⟨rfl, hm⟩ | ⟨km, rfl⟩ <;> rcases hh with ⟨rfl, hh, hmn⟩ | ⟨kh, rfl⟩ <;> rcases hl with ⟨rfl, hl⟩ | ⟨kl, rfl⟩
 ·simp [Instr.sliceBounds, hm, hh, hl]
 ·have h1' : l ≤ (len : Int) := by omega
  simp [Instr.sliceBounds, Instr.sliceBound, asIntOf, hm, hh, h0, h1']
 ·simp [Instr.sliceBounds, Instr.sliceBound, asIntOf, hm, hl, g1, g3]
 ·simp [Instr.sliceBounds, Instr.sliceBound, asIntOf, hm, h0, g1, g3, e1, h1]
 ·cases hmn
 ·cases hmn
 ·simp [Instr.sliceBounds, Instr.sliceBound, asIntOf, hl, g1, g2, h2, h3, e2]
 ·simp [Instr.sliceBounds, Instr.sliceBound, asIntOf, h0, g1, g2, h1, h2, h3, e1, e2]
theorem PRep.sub {X : Nat → Prop} {blk off len cap size : Nat} {es : List V} {f : Nat → Value} (hz : 0 < size) (hl : es.length = len) (hm : cap ≤ maxLen) (hx : es ≠ [] → ¬ X blk)
  (hs : ∀ e ∈ es, e.cells.length = size) (hcell : ∀ e ∈ es, ∀ v ∈ e.cells, v.isCell = true)
  (hw : ∀ i j, i < es.length → j < size → w.cell? ⟨blk, off + i * size + j, none⟩ = some (f (i * size + j)))
  (hr : ∀ i j, i < es.length → j < size → PRep w X (f (i * size + j)) ((es.getD i default).cells.getD j default))
  (l h m : Nat) (h1 : l ≤ h) (h2 : h ≤ len) (h3 : h ≤ m) (h4 : m ≤ cap) :
  PRep w X (.slice (some ⟨blk, off + l * size, none⟩) (h - l) (m - l)) (.sl ((es.take h).drop l)) := by
 have hlen : ((es.take h).drop l).length = h - l := by simp; omega
 refine .sl blk (off + l * size) (h - l) (m - l) size _ (fun j => f (l * size + j)) hz hlen (by omega) (by omega) (fun hne => hx (by rintro rfl; simp at hne))
  (fun e he => hs e (List.mem_of_mem_take (List.mem_of_mem_drop he))) (fun e he => hcell e (List.mem_of_mem_take (List.mem_of_mem_drop he))) ?_ ?_
 ·intro i j hi hj
  rw [hlen] at hi
  have := hw (l + i) j (by omega) hj
  rw [Nat.add_mul] at this
  rw [show off + l * size + i * size + j = off + (l * size + i * size) + j by omega, show l * size + (i * size + j) = l * size + i * size + j by omega]
  exact this
 ·intro i j hi hj
  rw [hlen] at hi
  have := hr (l + i) j (by omega) hj
  rw [Nat.add_mul] at this
  rw [show l * size + (i * size + j) = l * size + i * size + j by omega]
  rw [show ((es.take h).drop l).getD i default = es.getD (l + i) default by
   simp only [List.getD_eq_getElem?_getD]
   rw [List.getElem?_drop, List.getElem?_take_of_lt (by omega)]]
  exact this
theorem slc_sound (hrep : HRep w μ H) (hF : ∀ (b : Nat) (l : Loc), μ b = some l → HF[b]? = H[b]?) {t e : TypeId} {size : Nat} (ht : P.underlying t = some (.slice e)) (hs : sizeT P e = some size)
  {xv : Value} {lv hv mv : Option Value} {env : Env} {x : O} {lo hi mx : Option O} {s : S} (hx : Rep w (excl μ H) μ xv (x.ev env))
  (blo : BRel w (excl μ H) μ env lv lo) (bhi : BRel w (excl μ H) μ env hv hi) (bmx : BRel w (excl μ H) μ env mv mx) (hmh : mv.isSome = true → hv.isSome = true) (h : aFun env HF (.slc size x lo hi mx) = some s) :
  ∃ v, (Instr.sliceAt t xv lv hv mv).run P w = .ok v w ∧ Rep w (excl μ H) μ v s := by
 have low : ∀ {l : Int}, ((lv = none ∧ lo = none ∧ l = (0 : Nat)) ∨ (∃ k, lv = some (.int k l) ∧ lo.isSome = true)) → (lv = none ∧ l = 0) ∨ ∃ k, lv = some (.int k l) := by
  rintro l (⟨h1, _, h2⟩ | ⟨k, h1, _⟩)
  ·exact .inl ⟨h1, by simpa using h2⟩
  ·exact .inr ⟨k, h1⟩
 have hnoh : hv = none → mv = none := by
  intro h1
  cases hmv : mv with
  | none => rfl
  | some _ => rw [hmv, h1] at hmh; simp at hmh
 have run : ∀ (a : Option Addr) (len cap l h m : Nat), (Instr.sliceBounds true len cap lv hv mv).run P w = .ok (l, h, m) w →
   (Instr.sliceAt t (.slice a len cap) lv hv mv).run P w = .ok (.slice (if m = l then a else a.map (·.add (l * size))) (h - l) (m - l)) w := by
  intro a len cap l h m hb
  simp [Instr.sliceAt, run_underlying ht, Instr.slice, hb, run_sizeT hs]
 simp only [aFun] at h
 split at h
 ·rename_i hxe
  rw [hxe] at hx
  obtain ⟨a, rfl, ha⟩ := hx.empty_inv
  split at h
  ·rename_i l h' m hl hh hm
   split at h
   ·rename_i hc
    obtain ⟨rfl, rfl, rfl⟩ := hc
    simp only [Option.some.injEq] at h
    subst h
    have := optInt_inv blo hl
    have := optInt_inv bhi hh
    have := optInt_inv bmx hm
    refine ⟨_, run a 0 0 0 0 0 (run_bounds (P := P) (l := 0) (h := 0) (m := 0) (low (optInt_inv blo hl)) ?_ ?_ (by decide) (by decide) (by decide) (by decide)), by simpa using .empty a ha⟩
    ·rcases optInt_inv bhi hh with ⟨h1, _, _⟩ | ⟨k, h1, _⟩
     ·exact .inl ⟨h1, rfl, hnoh h1⟩
     ·exact .inr ⟨k, h1⟩
    ·rcases optInt_inv bmx hm with ⟨h1, _, _⟩ | ⟨k, h1, _⟩
     ·exact .inl ⟨h1, rfl⟩
     ·exact .inr ⟨k, h1⟩
   ·cases h
  ·cases h
 ·rename_i es hxe
  rw [hxe] at hx
  split at h
  ·rename_i l h' m hl hh hm
   split at h
   ·rename_i hc
    obtain ⟨h0, h1, h2, h3, hsz⟩ := hc
    obtain ⟨ln, rfl⟩ := Int.eq_ofNat_of_zero_le h0
    obtain ⟨hn, rfl⟩ := Int.eq_ofNat_of_zero_le (show 0 ≤ h' by omega)
    obtain ⟨mn, rfl⟩ := Int.eq_ofNat_of_zero_le (show 0 ≤ m by omega)
    have key : ∀ (a : Option Addr) (len cap : Nat), xv = .slice a len cap → len = es.length → len ≤ cap →
      (∀ mc : Nat, hn ≤ mc → mc ≤ cap → (mx = none → mc = cap) → (mx.isSome = true → mc = mn) → Rep w (excl μ H) μ (.slice (if mc = ln then a else a.map (·.add (ln * size))) (hn - ln) (mc - ln)) s) →
      ∃ v, (Instr.sliceAt t xv lv hv mv).run P w = .ok v w ∧ Rep w (excl μ H) μ v s := by
     intro a len cap hxv hle hcap hfin
     subst hxv
     rcases optInt_inv bmx hm with ⟨hm1, hm2, _⟩ | ⟨k, hm1, hm2⟩
     ·refine ⟨_, run a len cap ln hn cap (run_bounds (P := P) (l := ln) (h := hn) (m := cap) (low (optInt_inv blo hl)) ?_ (.inl ⟨hm1, rfl⟩) (by omega) (by omega) (by omega) (by omega)), hfin cap (by omega) (by omega) (fun _ => rfl) (fun hh => by simp [hm2] at hh)⟩
      rcases optInt_inv bhi hh with ⟨h1, _, h4⟩ | ⟨k, h1, _⟩
      ·exact .inl ⟨h1, by omega, hnoh h1⟩
      ·exact .inr ⟨k, h1⟩
     ·refine ⟨_, run a len cap ln hn mn (run_bounds (P := P) (l := ln) (h := hn) (m := mn) (low (optInt_inv blo hl)) ?_ (.inr ⟨k, hm1⟩) (by omega) (by omega) (by omega) (by omega)), hfin mn (by omega) (by omega) (fun hh => by simp [hh] at hm2) (fun _ => rfl)⟩
      rcases optInt_inv bhi hh with ⟨h1, _, h4⟩ | ⟨k', h1, _⟩
      ·rw [hnoh h1] at hm1; cases hm1
      ·exact .inr ⟨k', h1⟩
    cases hx.pure_inv with
    | nils =>
     refine key _ 0 0 rfl rfl (Nat.le_refl _) fun mc h5 h6 _ _ => ?_
     simp at h3
     have : mc = 0 := by omega
     subst this
     have : hn = 0 := by omega
     subst this
     have : ln = 0 := by omega
     subst this
     split at h
     ·simp at h; subst h; exact .empty _ (fun _ _ => trivial)
     ·simp at h; subst h; simpa using .pure _ _ (.nils _)
    | sl blk off len cap size' _ f hz hle hc hmx hx' hs' hcell hw hr =>
     refine key (some ⟨blk, off, none⟩) len cap rfl hle.symm hc fun mc h5 h6 h7 h8 => ?_
     split at h
     ·rename_i hcnd
      simp only [Option.some.injEq] at h
      subst h
      have e1 := h8 hcnd.1
      have e2 : ln = mn := by have := hcnd.2; omega
      have e3 : hn = ln := by omega
      rw [if_pos (by omega), show hn - ln = 0 by omega, show mc - ln = 0 by omega]
      exact .empty _ (fun _ _ => trivial)
     ·rename_i hcnd
      simp only [Option.some.injEq] at h
      subst h
      refine .pure _ _ ?_
      have hsub := PRep.sub (w := w) (X := excl μ H) hz hle hmx hx' hs' hcell hw hr ln hn mc (by omega) (by omega) h5 h6
      simp only [Int.toNat_natCast]
      by_cases hne : es = []
      ·subst hne
       have e0 : mn = 0 := by simpa using h3
       have e1 : ln = 0 := by omega
       have e2 : hn = 0 := by omega
       subst e1 e2
       simpa [addr_add] using hsub
      ·obtain ⟨e0, he0⟩ := List.exists_mem_of_ne_nil _ hne
       have : size' = size := by rw [← hs' e0 he0, hsz e0 he0]
       subst this
       split
       ·rename_i heq
        have e3 : hn = ln := by omega
        subst e3
        rw [heq, Nat.sub_self, List.drop_take_self]
        exact .sl blk off 0 0 size' [] f hz rfl (Nat.le_refl _) (by simp [maxLen]) (fun h => absurd rfl h) (fun _ h => by cases h) (fun _ h => by cases h) (fun i j hi => by simp at hi) (fun i j hi => by simp at hi)
       ·simpa [addr_add] using hsub
   ·cases h
  ·cases h
 ·rename_i b off len hxe
  rw [hxe] at hx
  split at h
  ·rename_i l h' r hl hh hrow
   split at h
   ·rename_i hc
    obtain ⟨hmx, hsz, h0, h1, h2⟩ := hc
    simp only [Option.some.injEq] at h
    subst h
    have hmx' : mx = none := by simpa using hmx
    subst hmx'
    have hmv : mv = none := by
     cases hmv : mv with
     | none => rfl
     | some _ => rw [hmv] at bmx; exact bmx.elim
    obtain ⟨ln, rfl⟩ := Int.eq_ofNat_of_zero_le h0
    obtain ⟨hn, rfl⟩ := Int.eq_ofNat_of_zero_le (show 0 ≤ h' by omega)
    have hhv : (hv = none ∧ (hn : Int) = len ∧ mv = none) ∨ ∃ k, hv = some (.int k hn) := by
     rcases optInt_inv bhi hh with ⟨h1, _, h4⟩ | ⟨k, h1, _⟩
     ·exact .inl ⟨h1, by omega, hmv⟩
     ·exact .inr ⟨k, h1⟩
    simp only [Int.toNat_natCast]
    rw [show ((hn : Int) - (ln : Int)).toNat = hn - ln by omega]
    cases hx with
    | rslz a ha _ _ lc hl' =>
     refine ⟨_, run a 0 0 ln hn 0 (run_bounds (P := P) (l := ln) (h := hn) (m := 0) (low (optInt_inv blo hl)) hhv (.inl ⟨hmv, rfl⟩) (by omega) (by omega) (by omega) (by omega)), ?_⟩
     have e1 : ln = 0 := by omega
     have e2 : hn = 0 := by omega
     subst e1 e2
     simpa using .rslz a ha b (off + 0) lc hl'
    | rsl _ _ _ cap lc hl' hv' hc hm hr =>
     obtain ⟨hb, hd⟩ := rowAt_inv (rowAt_of hF hl' hrow)
     have rr := hrep.row b r lc hb hd hl'
     have hsz' : lc.size = size := by rw [← rr.size, hsz]
     refine ⟨_, run _ len cap ln hn cap (run_bounds (P := P) (l := ln) (h := hn) (m := cap) (low (optInt_inv blo hl)) hhv (.inl ⟨hmv, rfl⟩) (by omega) (by omega) (by omega) (by omega)), ?_⟩
     split
     ·rename_i heq
      have e3 : hn = ln := by omega
      subst e3
      rw [heq, Nat.sub_self]
      exact .rslz _ (fun _ _ => trivial) b (off + hn) lc hl'
     ·simp only [Option.map_some, addr_add]
      rw [show lc.base + off * lc.size + ln * size = lc.base + (off + ln) * lc.size by rw [hsz', Nat.add_mul]; omega]
      refine .rsl b (off + ln) (hn - ln) (cap - ln) lc hl' hv' (by omega) (by omega) ?_
      rw [show off + ln + (cap - ln) = off + cap by omega]
      exact hr
   ·cases h
  ·cases h
 ·cases h
end slices
section small
variable {P : Program} {w : World} {X : Nat → Prop} {μ : Mu} {HF : Heap}
theorem Rep.agg_inv {v : Value} {e : S} (h : Rep w X μ v e) (hc : e.isCell = false) (hok : e.okv = true) : ∃ cs, v = .agg cs := by
 cases h with
 | agg cs => exact ⟨cs, rfl⟩
 | pure v d hp =>
  cases hp with
  | agg cs => exact ⟨cs, rfl⟩
  | _ => simp [S.isCell, V.isCell] at hc
 | tup => simp [S.okv] at hok
 | dead => simp [S.okv] at hok
 | _ => simp [S.isCell] at hc
theorem fld_sound {t : TypeId} {fs : Array Field} {f : Field} {i n : Nat} {agg : Bool} (ht : P.underlying t = some (.struct fs)) (hf : fs[i]? = some f) (hs : sizeT P f.type = some n) (ha : aggT P f.type = some agg)
  {xv : Value} {env : Env} {x : O} {s : S} (hx : Rep w X μ xv (x.ev env)) (h : aFun env HF (.fld agg f.offset n x) = some s) : ∃ v, (Instr.field t xv i).run P w = .ok v w ∧ Rep w X μ v s := by
 simp only [aFun] at h
 split at h
 ·rename_i hc
  obtain ⟨cs, rfl⟩ := hx.agg_inv hc.1 hc.2
  obtain ⟨v, h1, h2⟩ := part_sound (P := P) ha hs hx hc.2 h
  exact ⟨v, by simp [Instr.field, run_underlying ht, hf, asAgg, h1], h2⟩
 ·cases h
theorem idxV_sound {t e : TypeId} {len n : Nat} {agg : Bool} (ht : P.underlying t = some (.array len e)) (hs : sizeT P e = some n) (ha : aggT P e = some agg)
  {xv iv : Value} {env : Env} {x i : O} {s : S} (hx : Rep w X μ xv (x.ev env)) (hi : Rep w X μ iv (i.ev env)) (h : aFun env HF (.idxV agg len n x i) = some s) : ∃ v, (Instr.index t xv iv).run P w = .ok v w ∧ Rep w X μ v s := by
 simp only [aFun] at h
 split at h
 ·rename_i k m hie
  rw [hie] at hi
  obtain ⟨rfl, _⟩ := hi.int_inv
  split at h
  ·rename_i hc
   obtain ⟨h0, h1, hc1, hc2⟩ := hc
   obtain ⟨cs, rfl⟩ := hx.agg_inv hc1 hc2
   obtain ⟨v, h3, h4⟩ := part_sound (P := P) ha hs hx hc2 h
   exact ⟨v, by simp [Instr.index, asIntOf, run_underlying ht, h0, h1, run_sizeT hs, h3], h4⟩
  ·cases h
 ·cases h
theorem idxS_sound {t : TypeId} (ht : P.underlying t = some .string) {xv iv : Value} {env : Env} {x i : O} {s : S} (hx : Rep w X μ xv (x.ev env)) (hi : Rep w X μ iv (i.ev env)) (h : aFun env HF (.idxS x i) = some s) :
  ∃ v, (Instr.index t xv iv).run P w = .ok v w ∧ Rep w X μ v s := by
 simp only [aFun] at h
 split at h
 ·rename_i bs k n hxe hie
  rw [hxe] at hx
  rw [hie] at hi
  obtain ⟨rfl, _⟩ := hi.int_inv
  obtain ⟨b, rfl, rfl, hb⟩ := hx.str_inv
  split at h
  ·rename_i h0
   cases hg : b.data.toList[n.toNat]? with
   | none => simp [hg] at h
   | some c =>
    simp [hg] at h
    subst h
    have hlt : n.toNat < b.size := by
     have := (List.getElem?_eq_some_iff.1 hg).1
     simpa using this
    have hget : b[n.toNat]? = some c := by
     rw [getElem?_pos b n.toNat hlt]
     have := (List.getElem?_eq_some_iff.1 hg).2
     rw [← this]
     rfl
    refine ⟨.int .u8 c.toNat, by simp [Instr.index, asIntOf, run_underlying ht, h0, hget], .mkInt ?_⟩
    have := c.toNat_lt
    simp [Lit.wf, IntKind.min, IntKind.max, IntKind.signed, IntKind.bits]
    omega
  ·cases h
 ·cases h
theorem ext_sound {xv : Value} {env : Env} {x : O} {i : Nat} {s : S} (hx : Rep w X μ xv (x.ev env)) (h : aFun env HF (.ext i x) = some s) : ∃ v, (Instr.extract xv i).run P w = .ok v w ∧ Rep w X μ v s := by
 simp only [aFun] at h
 split at h
 ·rename_i ss hxe
  rw [hxe] at hx
  cases hx with
  | tup vs _ hl hh =>
   obtain ⟨hlt, _⟩ := List.getElem?_eq_some_iff.1 h
   have h2 := hh i hlt
   rw [List.getD_eq_getElem?_getD, h] at h2
   obtain ⟨v, hv⟩ : ∃ v, vs[i]? = some v := ⟨_, Array.getElem?_eq_getElem (by omega)⟩
   rw [Array.getD_eq_getD_getElem?, hv] at h2
   exact ⟨v, by simp [Instr.extract, hv], h2⟩
 ·cases h
theorem wf_len {n : Nat} (h : n ≤ maxLen) : (Lit.int .i64 (n : Int)).wf = true := by
 refine WalkArith.wf_i64 ?_
 simp only [maxLen] at h
 omega
theorem len_sound {t ty e : TypeId} (ht : P.underlying t = some (.slice e)) {xv : Value} {env : Env} {x : O} {s : S} (hx : Rep w X μ xv (x.ev env)) (h : aFun env HF (.len x) = some s) :
  ∃ n : Nat, (Builtin.len_ #[t] ty #[xv]).run P w = .ok (.int .i64 n) w ∧ s = .pure (.int .i64 n) ∧ n ≤ 9223372036854775807 := by
 have key : ∀ a n c, n ≤ maxLen → xv = .slice a n c → s = .pure (.int .i64 (n : Int)) → ∃ n : Nat, (Builtin.len_ #[t] ty #[xv]).run P w = .ok (.int .i64 n) w ∧ s = .pure (.int .i64 n) ∧ n ≤ 9223372036854775807 := by
  rintro a n c hn rfl rfl
  exact ⟨n, by simp [Builtin.len_, run_underlying ht, goInt], rfl, hn⟩
 simp only [aFun] at h
 split at h
 ·rename_i hxe
  rw [hxe] at hx
  obtain ⟨a, rfl, _⟩ := hx.empty_inv
  exact key a 0 0 (by simp [maxLen]) rfl (by simpa using h.symm)
 ·rename_i es hxe
  rw [hxe] at hx
  cases hx.pure_inv with
  | nils => exact key _ 0 0 (by simp [maxLen]) rfl (by simpa using h.symm)
  | sl blk off len cap size _ f hz hl hc hm => exact key _ len cap (by omega) rfl (by rw [← hl]; simpa using h.symm)
 ·rename_i b off n hxe
  rw [hxe] at hx
  cases hx with
  | rsl _ _ _ cap l hl hv hc hm hr => exact key _ n cap (by omega) rfl (by simpa using h.symm)
  | rslz a ha _ _ l hl => exact key _ 0 0 (by simp [maxLen]) rfl (by simpa using h.symm)
 ·cases h
theorem lenS_sound {t ty : TypeId} (ht : P.underlying t = some .string) {xv : Value} {env : Env} {x : O} {s : S} (hx : Rep w X μ xv (x.ev env)) (h : aFun env HF (.lenS x) = some s) :
  ∃ n : Nat, (Builtin.len_ #[t] ty #[xv]).run P w = .ok (.int .i64 n) w ∧ s = .pure (.int .i64 n) ∧ n ≤ 9223372036854775807 := by
 simp only [aFun] at h
 split at h
 ·rename_i bs hxe
  rw [hxe] at hx
  obtain ⟨b, rfl, rfl, hb⟩ := hx.str_inv
  refine ⟨b.size, by simp [Builtin.len_, run_underlying ht, goInt], ?_, hb⟩
  simp only [Option.some.injEq] at h
  rw [← h]
  simp
 ·cases h
theorem mx_sound {ats : Array TypeId} {ty : TypeId} {xv yv : Value} {env : Env} {x y : O} {s : S} (hx : Rep w X μ xv (x.ev env)) (hy : Rep w X μ yv (y.ev env)) (h : aFun env HF (.mx x y) = some s) :
  ∃ v, (Builtin.max_ ats ty #[xv, yv]).run P w = .ok v w ∧ Rep w X μ v s := by
 simp only [aFun] at h
 split at h
 ·rename_i k a k' b hxe hye
  rw [hxe] at hx
  rw [hye] at hy
  obtain ⟨rfl, h1⟩ := hx.int_inv
  obtain ⟨rfl, h2⟩ := hy.int_inv
  split at h
  ·simp only [Option.some.injEq] at h
   subst h
   rename_i hk
   subst hk
   refine ⟨_, by simp [Builtin.max_, Builtin.max2], .mkInt ?_⟩
   split <;> assumption
  ·cases h
 ·cases h
theorem mn_sound {ats : Array TypeId} {ty : TypeId} {xv yv : Value} {env : Env} {x y : O} {s : S} (hx : Rep w X μ xv (x.ev env)) (hy : Rep w X μ yv (y.ev env)) (h : aFun env HF (.mn x y) = some s) :
  ∃ v, (Builtin.min_ ats ty #[xv, yv]).run P w = .ok v w ∧ Rep w X μ v s := by
 simp only [aFun] at h
 split at h
 ·rename_i k a k' b hxe hye
  rw [hxe] at hx
  rw [hye] at hy
  obtain ⟨rfl, h1⟩ := hx.int_inv
  obtain ⟨rfl, h2⟩ := hy.int_inv
  split at h
  ·simp only [Option.some.injEq] at h
   subst h
   rename_i hk
   subst hk
   refine ⟨_, by simp [Builtin.min_, Builtin.min2], .mkInt ?_⟩
   split <;> assumption
  ·cases h
 ·cases h
theorem conv_sound {src dst : TypeId} {k : IntKind} {d : TypeDesc} (hs : P.underlying src = some d) (hd : P.underlying dst = some (.int k)) {xv : Value} {env : Env} {x : O} {s : S} (hx : Rep w X μ xv (x.ev env)) (h : aFun env HF (.conv k x) = some s) :
  ∃ v, (convert src dst xv).run P w = .ok v w ∧ Rep w X μ v s := by
 simp only [aFun] at h
 split at h
 ·rename_i k' n hxe
  rw [hxe] at hx
  obtain ⟨rfl, _⟩ := hx.int_inv
  simp only [Option.some.injEq] at h
  subst h
  exact ⟨_, by simp [convert, run_underlying hs, run_underlying hd, Conv.intToInt], .mkInt (wf_wrap _ _)⟩
 ·cases h
theorem bytesOf_ints : ∀ {es : List V} {b : List UInt8}, bytesOf es = some b → ∃ ns : List Int, es = ns.map (V.int .u8) ∧ b = ns.map fun n => UInt8.ofNat n.toNat
 | [], b, h => by simp [bytesOf] at h; subst h; exact ⟨[], rfl, rfl⟩
 | .int .u8 n :: r, b, h => by
  simp only [bytesOf] at h
  split at h
  ·rename_i q hq
   simp only [Option.some.injEq] at h
   subst h
   obtain ⟨ns, rfl, rfl⟩ := bytesOf_ints hq
   exact ⟨n :: ns, rfl, rfl⟩
  ·cases h
theorem push_foldl : ∀ (ns : List Int) (s : ByteArray), (ns.foldl (fun r n => r.push (UInt8.ofNat n.toNat)) s).data.toList = s.data.toList ++ ns.map fun n => UInt8.ofNat n.toNat
 | [], s => by simp
 | n :: ns, s => by
  rw [List.foldl_cons, push_foldl]
  simp [ByteArray.push]
theorem PRep.bytes_inv {ns : List Int} {v : Value} (h : PRep w X v (.sl (ns.map (V.int .u8)))) : (∃ a : Option Addr, v = .slice a 0 0 ∧ ns = []) ∨
  ∃ (blk off cap : Nat), v = .slice (some ⟨blk, off, none⟩) ns.length cap ∧ ns.length ≤ cap ∧ cap ≤ maxLen ∧ (loadCells ⟨blk, off, none⟩ ns.length).run P w = .ok (ns.map (Value.int .u8)).toArray w := by
 generalize hes : ns.map (V.int .u8) = es at h
 cases h with
 | nils a =>
  refine .inl ⟨a, rfl, ?_⟩
  simpa using hes
 | sl blk off len cap size _ f hz hl hc hm hx hs hcell hw hr =>
  subst hes
  have hl' : ns.length = len := by simpa using hl
  subst hl'
  refine .inr ⟨blk, off, cap, rfl, hc, hm, ?_⟩
  have hrun := run_loadCells (P := P) w ⟨blk, off, none⟩ ns.length f (fun j hj => by
   have h1 : size = 1 := by
    have := hs (.int .u8 ns[j]) (by simp)
    simpa [V.cells] using this.symm
   subst h1
   have := hw j 0 (by simpa using hj) (by omega)
   rw [addr_add]
   simpa using this)
  rw [hrun]
  congr 2
  apply List.ext_getElem (by simp)
  intro j hj hj'
  simp only [List.length_map, List.length_range] at hj
  have h1 : size = 1 := by
   have := hs (.int .u8 ns[j]) (by simp)
   simpa [V.cells] using this.symm
  subst h1
  have := hr j 0 (by simpa using hj) (by omega)
  simp only [Nat.mul_one, Nat.add_zero, List.getD_eq_getElem?_getD, List.getElem?_map, List.getElem?_eq_getElem hj, Option.map_some, Option.getD_some, V.cells, List.getElem?_cons_zero] at this
  simp only [List.getElem_map, List.getElem_range]
  generalize f j = v at this ⊢
  cases this
  rfl
theorem b2s_sound {src dst e : TypeId} (hs : P.underlying src = some (.slice e)) (he : P.underlying e = some (.int .u8)) (hd : P.underlying dst = some .string) {xv : Value} {env : Env} {x : O} {s : S} (hx : Rep w X μ xv (x.ev env)) (h : aFun env HF (.b2s x) = some s) :
  ∃ v, (convert src dst xv).run P w = .ok v w ∧ Rep w X μ v s := by
 simp only [aFun] at h
 have none0 : ∀ a : Option Addr, (convert src dst (.slice a 0 0)).run P w = .ok (.string .empty) w := by
  intro a
  rw [run_convert_bytes_string w src dst e a 0 0 hs he hd]
  cases a with
  | none => rfl
  | some a => exact run_bytesToString w a 0 0 [] (by simp [loadCells, loadCellsFrom])
 have str0 : Rep w X μ (.string .empty) (.pure (.str [])) := .pure _ _ (.str _ (by simp [maxLen]))
 split at h
 ·rename_i hxe
  rw [hxe] at hx
  obtain ⟨a, rfl, _⟩ := hx.empty_inv
  simp only [Option.some.injEq] at h
  subst h
  exact ⟨_, none0 a, str0⟩
 ·rename_i es hxe
  rw [hxe] at hx
  split at h
  ·rename_i b hb
   simp only [Option.some.injEq] at h
   subst h
   obtain ⟨ns, rfl, rfl⟩ := bytesOf_ints hb
   rcases hx.pure_inv.bytes_inv (P := P) with ⟨a, rfl, rfl⟩ | ⟨blk, off, cap, rfl, hc, hm, hw⟩
   ·exact ⟨_, none0 a, str0⟩
   ·skip
    refine ⟨_, by rw [run_convert_bytes_string w src dst e _ _ _ hs he hd, run_bytesToString w ⟨blk, off, none⟩ ns.length cap ns hw], ?_⟩
    have e1 := push_foldl ns ByteArray.empty
    have e2 : (ns.map fun n => UInt8.ofNat n.toNat) = (ns.foldl (fun r n => r.push (UInt8.ofNat n.toNat)) ByteArray.empty).data.toList := by rw [e1]; simp
    rw [e2]
    refine .pure _ _ (.str _ ?_)
    have e3 : (ns.foldl (fun r n => r.push (UInt8.ofNat n.toNat)) ByteArray.empty).size = ns.length := by
     rw [← ByteArray.size_data, ← Array.length_toList, ← e2]; simp
    omega
  ·cases h
 ·cases h
theorem un_sound {op : UnOp} {xv : Value} {env : Env} {x : O} {s : S} (hx : Rep w X μ xv (x.ev env)) (h : aFun env HF (.un op x) = some s) :
  ∃ v, (Op.unary op xv).run P w = .ok v w ∧ Rep w X μ v s := by
 simp only [aFun] at h
 split at h
 ·rename_i b hxe
  rw [hxe] at hx
  obtain rfl := hx.bool_inv
  simp only [Option.some.injEq] at h
  subst h
  exact ⟨_, by simp [Op.unary], .mkBool⟩
 ·rename_i k n hxe
  rw [hxe] at hx
  obtain ⟨rfl, _⟩ := hx.int_inv
  simp only [Option.some.injEq] at h
  subst h
  exact ⟨_, by simp only [Op.unary, Op.intArith]; rfl, .mkInt (wf_wrap k (0 - n))⟩
 ·cases h
theorem bin_sound {op : BinOp} {t : TypeId} {xv yv : Value} {env : Env} {x y : O} {s : S} (hx : Rep w X μ xv (x.ev env)) (hy : Rep w X μ yv (y.ev env)) (h : aFun env HF (.bin op x y) = some s) (xo yo : Operand) :
  ∃ v, (do eqGuard op t xo yo xv yv; binOp op t xv yv : Sem Value).run P w = .ok v w ∧ Rep w X μ v s := by
 simp only [aFun] at h
 split at h
 ·rename_i k a k' b hxe hye
  rw [hxe] at hx
  rw [hye] at hy
  obtain ⟨rfl, h1⟩ := hx.int_inv
  obtain ⟨rfl, h2⟩ := hy.int_inv
  split at h
  ·rename_i hc
   cases hr : intF op k a b with
   | none => simp [hr] at h
   | some r =>
    simp [hr] at h
    subst h
    obtain ⟨v, h3, h4⟩ := intF_sound (P := P) (w := w) (X := X) (t := t) h1 hc hr
    refine ⟨v, ?_, .pure _ _ h4⟩
    have : (eqGuard op t xo yo (.int k a) (.int k' b)).run P w = .ok () w := by cases op <;> simp [eqGuard]
    simp [this, h3]
  ·cases h
 ·cases h
theorem eqb_sound {neg : Bool} {t : TypeId} (ht : P.underlying t = some .bool) {xv yv : Value} {env : Env} {x y : O} {s : S} (hx : Rep w X μ xv (x.ev env)) (hy : Rep w X μ yv (y.ev env)) (h : aFun env HF (.eqb neg x y) = some s) (xo yo : Operand) :
  ∃ v, (do eqGuard (if neg then .neq else .eql) t xo yo xv yv; binOp (if neg then .neq else .eql) t xv yv : Sem Value).run P w = .ok v w ∧ Rep w X μ v s := by
 simp only [aFun] at h
 split at h
 ·rename_i a b hxe hye
  rw [hxe] at hx
  rw [hye] at hy
  obtain rfl := hx.bool_inv
  obtain rfl := hy.bool_inv
  simp only [Option.some.injEq] at h
  subst h
  have he := run_equal_bool (P := P) w t a b ht
  cases neg
  ·refine ⟨_, ?_, .mkBool⟩
   simp [eqGuard, binOp, he]
  ·refine ⟨_, ?_, .mkBool⟩
   simp [eqGuard, binOp, he]
   cases a <;> cases b <;> rfl
 ·cases h
theorem eqs_sound {neg : Bool} {t : TypeId} {xv yv : Value} {env : Env} {x y : O} {s : S} (hx : Rep w X μ xv (x.ev env)) (hy : Rep w X μ yv (y.ev env)) (h : aFun env HF (.eqs neg x y) = some s) (xo yo : Operand) :
  ∃ v, (do eqGuard (if neg then .neq else .eql) t xo yo xv yv; binOp (if neg then .neq else .eql) t xv yv : Sem Value).run P w = .ok v w ∧ Rep w X μ v s := by
 simp only [aFun] at h
 split at h
 ·rename_i a b hxe hye
  rw [hxe] at hx
  rw [hye] at hy
  obtain ⟨A, rfl, rfl, _⟩ := hx.str_inv
  obtain ⟨B, rfl, rfl, _⟩ := hy.str_inv
  simp only [Option.some.injEq] at h
  subst h
  have he : A.toList = A.data.toList := ByteArray.toList_eq A
  have he' : B.toList = B.data.toList := ByteArray.toList_eq B
  cases neg
  ·refine ⟨_, ?_, .mkBool⟩
   simp only [eqGuard, binOp, Op.stringOp, he, he', Bool.false_eq_true, if_false, Bool.not_true]
   rfl
  ·refine ⟨_, ?_, .mkBool⟩
   simp only [eqGuard, binOp, Op.stringOp, he, he', if_true, Bool.not_true]
   rfl
 ·cases h
theorem slnil_sound (neg : Bool) {t e : TypeId} (ht : P.underlying t = some (.slice e)) {xv : Value} {s : S} {n : Nat} (hx : Rep w X μ xv s) (h : lenN s = some n) (l c : Nat) (xo yo : Operand) :
  ∃ b : Bool, (do eqGuard (if neg = true then .neq else .eql) t xo yo xv (.slice none l c); binOp (if neg = true then .neq else .eql) t xv (.slice none l c) : Sem Value).run P w = .ok (.bool b) w ∧ (n ≠ 0 → b = neg) := by
 obtain ⟨a, len, cap, rfl, hn⟩ : ∃ (a : Option Addr) (len cap : Nat), xv = .slice a len cap ∧ (n ≠ 0 → a.isNone = false) := by
  cases s with
  | pure v =>
   cases v with
   | sl es =>
    simp only [lenN, Option.some.injEq] at h
    subst h
    cases hx.pure_inv with
    | nils a => exact ⟨a, 0, 0, rfl, fun h => absurd rfl h⟩
    | sl => exact ⟨_, _, _, rfl, fun _ => rfl⟩
   | _ => cases h
  | empty =>
   cases h
   obtain ⟨a, rfl, _⟩ := hx.empty_inv
   exact ⟨a, 0, 0, rfl, fun h => absurd rfl h⟩
  | rsl b off m =>
   cases h
   cases hx with
   | rsl => exact ⟨_, _, _, rfl, fun _ => rfl⟩
   | rslz a => exact ⟨a, 0, 0, rfl, fun h => absurd rfl h⟩
  | _ => cases h
 have key : ∀ d : Nat, (Op.equalIn (d + 1) t (.slice a len cap) (.slice none l c)).run P w = .ok a.isNone w := by
  intro d
  simp only [Op.equalIn, Sem.run_bind, run_underlying ht, Result.andThen_ok]
  cases a <;> rfl
 have he : (Op.equal t (.slice a len cap) (.slice none l c)).run P w = .ok a.isNone w := key 9999
 cases neg
 ·refine ⟨a.isNone, ?_, hn⟩
  simp [eqGuard, binOp, he]
 ·refine ⟨!a.isNone, ?_, fun h => by simp [hn h]⟩
  simp [eqGuard, binOp, he]
end small
end Go.Vm
/-! The abstract machine, part 6: values that are built; operations that write memory or make it. -/
namespace Go.Vm
open Go Go.RowKit
/-- pointwise representation of a row of cells -/
structure Cells (w : World) (X : Nat → Prop) (μ : Mu) (cs : Array Value) (ss : List S) : Prop where
 len : cs.size = ss.length
 ok : ∀ s ∈ ss, s.isCell = true
 rep : ∀ i, i < ss.length → Rep w X μ (cs.getD i undef) (ss.getD i .dead)
theorem Rep.toCells {w : World} {X : Nat → Prop} {μ : Mu} {v : Value} {s : S} (h : Rep w X μ v s) (hs : s.okv = true) : Cells w X μ v.cells s.cells :=
 ⟨(h.cells hs).1, h.cellsOk hs, (h.cells hs).2⟩
theorem Cells.mkAgg {w : World} {X : Nat → Prop} {μ : Mu} {cs : Array Value} {ss : List S} (h : Cells w X μ cs ss) : Rep w X μ (.agg cs) (S.mkAgg ss) := Rep.mkAgg h.len h.ok h.rep
theorem Cells.one {w : World} {X : Nat → Prop} {μ : Mu} {cs : Array Value} {ss : List S} (h : Cells w X μ cs ss) : ∀ v ∈ cs.toList, v.oneCell' = true := by
 intro v hv
 obtain ⟨i, hi, rfl⟩ := List.mem_iff_getElem.1 hv
 have hi' : i < cs.size := by simpa using hi
 have h1 := h.rep i (by rw [← h.len]; exact hi')
 have h2 : ss.getD i .dead ∈ ss := by
  rw [List.getD_eq_getElem?_getD, List.getElem?_eq_getElem (by rw [← h.len]; exact hi')]
  exact List.getElem_mem _
 have h3 := (h1.one (h.ok _ h2)).2.2
 rw [Array.getD_eq_getD_getElem?, Array.getElem?_eq_getElem hi'] at h3
 simpa using h3
theorem List.getD_append_cases {α : Type} (a b : List α) (i : Nat) (d : α) : (a ++ b).getD i d = if i < a.length then a.getD i d else b.getD (i - a.length) d := by
 simp only [List.getD_eq_getElem?_getD, List.getElem?_append]
 split <;> rfl
theorem Array.getD_toArray' (l : List Value) (i : Nat) (d : Value) : l.toArray.getD i d = l.getD i d := by
 simp [Array.getD_eq_getD_getElem?, List.getD_eq_getElem?_getD]
theorem Array.getD_toList' (l : Array Value) (i : Nat) (d : Value) : l.toList.getD i d = l.getD i d := by
 simp [Array.getD_eq_getD_getElem?, List.getD_eq_getElem?_getD]
/-- 'cs' with the cells of 'a' from cell 'off' on -/
theorem Cells.splice {w : World} {X : Nat → Prop} {μ : Mu} {cs a : Array Value} {ss sa : List S} (h : Cells w X μ cs ss) (ha : Cells w X μ a sa) (off : Nat) (hle : off + sa.length ≤ ss.length) :
  Cells w X μ (cs.toList.take off ++ a.toList ++ cs.toList.drop (off + a.size)).toArray (ss.take off ++ sa ++ ss.drop (off + sa.length)) := by
 have e1 := h.len
 have e2 := ha.len
 refine ⟨by simp; omega, fun s hs => ?_, fun i hi => ?_⟩
 ·rcases List.mem_append.1 hs with hs | hs
  ·rcases List.mem_append.1 hs with hs | hs
   ·exact h.ok s (List.mem_of_mem_take hs)
   ·exact ha.ok s hs
  ·exact h.ok s (List.mem_of_mem_drop hs)
 ·rw [Array.getD_toArray', List.getD_append_cases, List.getD_append_cases, List.getD_append_cases, List.getD_append_cases]
  have l1 : (cs.toList.take off).length = off := by simp; omega
  have l2 : (ss.take off).length = off := by simp; omega
  have l3 : (cs.toList.take off ++ a.toList).length = off + sa.length := by simp; omega
  have l4 : (ss.take off ++ sa).length = off + sa.length := by simp; omega
  rw [l1, l2, l3, l4]
  split
  ·split
   ·rename_i h1
    have := h.rep i (by omega)
    simp only [List.getD_eq_getElem?_getD, List.getElem?_take_of_lt h1] at this ⊢
    rw [Array.getD_eq_getD_getElem?] at this
    rw [Array.getElem?_toList]
    exact this
   ·rename_i h0 h1
    have := ha.rep (i - off) (by omega)
    rw [Array.getD_toList']
    exact this
  ·rename_i h0
   have hi' : i < ss.length := by simp at hi; omega
   have := h.rep i hi'
   rw [e2]
   simp only [List.getD_eq_getElem?_getD, List.getElem?_drop] at this ⊢
   rw [show off + sa.length + (i - (off + sa.length)) = i by omega]
   rw [Array.getD_eq_getD_getElem?] at this
   rw [Array.getElem?_toList]
   exact this
theorem foldl_set (off : Nat) : ∀ (l : List Value) (k : Nat) (cs : Array Value), off + k + l.length ≤ cs.size →
  (l.zipIdx k).foldl (fun cs (p : Value × Nat) => cs.setIfInBounds (off + p.2) p.1) cs = (cs.toList.take (off + k) ++ l ++ cs.toList.drop (off + k + l.length)).toArray
 | [], k, cs, _ => by simp
 | v :: r, k, cs, h => by
  have hk : off + k < cs.size := by simp at h; omega
  simp only [List.zipIdx_cons, List.foldl_cons]
  rw [foldl_set off r (k + 1) _ (by simp at h ⊢; omega)]
  congr 1
  rw [Array.toList_setIfInBounds]
  apply List.ext_getElem?
  intro j
  simp only [List.append_assoc, List.getElem?_append, List.length_take, List.length_set, Array.length_toList, List.getElem?_take, List.getElem?_drop, List.getElem?_set, List.length_cons, List.getElem?_cons]
  rw [show min (off + (k + 1)) cs.size = off + k + 1 by omega, show min (off + k) cs.size = off + k by omega]
  by_cases h1 : j < off + k
  ·simp [h1, show j < off + k + 1 by omega, show off + k ≠ j by omega, show j < off + (k + 1) by omega]
  ·by_cases h2 : j = off + k
   ·subst h2
    simp [show off + k < off + (k + 1) by omega, hk]
   ·have h3 : ¬ j < off + k + 1 := by omega
    by_cases h4 : j - (off + k + 1) < r.length
    ·simp [h1, h3, h4, show j - (off + k) < r.length + 1 by omega, show j - (off + k) ≠ 0 by omega, show j - (off + k) - 1 = j - (off + k + 1) by omega]
    ·simp [h1, h3, h4, show ¬ j - (off + k) < r.length + 1 by omega]
     rw [show off + (k + 1) + r.length + (j - (off + k + 1) - r.length) = j by omega, show off + k + (r.length + 1) + (j - (off + k) - (r.length + 1)) = j by omega]
     rw [if_neg (by omega)]
theorem fill_step (v : Value) (off : Nat) (cs : Array Value) (h : off + v.cells.size ≤ cs.size) :
  v.cells.zipIdx.foldl (fun cs (c, j) => cs.setIfInBounds (off + j) c) cs = (cs.toList.take off ++ v.cells.toList ++ cs.toList.drop (off + v.cells.size)).toArray := by
 rw [← Array.foldl_toList, Array.toList_zipIdx]
 have := foldl_set off v.cells.toList 0 cs (by simpa using h)
 simpa using this
/-- the parts of a value, as the model has them and as the abstract machine has them -/
inductive Parts (w : World) (X : Nat → Prop) (μ : Mu) (env : Env) (place : Nat → Option (Nat × Nat)) : List (Nat × Value) → List (Nat × Nat × O) → Prop where
 | nil : Parts w X μ env place [] []
 | cons (i : Nat) (v : Value) (off n : Nat) (o : O) (r : List (Nat × Value)) (q : List (Nat × Nat × O)) (hp : place i = some (off, n)) (hv : Rep w X μ v (o.ev env)) (h : Parts w X μ env place r q) :
   Parts w X μ env place ((i, v) :: r) ((off, n, o) :: q)
theorem fill_sound {w : World} {X : Nat → Prop} {μ : Mu} {env : Env} {place : Nat → Option (Nat × Nat)} {l : List (Nat × Value)} {q : List (Nat × Nat × O)} (hp : Parts w X μ env place l q) :
  ∀ {cs : Array Value} {ss ss' : List S}, Cells w X μ cs ss → fillA env ss q = some ss' → ∃ cs', Instr.fill place cs l = some cs' ∧ Cells w X μ cs' ss' := by
 induction hp with
 | nil => intro cs ss ss' hc h; simp [fillA] at h; subst h; exact ⟨cs, rfl, hc⟩
 | cons i v off n o r q hpl hv _ ih =>
  intro cs ss ss' hc h
  simp only [fillA] at h
  split at h
  ·rename_i hcnd
   obtain ⟨h1, h2, h3⟩ := hcnd
   have hcv := hv.toCells h1
   have e1 := hcv.len
   have e2 := hc.len
   have hsp := hc.splice hcv off (by omega)
   rw [h2] at hsp
   obtain ⟨cs', h4, h5⟩ := ih hsp h
   refine ⟨cs', ?_, h5⟩
   simp only [Instr.fill, hpl]
   rw [if_neg (by simp; omega)]
   rw [fill_step v off cs (by omega)]
   exact h4
  ·cases h
theorem Step.of_pushN {w : World} {μ : Mu} {H : Heap} (h : HRep w μ H) (c : Array Value) (t : TypeId) (es : List S) (size : Nat) (hpos : 0 < size) (hlen : ∀ e ∈ es, e.cells.length = size) (hok : ∀ e ∈ es, ∀ s ∈ e.cells, s.isCell = true)
  (hsz : es.length * size ≤ c.size) (hrep : ∀ i j, i < es.length → j < size → Rep w (excl μ H) μ (c.getD (i * size + j) undef) ((es.getD i .dead).cells.getD j .dead))
  {v : Value} {s : S} {H1 : Heap} {nb : Nat} (hnb : μ nb = none) (hN : H1[nb]? = some ⟨es, size, .live⟩) (hl1 : H.length ≤ H1.length) (h1 : ∀ (b : Nat) (r : Row), b ≠ nb → H1[b]? = some r → r.st ≠ .dead → H[b]? = some r)
  (hv : ∀ μ', μ' nb = some ⟨w.heap.size, 0, size, c.size, false⟩ → Rep (w.alloc (.cells c t)) (excl μ' H1) μ' v s) :
  ∃ μ', Step w μ H (w.alloc (.cells c t)) μ' H1 v s ∧ ∀ b, b ≠ nb → μ' b = μ b := by
 obtain ⟨p1, p2, p3⟩ := h.push hnb c t es size hN hl1 h1 hpos hlen hok hsz hrep
 exact ⟨_, ⟨p1, hv _ (Mu.add_self _ _ _), p3, rfl, Fr.alloc _ w _, p2⟩, fun b hb => Mu.add_ne hb⟩
theorem push_rows {H H1 : Heap} {r0 : Row} (hl1 : H1.length = H.length) (h1 : ∀ (b : Nat) (r : Row), H1[b]? = some r → r.st ≠ .dead → H[b]? = some r) :
  (H1 ++ [r0])[H.length]? = some r0 ∧ H.length ≤ (H1 ++ [r0]).length ∧ ∀ (b : Nat) (r : Row), b ≠ H.length → (H1 ++ [r0])[b]? = some r → r.st ≠ .dead → H[b]? = some r := by
 refine ⟨by rw [← hl1]; simp, by simp; omega, fun b r hne hb hd => ?_⟩
 rcases get_push hb with hb | ⟨hb, _⟩
 ·exact h1 b r hb hd
 ·omega
theorem Step.of_push {w : World} {μ : Mu} {H : Heap} (h : HRep w μ H) (c : Array Value) (t : TypeId) (es : List S) (size : Nat) (hpos : 0 < size) (hlen : ∀ e ∈ es, e.cells.length = size) (hok : ∀ e ∈ es, ∀ s ∈ e.cells, s.isCell = true)
  (hsz : es.length * size ≤ c.size) (hrep : ∀ i j, i < es.length → j < size → Rep w (excl μ H) μ (c.getD (i * size + j) undef) ((es.getD i .dead).cells.getD j .dead))
  {v : Value} {s : S} {H1 : Heap} (hl1 : H1.length = H.length) (h1 : ∀ (b : Nat) (r : Row), H1[b]? = some r → r.st ≠ .dead → H[b]? = some r)
  (hv : ∀ μ', μ' H.length = some ⟨w.heap.size, 0, size, c.size, false⟩ → Rep (w.alloc (.cells c t)) (excl μ' (H1 ++ [⟨es, size, .live⟩])) μ' v s) :
  ∃ μ', Step w μ H (w.alloc (.cells c t)) μ' (H1 ++ [⟨es, size, .live⟩]) v s := by
 obtain ⟨p1, p2, p3⟩ := push_rows (r0 := ⟨es, size, .live⟩) hl1 h1
 obtain ⟨μ', h2, _⟩ := Step.of_pushN h c t es size hpos hlen hok hsz hrep h.fresh p1 p2 p3 hv
 exact ⟨μ', h2⟩
theorem box_soundN {P : Program} {w : World} {μ : Mu} {H : Heap} (hrep : HRep w μ H) {elem : TypeId} {xv : Value} {s : S} (hx : Rep w (excl μ H) μ xv s) (hok : s.okv = true)
  {H1 : Heap} {nb : Nat} (hnb : μ nb = none) (hN : H1[nb]? = some ⟨[s], s.cells.length, .live⟩) (hl1 : H.length ≤ H1.length) (h1 : ∀ (b : Nat) (r : Row), b ≠ nb → H1[b]? = some r → r.st ≠ .dead → H[b]? = some r) :
  ∃ v w' μ', (Instr.box elem xv).run P w = .ok v w' ∧ Step w μ H w' μ' H1 v (.ptr nb 0 0) ∧ ∀ b, b ≠ nb → μ' b = μ b := by
 have hc := hx.toCells hok
 obtain ⟨μ', hst⟩ := Step.of_pushN hrep xv.cells elem [s] s.cells.length (S.okv_pos hok) (by simp) (by simpa using hc.ok) (by simp [hc.len]) (fun i j hi hj => by
  obtain rfl : i = 0 := by simpa using hi
  simpa using hc.rep j hj) (v := .pointer (some ⟨w.heap.size, 0, none⟩)) (s := .ptr nb 0 0) hnb hN hl1 h1 (fun μ' hl => by
   have := Rep.ptr (w := w.alloc (.cells xv.cells elem)) (X := excl μ' H1) (μ := μ') nb 0 0 _ hl rfl
   simpa using this)
 exact ⟨_, _, μ', by simp [Instr.box, newVar, newRow], hst⟩
theorem box_sound {P : Program} {w : World} {μ : Mu} {H : Heap} (hrep : HRep w μ H) {elem : TypeId} {xv : Value} {s : S} (hx : Rep w (excl μ H) μ xv s) (hok : s.okv = true) :
  ∃ v w' μ', (Instr.box elem xv).run P w = .ok v w' ∧ Step w μ H w' μ' (H ++ [⟨[s], s.cells.length, .live⟩]) v (.ptr H.length 0 0) := by
 obtain ⟨p1, p2, p3⟩ := push_rows (r0 := ⟨[s], s.cells.length, .live⟩) (H := H) rfl (fun _ _ h _ => h)
 obtain ⟨v, w', μ', h1, h2, _⟩ := box_soundN (P := P) (elem := elem) hrep hx hok hrep.fresh p1 p2 p3
 exact ⟨v, w', μ', h1, h2⟩
theorem take_splice (cur : Array Value) (o : Nat) (vs : List Value) (h : o + vs.length ≤ cur.size) : (cur.toList.take o ++ vs ++ cur.toList.drop (o + vs.length)).toArray.size = cur.size := by
 simp; omega
theorem getD_splice (cur : Array Value) (o : Nat) (vs : List Value) (h : o + vs.length ≤ cur.size) (i : Nat) :
  (cur.toList.take o ++ vs ++ cur.toList.drop (o + vs.length)).toArray.getD i undef = if o ≤ i ∧ i < o + vs.length then vs.getD (i - o) undef else cur.getD i undef := by
 rw [Array.getD_toArray', List.getD_append_cases, List.getD_append_cases]
 have l1 : (cur.toList.take o).length = o := by simp; omega
 have l2 : (cur.toList.take o ++ vs).length = o + vs.length := by simp; omega
 rw [l1, l2]
 by_cases h1 : i < o
 ·rw [if_pos (by omega), if_pos h1, if_neg (by omega)]
  simp only [List.getD_eq_getElem?_getD, List.getElem?_take_of_lt h1, Array.getD_eq_getD_getElem?, Array.getElem?_toList]
 ·by_cases h2 : i < o + vs.length
  ·rw [if_pos h2, if_neg h1, if_pos ⟨by omega, h2⟩]
  ·rw [if_neg h2, if_neg (by omega)]
   simp only [List.getD_eq_getElem?_getD, List.getElem?_drop, Array.getD_eq_getD_getElem?, Array.getElem?_toList]
   rw [show o + vs.length + (i - (o + vs.length)) = i by omega]
theorem cell_getD {w : World} {g j : Nat} {c : Array Value} {t : TypeId} (hg : w.heap[g]? = some (.cells c t (0, 0))) (hj : j < c.size) : w.cell? ⟨g, j, none⟩ = some (c.getD j undef) := by
 rw [cell_of_row w g j c t (0, 0) hg, Array.getD_eq_getD_getElem?, Array.getElem?_eq_getElem hj]
 rfl
theorem getD_cell {w : World} {g j : Nat} {c : Array Value} {t : TypeId} {v : Value} (hg : w.heap[g]? = some (.cells c t (0, 0))) (h : w.cell? ⟨g, j, none⟩ = some v) : j < c.size ∧ c.getD j undef = v := by
 rw [cell_of_row w g j c t (0, 0) hg] at h
 have := (Array.getElem?_eq_some_iff.1 h).1
 exact ⟨this, by rw [Array.getD_eq_getD_getElem?, h]; rfl⟩
theorem Keeps.setRow {X : Nat → Prop} {w : World} {g : Nat} {cs : Array Value} (hg : X g) : Keeps X w (w.setRow g cs) := fun k _ hk => setRow_other w g k cs (fun e => hk (e ▸ hg))
theorem Fr.setRow {X : Nat → Prop} {w : World} {g : Nat} {cs : Array Value} (hg : X g) : Fr X w (w.setRow g cs) := ⟨rfl, rfl, rfl, by simp, Keeps.setRow hg⟩
theorem S.put_cells {e s : S} {off : Nat} (he : ∀ c ∈ e.cells, c.isCell = true) (hs : ∀ c ∈ s.cells, c.isCell = true) (hz : 0 < s.cells.length) (hle : off + s.cells.length ≤ e.cells.length) :
  (e.put off s).cells = e.cells.take off ++ s.cells ++ e.cells.drop (off + s.cells.length) := by
 unfold S.put
 split
 ·rename_i hc
  have h1 : e.cells = [e] := by
   cases e <;> simp_all [S.isCell, S.cells, V.cells]
   rename_i v; cases v <;> simp_all [V.isCell]
  rw [h1] at hle ⊢
  have h2 : off = 0 ∧ s.cells.length = 1 := by simp at hle; omega
  obtain ⟨rfl, h3⟩ := h2
  obtain ⟨c, hc'⟩ := List.length_eq_one_iff.1 h3
  have hcc : c.isCell = true := hs c (by rw [hc']; simp)
  rw [hc']
  have h4 : c.cells = [c] := by
   cases c <;> simp_all [S.isCell, S.cells, V.cells]
   rename_i v; cases v <;> simp_all [V.isCell]
  simp [h4]
 ·split
  ·rename_i h
   obtain ⟨rfl, _, h2⟩ := h
   simp [h2]
  ·generalize hl : e.cells.take off ++ s.cells ++ e.cells.drop (off + s.cells.length) = l
   unfold S.mkAgg
   split
   ·rename_i vs hvs
    rw [S.allPure_eq hvs]
    simp [S.cells, V.cells]
   ·simp [S.cells]
theorem store_sound {P : Program} {w : World} {μ : Mu} {H : Heap} (hrep : HRep w μ H) {t : TypeId} {n : Nat} (hn : sizeT P t = some n) {av xv : Value} {b i off : Nat} {x e : S} {r : Row}
  (ha : Rep w (excl μ H) μ av (.ptr b i off)) (hx : Rep w (excl μ H) μ xv x) (hb : H[b]? = some r) (hst : r.st = .live) (he : r.es[i]? = some e)
  (hok : x.okv = true) (hxn : x.cells.length = n) (hle : off + n ≤ e.cells.length) :
  ∃ w' μ', (Instr.storeAt t av xv).run P w = .ok () w' ∧ Step w μ H w' μ' (H.set b ⟨r.es.set i (e.put off x), r.size, .live⟩) undef .dead := by
 obtain ⟨l, hl, hv, rfl⟩ := ha.ptr_inv
 have rr := hrep.row b r l hb (by rw [hst]; decide) hl
 obtain ⟨c, ct, hheap, hroom⟩ := rr.live hv hst
 obtain ⟨hlt, hei⟩ := List.getElem?_eq_some_iff.1 he
 have hmem : e ∈ r.es := List.mem_of_getElem? he
 have hel : e.cells.length = l.size := rr.lens e hmem
 have hxc := hx.toCells hok
 have e1 := hxc.len
 have hX : owned μ H l.blk := ⟨b, r, l, hb, hst, hl, hv, rfl⟩
 have hfit : l.base + i * l.size + off + xv.cells.toList.length ≤ c.size := by
  have h1 := rr.fits hv
  have h2 : (i + 1) * l.size ≤ r.es.length * l.size := Nat.mul_le_mul_right _ hlt
  rw [Nat.add_mul] at h2
  have h3 : xv.cells.toList.length = n := by rw [Array.length_toList, e1, hxn]
  omega
 have hrun := run_storeCells_at P l.blk (l.base + i * l.size + off) ct xv.cells.toList 0 c w hheap (by simpa using hfit) hxc.one
 simp only [Nat.add_zero] at hrun
 generalize hc' : (c.toList.take (l.base + i * l.size + off) ++ xv.cells.toList ++ c.toList.drop (l.base + i * l.size + off + xv.cells.toList.length)).toArray = c' at hrun
 have hsz' : c'.size = c.size := by rw [← hc']; exact take_splice c _ _ hfit
 have hget : ∀ k, c'.getD k undef = if l.base + i * l.size + off ≤ k ∧ k < l.base + i * l.size + off + xv.cells.toList.length then xv.cells.toList.getD (k - (l.base + i * l.size + off)) undef else c.getD k undef := by
  intro k; rw [← hc']; exact getD_splice c _ _ hfit k
 have hheap' : (w.setRow l.blk c').heap[l.blk]? = some (.cells c' ct (0, 0)) := setRow_heap w l.blk c c' ct (0, 0) hheap
 have hk : Keeps (owned μ H) w (w.setRow l.blk c') := Keeps.setRow hX
 have hput : (e.put off x).cells = e.cells.take off ++ x.cells ++ e.cells.drop (off + x.cells.length) :=
  S.put_cells (rr.cellOk e hmem) hxc.ok (S.okv_pos hok) (by omega)
 have hblt : b < H.length := (List.getElem?_eq_some_iff.1 hb).1
 have hHset : ∀ (b' : Nat) (r' : Row), (H.set b ⟨r.es.set i (e.put off x), r.size, .live⟩)[b']? = some r' → (b' = b ∧ r' = ⟨r.es.set i (e.put off x), r.size, .live⟩) ∨ (b' ≠ b ∧ H[b']? = some r') := by
  intro b' r' h
  by_cases hbb : b' = b
  ·subst hbb
   rw [List.getElem?_set_self hblt] at h
   exact .inl ⟨rfl, (Option.some.inj h).symm⟩
  ·rw [List.getElem?_set_ne (Ne.symm hbb)] at h
   exact .inr ⟨hbb, h⟩
 have ho : ∀ k, owned μ (H.set b ⟨r.es.set i (e.put off x), r.size, .live⟩) k → owned μ H k := by
  rintro k ⟨b', r', l', h1, h2, h3, h4, rfl⟩
  rcases hHset b' r' h1 with ⟨rfl, rfl⟩ | ⟨_, h1'⟩
  ·exact ⟨b', r, l', hb, hst, h3, h4, rfl⟩
  ·exact ⟨b', r', l', h1', h2, h3, h4, rfl⟩
 have hmono : ∀ {v : Value} {s : S}, Rep w (excl μ H) μ v s → Rep (w.setRow l.blk c') (excl μ (H.set b ⟨r.es.set i (e.put off x), r.size, .live⟩)) μ v s :=
  fun h => h.keeps hk.excl (excl_of (fun k hk' => .inl (ho k hk')) rfl) (fun _ _ h => h)
 refine ⟨w.setRow l.blk c', μ, ?_, hrep.alter hk (fun k hk' => .inl (ho k hk')) (fun _ _ h => h) rfl (by simp) (fun b' l' h => by rw [List.length_set]; exact hrep.dom b' l' h) ?_ ?_, .dead _, fun _ _ h => h, rfl, Fr.setRow hX, fun k hk' => .inl (ho k hk')⟩
 ·simp only [Instr.storeAt, Instr.sureAddr, storeVar]
  simp [run_sizeT hn, e1, hxn]
  exact hrun
 ·intro b' r' l' h1 hd h3
  rcases hHset b' r' h1 with ⟨rfl, rfl⟩ | ⟨hne, h1'⟩
  ·rw [hl] at h3
   cases h3
   refine .inl ⟨rr.size, rr.pos, (fun h => by rw [hv] at h; cases h), ?_, ?_, (fun _ => by simpa using rr.fits hv), ?_, (fun _ _ => ⟨c', ct, hheap', by rw [hsz', hroom]⟩), (fun _ h => by cases h)⟩
   ·intro e' he'
    rcases List.mem_or_eq_of_mem_set he' with h | rfl
    ·exact rr.lens e' h
    ·rw [hput]; simp; omega
   ·intro e' he'
    rcases List.mem_or_eq_of_mem_set he' with h | rfl
    ·exact rr.cellOk e' h
    ·rw [hput]
     intro s hs
     rcases List.mem_append.1 hs with hs | hs
     ·rcases List.mem_append.1 hs with hs | hs
      ·exact rr.cellOk e hmem s (List.mem_of_mem_take hs)
      ·exact hxc.ok s hs
     ·exact rr.cellOk e hmem s (List.mem_of_mem_drop hs)
   ·intro _ i' j hi' hj
    have hi'' : i' < r.es.length := by simpa using hi'
    obtain ⟨v0, h5, h6⟩ := rr.cells hv i' j hi'' hj
    obtain ⟨h7, h8⟩ := getD_cell hheap h5
    refine ⟨c'.getD (l.base + i' * l.size + j) undef, cell_getD hheap' (by omega), ?_⟩
    rw [hget]
    have hxl : xv.cells.toList.length = n := by rw [Array.length_toList, e1, hxn]
    rw [hxl]
    by_cases hii : i' = i
    ·subst hii
     simp only [List.getD_eq_getElem?_getD, List.getElem?_set_self hlt, Option.getD_some]
     rw [hput]
     simp only [← List.getD_eq_getElem?_getD]
     rw [List.getD_append_cases, List.getD_append_cases]
     have l1 : (e.cells.take off).length = off := by simp; omega
     have l2 : (e.cells.take off ++ x.cells).length = off + n := by simp; omega
     rw [l1, l2]
     by_cases c1 : j < off
     ·rw [if_neg (by omega), if_pos (by omega), if_pos c1, h8]
      have : (List.take off e.cells).getD j .dead = (r.es.getD i' .dead).cells.getD j .dead := by
       rw [show r.es.getD i' .dead = e by simp [List.getD_eq_getElem?_getD, he]]
       simp only [List.getD_eq_getElem?_getD, List.getElem?_take_of_lt c1]
      rw [this]
      exact hmono h6
     ·by_cases c2 : j < off + n
      ·rw [if_pos (by omega), if_pos c2, if_neg c1]
       have := hxc.rep (j - off) (by omega)
       rw [show l.base + i' * l.size + j - (l.base + i' * l.size + off) = j - off by omega, Array.getD_toList']
       exact hmono this
      ·rw [if_neg (by omega), if_neg c2, h8]
       have : (e.cells.drop (off + x.cells.length)).getD (j - (off + n)) .dead = (r.es.getD i' .dead).cells.getD j .dead := by
        rw [show r.es.getD i' .dead = e by simp [List.getD_eq_getElem?_getD, he]]
        simp only [List.getD_eq_getElem?_getD, List.getElem?_drop]
        rw [hxn, show off + n + (j - (off + n)) = j by omega]
       rw [this]
       exact hmono h6
    ·have hno : ¬ (l.base + i * l.size + off ≤ l.base + i' * l.size + j ∧ l.base + i' * l.size + j < l.base + i * l.size + off + n) := by
      rintro ⟨g1, g2⟩
      rcases Nat.lt_or_ge i' i with h | h
      ·have : (i' + 1) * l.size ≤ i * l.size := Nat.mul_le_mul_right _ h
       rw [Nat.add_mul] at this
       omega
      ·have : (i + 1) * l.size ≤ i' * l.size := Nat.mul_le_mul_right _ (by omega)
       rw [Nat.add_mul] at this
       omega
     rw [if_neg hno, h8]
     simp only [List.getD_eq_getElem?_getD] at h6 ⊢
     rw [List.getElem?_set_ne (Ne.symm hii)]
     exact hmono h6
  ·refine .inr ⟨h1', h3, fun hst' hv' => ?_⟩
   refine setRow_other w l.blk l'.blk c' (fun heq => hne ?_)
   exact hrep.inj b' b r' r l' l h1' hb hst' hst h3 hl hv' hv heq
 ·intro b1 b2 r1 r2 l1 l2 h1 h2 hs1 hs2 hl1 hl2 hv1 hv2 heq
  have f1 : ∃ r1', H[b1]? = some r1' ∧ r1'.st = .live := by
   rcases hHset b1 r1 h1 with ⟨rfl, _⟩ | ⟨_, h⟩
   ·exact ⟨r, hb, hst⟩
   ·exact ⟨r1, h, hs1⟩
  have f2 : ∃ r2', H[b2]? = some r2' ∧ r2'.st = .live := by
   rcases hHset b2 r2 h2 with ⟨rfl, _⟩ | ⟨_, h⟩
   ·exact ⟨r, hb, hst⟩
   ·exact ⟨r2, h, hs2⟩
  obtain ⟨r1', g1, g2⟩ := f1
  obtain ⟨r2', g3, g4⟩ := f2
  exact hrep.inj b1 b2 r1' r2' l1 l2 g1 g3 g2 g4 hl1 hl2 hv1 hv2 heq
end Go.Vm
/-! The abstract machine, part 7: append; slices written out. -/
namespace Go.Vm
open Go Go.RowKit
structure SrcOk (P : Program) (w : World) (X : Nat → Prop) (μ : Mu) (size : Nat) (yv : Value) (ys : List S) (news : List Value) : Prop where
 len : news.length = ys.length * size
 runLen : ∀ w1 : World, (Builtin.lenOf yv).run P w1 = .ok ys.length w1
 runCells : ∀ w1 : World, w1.heap = w.heap → (Builtin.firstCells size ys.length yv).run P w1 = .ok news.toArray w1
 rep : ∀ i j, i < ys.length → j < size → Rep w X μ (news.getD (i * size + j) undef) ((ys.getD i .dead).cells.getD j .dead)
 lens : ∀ e ∈ ys, e.cells.length = size
 ok : ∀ e ∈ ys, ∀ s ∈ e.cells, s.isCell = true
theorem cell?_heap {w w1 : World} (h : w1.heap = w.heap) (a : Addr) : w1.cell? a = w.cell? a := by simp [World.cell?, h]
theorem flat_src {P : Program} {w : World} {X : Nat → Prop} {μ : Mu} {size blk o cap : Nat} {ys : List S} (hpos : 0 < size)
  (h : ∀ i j, i < ys.length → j < size → ∃ v, w.cell? ⟨blk, o + i * size + j, none⟩ = some v ∧ Rep w X μ v ((ys.getD i .dead).cells.getD j .dead)) (lens : ∀ e ∈ ys, e.cells.length = size)
  (ok : ∀ e ∈ ys, ∀ s ∈ e.cells, s.isCell = true) : ∃ news, SrcOk P w X μ size (.slice (some ⟨blk, o, none⟩) ys.length cap) ys news := by
 have hf : ∀ i j, i < ys.length → j < size → w.cell? ⟨blk, o + (i * size + j), none⟩ = some ((w.cell? ⟨blk, o + (i * size + j), none⟩).getD undef) := by
  intro i j hi hj
  obtain ⟨v, h1, _⟩ := h i j hi hj
  rw [Nat.add_assoc] at h1
  rw [h1]; rfl
 have hflat : ∀ k, k < ys.length * size → w.cell? ⟨blk, o + k, none⟩ = some ((w.cell? ⟨blk, o + k, none⟩).getD undef) := by
  intro k hk
  have h1 : k / size < ys.length := by rw [Nat.div_lt_iff_lt_mul hpos]; exact hk
  have h2 := hf (k / size) (k % size) h1 (Nat.mod_lt _ hpos)
  have h3 : k / size * size + k % size = k := by rw [Nat.mul_comm]; exact Nat.div_add_mod k size
  rw [h3] at h2
  exact h2
 refine ⟨(List.range (ys.length * size)).map fun k => (w.cell? ⟨blk, o + k, none⟩).getD undef, by simp, fun w1 => by simp [Builtin.lenOf], fun w1 hw1 => ?_, fun i j hi hj => ?_, lens, ok⟩
 ·simp only [Builtin.firstCells]
  exact run_loadCells w1 ⟨blk, o, none⟩ (ys.length * size) _ (fun j hj => by rw [addr_add, cell?_heap hw1]; exact hflat j hj)
 ·have hk : i * size + j < ys.length * size := by
   have : (i + 1) * size ≤ ys.length * size := Nat.mul_le_mul_right _ hi
   rw [Nat.add_mul] at this
   omega
  obtain ⟨v, h1, h2⟩ := h i j hi hj
  rw [Nat.add_assoc] at h1
  simp only [List.getD_eq_getElem?_getD, List.getElem?_map, List.getElem?_range hk, Option.map_some, Option.getD_some]
  rw [h1]
  simpa [List.getD_eq_getElem?_getD] using h2
theorem src_sound {P : Program} {w : World} {μ : Mu} {H : Heap} (hrep : HRep w μ H) {size : Nat} (hpos : 0 < size) {yv : Value} {y : S} {ys : List S} (hy : Rep w (excl μ H) μ yv y) (h : srcOf H size y = some ys)
  (hlens : ∀ e ∈ ys, e.cells.length = size) : ∃ news, SrcOk P w (excl μ H) μ size yv ys news := by
 have nil : ∀ a : Option Addr, ys = [] → yv = .slice a 0 0 → ∃ news, SrcOk P w (excl μ H) μ size yv ys news := by
  rintro a rfl rfl
  refine ⟨[], by simp, fun w1 => by simp [Builtin.lenOf], fun w1 _ => ?_, (fun i j hi => by simp at hi), (fun _ h => by cases h), (fun _ h => by cases h)⟩
  cases a <;> simp [Builtin.firstCells, loadCells, loadCellsFrom]
 cases y with
 | empty =>
  obtain ⟨a, rfl, _⟩ := hy.empty_inv
  simp [srcOf] at h
  exact nil a h rfl
 | pure d =>
  cases d with
  | sl es =>
   simp [srcOf] at h
   subst h
   cases hy.pure_inv with
   | nils => exact nil _ rfl rfl
   | sl blk off len cap size' _ f hz hl hc hm hx hs hcell hw hr =>
    by_cases hne : es = []
    ·subst hne
     simp at hl
     subst hl
     refine ⟨[], by simp, fun w1 => by simp [Builtin.lenOf], fun w1 _ => ?_, (fun i j hi => by simp at hi), (fun _ h => by cases h), (fun _ h => by cases h)⟩
     simp [Builtin.firstCells, loadCells, loadCellsFrom]
    ·obtain ⟨e0, he0⟩ := List.exists_mem_of_ne_nil _ hne
     have : size' = size := by
      have h1 := hs e0 he0
      have h2 := hlens (.pure e0) (List.mem_map_of_mem he0)
      simp [S.cells] at h2
      omega
     subst this
     have := flat_src (P := P) (w := w) (X := excl μ H) (μ := μ) (size := size') (blk := blk) (o := off) (cap := cap) (ys := es.map .pure) hpos (fun i j hi hj => by
      have hi' : i < es.length := by simpa using hi
      refine ⟨_, hw i j hi' hj, ?_⟩
      have h3 := hr i j hi' hj
      have h4 : (es.getD i default).cells.length = size' := by
       rw [List.getD_eq_getElem?_getD, List.getElem?_eq_getElem hi']
       exact hs _ (List.getElem_mem _)
      simp only [List.getD_eq_getElem?_getD, List.getElem?_map, List.getElem?_eq_getElem hi', Option.map_some, Option.getD_some, S.cells] at h3 h4 ⊢
      rw [List.getElem?_eq_getElem (by omega)] at h3 ⊢
      exact .pure _ _ h3) hlens (fun e he s hs' => by
       obtain ⟨e', he', rfl⟩ := List.mem_map.1 he
       simp only [S.cells, List.mem_map] at hs'
       obtain ⟨v, hv, rfl⟩ := hs'
       exact hcell e' he' v hv)
     simpa [hl] using this
  | _ => simp [srcOf] at h
 | rsl b off len =>
  simp only [srcOf] at h
  split at h
  ·rename_i r hrow
   split at h
   ·rename_i hsz
    simp only [Option.some.injEq] at h
    cases hy with
    | rslz a ha _ _ l hl =>
     subst h
     exact nil a (by simp) rfl
    | rsl _ _ _ cap l hl hv hc hm hr =>
     obtain ⟨hb, hd⟩ := rowAt_inv hrow
     have rr := hrep.row b r l hb hd hl
     have hsz' : l.size = size := by rw [← rr.size, hsz.1]
     obtain ⟨hsz0, hlen⟩ := hsz
     have hyl : ys.length = len := by rw [← h]; simp; omega
     have := flat_src (P := P) (w := w) (X := excl μ H) (μ := μ) (size := size) (blk := l.blk) (o := l.base + off * l.size) (cap := cap) (ys := ys) hpos (fun i j hi hj => by
      obtain ⟨v, h1, h2⟩ := rr.cells hv (off + i) j (by omega) (by omega)
      refine ⟨v, ?_, ?_⟩
      ·rw [Nat.add_mul, hsz'] at h1
       rw [hsz', show l.base + off * size + i * size + j = l.base + (off * size + i * size) + j by omega]
       exact h1
      ·have : ys.getD i .dead = r.es.getD (off + i) .dead := by
        rw [← h]
        simp only [List.getD_eq_getElem?_getD]
        rw [List.getElem?_take_of_lt (by omega), List.getElem?_drop]
       rw [this]
       exact h2) hlens (fun e he s hs' => rr.cellOk e (by rw [← h] at he; exact List.mem_of_mem_drop (List.mem_of_mem_take he)) s hs')
     simpa [hyl] using this
   ·cases h
  ·cases h
 | _ => simp [srcOf] at h
section app
variable {P : Program} {w : World} {μ : Mu} {H : Heap}
theorem SrcOk.one {X : Nat → Prop} {size : Nat} (hpos : 0 < size) {yv : Value} {ys : List S} {news : List Value} (h : SrcOk P w X μ size yv ys news) : ∀ v ∈ news, v.oneCell' = true := by
 intro v hv
 obtain ⟨k, hk, rfl⟩ := List.mem_iff_getElem.1 hv
 rw [h.len] at hk
 have h1 : k / size < ys.length := by rw [Nat.div_lt_iff_lt_mul hpos]; exact hk
 have h2 := h.rep (k / size) (k % size) h1 (Nat.mod_lt _ hpos)
 have h3 : k / size * size + k % size = k := by rw [Nat.mul_comm]; exact Nat.div_add_mod k size
 rw [h3] at h2
 have h4 : ys.getD (k / size) .dead ∈ ys := by
  rw [List.getD_eq_getElem?_getD, List.getElem?_eq_getElem h1]
  exact List.getElem_mem _
 have h5 : (ys.getD (k / size) .dead).cells.getD (k % size) .dead ∈ (ys.getD (k / size) .dead).cells := by
  have := h.lens _ h4
  rw [List.getD_eq_getElem?_getD (l := (ys.getD (k / size) .dead).cells), List.getElem?_eq_getElem (by rw [this]; exact Nat.mod_lt _ hpos)]
  exact List.getElem_mem _
 have h6 := (h2.one (h.ok _ h4 _ h5)).2.2
 rw [List.getD_eq_getElem?_getD, List.getElem?_eq_getElem (by rw [h.len]; exact hk)] at h6
 simpa using h6
/-- append where there is no room: a new row -/
theorem run_app_grow {t u e ty : TypeId} {i : TypeInfo} {z : Value} (ht : P.underlying t = some (.slice e)) (hu : (∃ e', P.underlying u = some (.slice e')) ∨ P.underlying u = some .string) (hi : P.info? e = some i) (hz : i.zero = some z)
  {a : Option Addr} {len cap m : Nat} {yv : Value} {olds news : List Value}
  (holds : ∀ w1 : World, w1.heap = w.heap → (Builtin.firstCells i.size len (.slice a len cap)).run P w1 = .ok olds.toArray w1)
  (hlen : ∀ w1 : World, (Builtin.lenOf yv).run P w1 = .ok m w1) (hnews : ∀ w1 : World, w1.heap = w.heap → (Builtin.firstCells i.size m yv).run P w1 = .ok news.toArray w1)
  (hg : cap < len + m) (h63 : len + m ≤ maxLen) (hbytes : (len + m) * i.bytes ≤ 140737488355328) :
  (Builtin.append_ #[t, u] ty #[.slice a len cap, yv]).run P w = .ok (.slice (some ⟨w.heap.size, 0, none⟩) (len + m) (grownCap w (len + m) cap e))
   (w.drew.alloc (.cells (olds.toArray ++ news.toArray ++ Builtin.zeroCells z.cells (grownCap w (len + m) cap e - (len + m))) e)) := by
 have hn : ¬ (len + m ≤ cap) := by omega
 have hfit := growslice_fits hg hbytes
 have h63' : ¬ (9223372036854775807 < ((len : Int) + (m : Int))) := by simp only [maxLen] at h63; omega
 have h48' : ¬ (281474976710656 < Builtin.nextslicecap (len + m) cap * i.bytes) := by omega
 have h1 := hnews w.drew rfl
 have h2 := holds w.drew rfl
 rcases hu with ⟨e', hu⟩ | hu <;>
  (simp [Builtin.append_, run_underlying ht, run_underlying hu, sizeOf, typeInfo, zeroValue, hi, hz, hlen, hn, h63', h48', Question.forced, h1, h2, newRow, grownCap]
   congr 2
   apply Array.ext'
   simp [List.append_assoc])
/-- append where there is room: the cells behind are written -/
theorem run_app_room {t u e ty : TypeId} {i : TypeInfo} (ht : P.underlying t = some (.slice e)) (hu : (∃ e', P.underlying u = some (.slice e')) ∨ P.underlying u = some .string) (hi : P.info? e = some i)
  {blk o len cap m : Nat} {yv : Value} {news : List Value} {c : Array Value} {ct : TypeId} (hheap : w.heap[blk]? = some (.cells c ct (0, 0)))
  (hlen : ∀ w1 : World, (Builtin.lenOf yv).run P w1 = .ok m w1) (hnews : ∀ w1 : World, w1.heap = w.heap → (Builtin.firstCells i.size m yv).run P w1 = .ok news.toArray w1)
  (h1 : ∀ v ∈ news, v.oneCell' = true) (hroom : len + m ≤ cap) (hfit : o + len * i.size + news.length ≤ c.size) :
  (Builtin.append_ #[t, u] ty #[.slice (some ⟨blk, o, none⟩) len cap, yv]).run P w = .ok (.slice (some ⟨blk, o, none⟩) (len + m) cap)
   (w.setRow blk (c.toList.take (o + len * i.size) ++ news ++ c.toList.drop (o + len * i.size + news.length)).toArray) := by
 have hst := run_storeCells_at P blk (o + len * i.size) ct news 0 c w hheap (by simpa using hfit) h1
 simp only [Nat.add_zero] at hst
 have h2 := hnews w rfl
 rcases hu with ⟨e', hu⟩ | hu <;>
  simp [Builtin.append_, run_underlying ht, run_underlying hu, sizeOf, typeInfo, hi, hlen, hroom, h2, addr_add, hst]
theorem run_app_nothing {t u e ty : TypeId} {i : TypeInfo} (ht : P.underlying t = some (.slice e)) (hu : (∃ e', P.underlying u = some (.slice e')) ∨ P.underlying u = some .string) (hi : P.info? e = some i)
  {a : Option Addr} {yv : Value} (hlen : ∀ w1 : World, (Builtin.lenOf yv).run P w1 = .ok 0 w1) (hnews : ∀ w1 : World, w1.heap = w.heap → (Builtin.firstCells i.size 0 yv).run P w1 = .ok ([] : List Value).toArray w1) :
  (Builtin.append_ #[t, u] ty #[.slice a 0 0, yv]).run P w = .ok (.slice a 0 0) w := by
 have h2 := hnews w rfl
 rcases hu with ⟨e', hu⟩ | hu <;>
  (cases a <;> simp [Builtin.append_, run_underlying ht, run_underlying hu, sizeOf, typeInfo, hi, hlen, h2, storeCells])
theorem drew_step {w' : World} {μ' : Mu} {H' : Heap} {v : Value} {s : S} (h : Step w.drew μ H w' μ' H' v s) : Step w μ H w' μ' H' v s :=
 ⟨h.heap, h.val, h.ext, h.xo, ⟨h.fr.os, h.fr.tape, h.fr.output, h.fr.size, h.fr.keep⟩, h.own⟩
theorem Keeps.drew (X : Nat → Prop) (w : World) : Keeps X w w.drew := fun _ _ _ => rfl
theorem HRep.drew (h : HRep w μ H) : HRep w.drew μ H := by
 refine ⟨h.tab.keeps (Keeps.drew _ w) (fun _ h => .inl h), h.dom, h.xo, fun b r l hb hd hl => ?_, h.inj⟩
 have rr := h.row b r l hb hd hl
 exact ⟨rr.size, rr.pos, rr.virt, rr.lens, rr.cellOk, rr.fits, (fun hv i j hi hj => by
  obtain ⟨v, h1, h2⟩ := rr.cells hv i j hi hj
  exact ⟨v, h1, h2.keeps (Keeps.drew _ w) (fun _ h => .inl h) (fun _ _ h => h)⟩), rr.live, rr.frozen⟩
theorem Rep.drew {X : Nat → Prop} {v : Value} {s : S} (h : Rep w X μ v s) : Rep w.drew X μ v s := h.keeps (Keeps.drew _ w) (fun _ h => .inl h) (fun _ _ h => h)
/-- what the append needs of its destination: the elements that it has -/
theorem app_grow_step (hrep : HRep w μ H) {size : Nat} (hpos : 0 < size) {cap m len : Nat} {xs ys : List S} {olds news : List Value} {z : Value} {e : TypeId} (hzs : z.cells.size = size)
  (hl1 : xs.length = len) (hl2 : ys.length = m) (ho : olds.length = len * size) (hn : news.length = m * size)
  (rx : ∀ i j, i < len → j < size → Rep w (excl μ H) μ (olds.getD (i * size + j) undef) ((xs.getD i .dead).cells.getD j .dead)) (ry : ∀ i j, i < m → j < size → Rep w (excl μ H) μ (news.getD (i * size + j) undef) ((ys.getD i .dead).cells.getD j .dead))
  (lx : ∀ e ∈ xs, e.cells.length = size) (ly : ∀ e ∈ ys, e.cells.length = size) (okx : ∀ e ∈ xs, ∀ s ∈ e.cells, s.isCell = true) (oky : ∀ e ∈ ys, ∀ s ∈ e.cells, s.isCell = true)
  (h63 : len + m ≤ maxLen) {H1 : Heap} (hH1 : H1.length = H.length) (hH2 : ∀ (b : Nat) (r : Row), H1[b]? = some r → r.st ≠ .dead → H[b]? = some r) :
  ∃ μ', Step w μ H (w.drew.alloc (.cells (olds.toArray ++ news.toArray ++ Builtin.zeroCells z.cells (grownCap w (len + m) cap e - (len + m))) e)) μ' (H1 ++ [⟨xs ++ ys, size, .live⟩])
   (.slice (some ⟨w.heap.size, 0, none⟩) (len + m) (grownCap w (len + m) cap e)) (.rsl H.length 0 (len + m)) := by
 have hge := grownCap_ge w (len + m) cap e
 have hcm := grownCap_le_maxLen w (len + m) cap e h63
 generalize grownCap w (len + m) cap e = nc at *
 have hsz : (olds.toArray ++ news.toArray ++ Builtin.zeroCells z.cells (nc - (len + m))).size = nc * size := by
  simp only [Array.size_append, List.size_toArray, size_zeroCells, hzs, ho, hn, ← Nat.add_mul]
  congr 1
  omega
 have hget : ∀ k, k < (len + m) * size → (olds.toArray ++ news.toArray ++ Builtin.zeroCells z.cells (nc - (len + m))).getD k undef = if k < len * size then olds.getD k undef else news.getD (k - len * size) undef := by
  intro k hk
  rw [Nat.add_mul] at hk
  simp only [Array.getD_eq_getD_getElem?, List.getD_eq_getElem?_getD]
  rw [Array.getElem?_append_left (by simp; omega), Array.getElem?_append]
  simp only [List.size_toArray, ho]
  split <;> simp
 obtain ⟨μ', hst⟩ := Step.of_push (w := w.drew) hrep.drew (olds.toArray ++ news.toArray ++ Builtin.zeroCells z.cells (nc - (len + m))) e (xs ++ ys) size hpos
  (fun e he => by rcases List.mem_append.1 he with h | h; exact lx e h; exact ly e h) (fun e he => by rcases List.mem_append.1 he with h | h; exact okx e h; exact oky e h)
  (by rw [hsz, List.length_append, hl1, hl2]; exact Nat.mul_le_mul_right _ hge)
  (fun i j hi hj => by
   have hi' : i < len + m := by rw [List.length_append] at hi; omega
   have hk : i * size + j < (len + m) * size := by
    have : (i + 1) * size ≤ (len + m) * size := Nat.mul_le_mul_right _ hi'
    rw [Nat.add_mul] at this
    omega
   rw [hget _ hk, List.getD_append_cases, hl1]
   by_cases hc : i < len
   ·have : i * size + j < len * size := by
     have : (i + 1) * size ≤ len * size := Nat.mul_le_mul_right _ hc
     rw [Nat.add_mul] at this
     omega
    rw [if_pos this, if_pos hc]
    exact (rx i j hc hj).drew
   ·have h5 : len * size ≤ i * size := Nat.mul_le_mul_right _ (by omega)
    rw [if_neg (by omega), if_neg hc]
    have h6 : i * size + j - len * size = (i - len) * size + j := by rw [Nat.sub_mul]; omega
    rw [h6]
    exact (ry (i - len) j (by omega) hj).drew) (v := .slice (some ⟨w.heap.size, 0, none⟩) (len + m) nc) (s := .rsl H.length 0 (len + m)) hH1 hH2 (fun μ' hl => by
   have := Rep.rsl (w := w.drew.alloc (.cells (olds.toArray ++ news.toArray ++ Builtin.zeroCells z.cells (nc - (len + m))) e)) (X := excl μ' (H1 ++ [⟨xs ++ ys, size, .live⟩])) (μ := μ') H.length 0 (len + m) nc _ hl rfl hge hcm (by simp only [hsz, Nat.zero_add]; omega)
   simpa using this)
 exact ⟨μ', drew_step hst⟩
end app
end Go.Vm
/-! The abstract machine, part 8: append, whole. -/
namespace Go.Vm
open Go Go.RowKit
section app
variable {P : Program} {w : World} {μ : Mu} {H : Heap}
/-- a slice without room gets a row of its own name -/
theorem virt_step (hrep : HRep w μ H) {size : Nat} (hpos : 0 < size) {H1 : Heap} (hH1 : H1.length = H.length) (hH2 : ∀ (b : Nat) (r : Row), H1[b]? = some r → r.st ≠ .dead → H[b]? = some r)
  {a : Option Addr} (ha : ∀ x, a = some x → True) : ∃ μ', Step w μ H w μ' (H1 ++ [⟨[], size, .live⟩]) (.slice a 0 0) (.rsl H.length 0 0) := by
 have hμ : ∀ (b : Nat) (l : Loc), μ b = some l → (μ.add H.length ⟨0, 0, size, 0, true⟩) b = some l := by
  intro b l hb
  rw [Mu.add_ne (by rintro rfl; rw [hrep.fresh] at hb; cases hb)]
  exact hb
 have old : ∀ (b : Nat) (r : Row) (l : Loc), (H1 ++ [(⟨[], size, .live⟩ : Row)])[b]? = some r → r.st ≠ .dead → (μ.add H.length ⟨0, 0, size, 0, true⟩) b = some l → (H[b]? = some r ∧ μ b = some l) ∨ (b = H.length ∧ r = ⟨[], size, .live⟩ ∧ l = ⟨0, 0, size, 0, true⟩) := by
  intro b r l hb hd hl
  rcases get_push hb with hb | ⟨hb, hr⟩
  ·have h0 := hH2 b r hb hd
   have hlt := (List.getElem?_eq_some_iff.1 h0).1
   rw [Mu.add_ne (by omega)] at hl
   exact .inl ⟨h0, hl⟩
  ·rw [hH1] at hb
   subst hb
   rw [Mu.add_self] at hl
   exact .inr ⟨rfl, hr, (Option.some.inj hl).symm⟩
 have ho : ∀ k, owned (μ.add H.length ⟨0, 0, size, 0, true⟩) (H1 ++ [⟨[], size, .live⟩]) k → owned μ H k ∨ w.heap.size ≤ k := by
  rintro k ⟨b, r, l, hb, hst, hl, hv, rfl⟩
  rcases old b r l hb (by rw [hst]; decide) hl with ⟨h1, h2⟩ | ⟨_, _, rfl⟩
  ·exact .inl ⟨b, r, l, h1, hst, h2, hv, rfl⟩
  ·cases hv
 refine ⟨μ.add H.length ⟨0, 0, size, 0, true⟩, hrep.alter (fun _ _ _ => rfl) ho hμ rfl (Nat.le_refl _) ?_ ?_ ?_, .rslz a ha H.length 0 _ (Mu.add_self _ _ _), hμ, rfl, Fr.refl _ _, ho⟩
 ·intro b l hb
  rw [List.length_append, hH1]
  by_cases h : b = H.length
  ·subst h; simp
  ·rw [Mu.add_ne h] at hb
   have := hrep.dom b l hb
   omega
 ·intro b r l hb hd hl
  rcases old b r l hb hd hl with ⟨h1, h2⟩ | ⟨_, rfl, rfl⟩
  ·exact .inr ⟨h1, h2, fun _ _ => rfl⟩
  ·exact .inl ⟨rfl, hpos, fun _ => rfl, (fun _ h => by cases h), (fun _ h => by cases h), (fun h => by cases h), (fun h => by cases h), (fun h => by cases h), (fun h => by cases h)⟩
 ·intro b b' r r' l l' hb hb' hst hst' hl hl' hv hv' heq
  rcases old b r l hb (by rw [hst]; decide) hl with ⟨h1, h2⟩ | ⟨_, _, rfl⟩
  ·rcases old b' r' l' hb' (by rw [hst']; decide) hl' with ⟨h3, h4⟩ | ⟨_, _, rfl⟩
   ·exact hrep.inj b b' r r' l l' h1 h3 hst hst' h2 h4 hv hv' heq
   ·cases hv'
  ·cases hv
structure AppT (P : Program) (t u e : TypeId) (i : TypeInfo) (z : Value) : Prop where
 ht : P.underlying t = some (.slice e)
 hu : (∃ e', P.underlying u = some (.slice e')) ∨ P.underlying u = some .string
 hi : P.info? e = some i
 hz : i.zero = some z
 hzs : z.cells.size = i.size
 hpos : 0 < i.size
/-- an append to a slice that has no room -/
theorem app_empty (hrep : HRep w μ H) {t u e ty : TypeId} {i : TypeInfo} {z : Value} (T : AppT P t u e i z) {a : Option Addr} (ha : ∀ x, a = some x → True) {yv : Value} {ys : List S} {news : List Value}
  (hs : SrcOk P w (excl μ H) μ i.size yv ys news) (hbytes : ys.length * i.bytes ≤ 140737488355328) (h63 : ys.length ≤ maxLen) {H1 : Heap} (hH1 : H1.length = H.length) (hH2 : ∀ (b : Nat) (r : Row), H1[b]? = some r → r.st ≠ .dead → H[b]? = some r) :
  ∃ v w' μ', (Builtin.append_ #[t, u] ty #[.slice a 0 0, yv]).run P w = .ok v w' ∧ Step w μ H w' μ' (H1 ++ [⟨ys, i.size, .live⟩]) v (.rsl H.length 0 ys.length) := by
 by_cases h0 : ys = []
 ·subst h0
  have hn : news = [] := List.eq_nil_of_length_eq_zero (by simpa using hs.len)
  subst hn
  obtain ⟨μ', hst⟩ := virt_step hrep T.hpos hH1 hH2 ha
  exact ⟨_, _, μ', run_app_nothing T.ht T.hu T.hi hs.runLen hs.runCells, hst⟩
 ·have h1 : 0 < ys.length := List.length_pos_iff.2 h0
  have hrun := run_app_grow (P := P) (ty := ty) T.ht T.hu T.hi T.hz (a := a) (len := 0) (cap := 0) (olds := []) (fun w1 _ => by cases a <;> simp [Builtin.firstCells, loadCells, loadCellsFrom]) hs.runLen hs.runCells (by omega) (by omega) (by simpa using hbytes)
  obtain ⟨μ', hst⟩ := app_grow_step hrep T.hpos (cap := 0) (xs := []) (olds := []) T.hzs rfl rfl (by simp) hs.len (fun i j hi => by simp at hi) hs.rep (fun _ h => by cases h) hs.lens (fun _ h => by cases h) hs.ok (by simpa using h63) hH1 hH2
  refine ⟨_, _, μ', hrun, ?_⟩
  simpa using hst
theorem set_len (H : Heap) (b : Nat) (r : Row) : (H.set b r).length = H.length := by simp
theorem set_dead {H : Heap} {b : Nat} {n : Nat} : ∀ (b' : Nat) (r' : Row), (H.set b ⟨[], n, .dead⟩)[b']? = some r' → r'.st ≠ .dead → H[b']? = some r' := by
 intro b' r' h hd
 by_cases hb : b' = b
 ·subst hb
  rw [List.getElem?_set] at h
  simp only [if_true] at h
  split at h
  ·cases h; exact absurd rfl hd
  ·cases h
 ·rwa [List.getElem?_set_ne (Ne.symm hb)] at h
theorem set_dead_ne {H : Heap} {b : Nat} {n : Nat} : ∀ (b' : Nat) (r' : Row), (H.set b ⟨[], n, .dead⟩)[b']? = some r' → r'.st ≠ .dead → b' ≠ b := by
 intro b' r' h hd hb
 subst hb
 rw [List.getElem?_set] at h
 simp only [if_true] at h
 split at h
 ·cases h; exact absurd rfl hd
 ·cases h
/-- an append within the room -/
theorem app_room_step (hrep : HRep w μ H) {b off len cap m : Nat} {r : Row} {l : Loc} {ys : List S} {news : List Value} {yv : Value} (hb : H[b]? = some r) (hst : r.st = .live) (hl : μ b = some l) (hv : l.virt = false)
  (hlen : off + len ≤ r.es.length) (hr : l.base + (off + cap) * l.size ≤ l.room) (hs : SrcOk P w (excl μ H) μ l.size yv ys news) (hm : ys.length = m) (hroom : len + m ≤ cap) (hcap : cap ≤ maxLen)
  {c : Array Value} {ct : TypeId} (hheap : w.heap[l.blk]? = some (.cells c ct (0, 0))) (hcs : c.size = l.room) :
  ∃ μ', Step w μ H (w.setRow l.blk (c.toList.take (l.base + off * l.size + len * l.size) ++ news ++ c.toList.drop (l.base + off * l.size + len * l.size + news.length)).toArray) μ'
   (H.set b ⟨[], r.size, .dead⟩ ++ [⟨(r.es.drop off).take len ++ ys, l.size, .live⟩]) (.slice (some ⟨l.blk, l.base + off * l.size, none⟩) (len + m) cap) (.rsl H.length 0 (len + m)) := by
 have rr := hrep.row b r l hb (by rw [hst]; decide) hl
 have hX : owned μ H l.blk := ⟨b, r, l, hb, hst, hl, hv, rfl⟩
 have hnl : news.length = m * l.size := by rw [hs.len, hm]
 have hcapm : (off + (len + m)) * l.size ≤ (off + cap) * l.size := Nat.mul_le_mul_right _ (by omega)
 rw [Nat.add_mul, Nat.add_mul, Nat.add_mul] at hcapm
 have hr2 : l.base + off * l.size + cap * l.size ≤ l.room := by rw [Nat.add_mul] at hr; omega
 have hfit : l.base + off * l.size + len * l.size + news.length ≤ c.size := by omega
 have hget := getD_splice c (l.base + off * l.size + len * l.size) news hfit
 have hsz' := take_splice c (l.base + off * l.size + len * l.size) news hfit
 generalize (c.toList.take (l.base + off * l.size + len * l.size) ++ news ++ c.toList.drop (l.base + off * l.size + len * l.size + news.length)).toArray = c' at *
 have hheap' : (w.setRow l.blk c').heap[l.blk]? = some (.cells c' ct (0, 0)) := setRow_heap w l.blk c c' ct (0, 0) hheap
 have hk : Keeps (owned μ H) w (w.setRow l.blk c') := Keeps.setRow hX
 have hμ : ∀ (b' : Nat) (l' : Loc), μ b' = some l' → (μ.add H.length ⟨l.blk, l.base + off * l.size, l.size, l.room, false⟩) b' = some l' := by
  intro b' l' hb'
  rw [Mu.add_ne (by rintro rfl; rw [hrep.fresh] at hb'; cases hb')]
  exact hb'
 have old : ∀ (b' : Nat) (r' : Row) (l' : Loc), (H.set b ⟨[], r.size, .dead⟩ ++ [(⟨(r.es.drop off).take len ++ ys, l.size, .live⟩ : Row)])[b']? = some r' → r'.st ≠ .dead → (μ.add H.length ⟨l.blk, l.base + off * l.size, l.size, l.room, false⟩) b' = some l' →
   (H[b']? = some r' ∧ μ b' = some l' ∧ b' ≠ b) ∨ (b' = H.length ∧ r' = ⟨(r.es.drop off).take len ++ ys, l.size, .live⟩ ∧ l' = ⟨l.blk, l.base + off * l.size, l.size, l.room, false⟩) := by
  intro b' r' l' hb' hd hl'
  rcases get_push hb' with hb' | ⟨hb', hr'⟩
  ·have h0 := set_dead b' r' hb' hd
   have hlt := (List.getElem?_eq_some_iff.1 h0).1
   rw [Mu.add_ne (by omega)] at hl'
   exact .inl ⟨h0, hl', set_dead_ne b' r' hb' hd⟩
  ·rw [set_len] at hb'
   subst hb'
   rw [Mu.add_self] at hl'
   exact .inr ⟨rfl, hr', (Option.some.inj hl').symm⟩
 have ho : ∀ k, owned (μ.add H.length ⟨l.blk, l.base + off * l.size, l.size, l.room, false⟩) (H.set b ⟨[], r.size, .dead⟩ ++ [⟨(r.es.drop off).take len ++ ys, l.size, .live⟩]) k → owned μ H k ∨ w.heap.size ≤ k := by
  rintro k ⟨b', r', l', hb', hst', hl', hv', rfl⟩
  rcases old b' r' l' hb' (by rw [hst']; decide) hl' with ⟨h1, h2, _⟩ | ⟨_, _, rfl⟩
  ·exact .inl ⟨b', r', l', h1, hst', h2, hv', rfl⟩
  ·exact .inl hX
 have hmono : ∀ {v : Value} {s : S}, Rep w (excl μ H) μ v s → Rep (w.setRow l.blk c') (excl (μ.add H.length ⟨l.blk, l.base + off * l.size, l.size, l.room, false⟩) (H.set b ⟨[], r.size, .dead⟩ ++ [⟨(r.es.drop off).take len ++ ys, l.size, .live⟩])) (μ.add H.length ⟨l.blk, l.base + off * l.size, l.size, l.room, false⟩) v s :=
  fun h => h.keeps hk.excl (excl_of ho rfl) hμ
 have hxl : ((r.es.drop off).take len).length = len := by simp; omega
 refine ⟨μ.add H.length ⟨l.blk, l.base + off * l.size, l.size, l.room, false⟩, hrep.alter hk ho hμ rfl (by simp) ?_ ?_ ?_, ?_, hμ, rfl, Fr.setRow hX, ho⟩
 ·intro b' l' hb'
  rw [List.length_append, set_len]
  by_cases h : b' = H.length
  ·subst h; simp
  ·rw [Mu.add_ne h] at hb'
   have := hrep.dom b' l' hb'
   omega
 ·intro b' r' l' hb' hd hl'
  rcases old b' r' l' hb' hd hl' with ⟨h1, h2, hne⟩ | ⟨_, rfl, rfl⟩
  ·refine .inr ⟨h1, h2, fun hst' hv' => setRow_other w l.blk l'.blk c' (fun heq => hne (hrep.inj b' b r' r l' l h1 hb hst' hst h2 hl hv' hv heq))⟩
  ·refine .inl ⟨rfl, rr.pos, (fun h => by cases h), ?_, ?_, ?_, ?_, (fun _ _ => ⟨c', ct, hheap', by rw [hsz', hcs]⟩), (fun _ h => by cases h)⟩
   ·intro e he
    rcases List.mem_append.1 he with h | h
    ·exact rr.lens e (List.mem_of_mem_drop (List.mem_of_mem_take h))
    ·exact hs.lens e h
   ·intro e he
    rcases List.mem_append.1 he with h | h
    ·exact rr.cellOk e (List.mem_of_mem_drop (List.mem_of_mem_take h))
    ·exact hs.ok e h
   ·intro _
    show l.base + off * l.size + ((r.es.drop off).take len ++ ys).length * l.size ≤ l.room
    rw [List.length_append, hxl, hm, Nat.add_mul]
    omega
   ·intro _ i j hi hj
    simp only [List.length_append, hxl, hm] at hi
    have hj : j < l.size := hj
    show ∃ v, (w.setRow l.blk c').cell? ⟨l.blk, l.base + off * l.size + i * l.size + j, none⟩ = some v ∧ _
    have hk2 : i * l.size + j < (len + m) * l.size := by
     have : (i + 1) * l.size ≤ (len + m) * l.size := Nat.mul_le_mul_right _ hi
     rw [Nat.add_mul] at this
     omega
    rw [Nat.add_mul] at hk2
    refine ⟨c'.getD (l.base + off * l.size + i * l.size + j) undef, cell_getD hheap' (by rw [hsz', hcs]; omega), ?_⟩
    rw [hget, List.getD_append_cases, hxl]
    by_cases hc : i < len
    ·have h5 : i * l.size + j < len * l.size := by
      have : (i + 1) * l.size ≤ len * l.size := Nat.mul_le_mul_right _ hc
      rw [Nat.add_mul] at this
      omega
     rw [if_neg (by omega), if_pos hc]
     obtain ⟨v0, h6, h7⟩ := rr.cells hv (off + i) j (by omega) hj
     rw [Nat.add_mul] at h6
     have h8 := (getD_cell hheap h6).2
     rw [show l.base + off * l.size + i * l.size + j = l.base + (off * l.size + i * l.size) + j by omega, h8]
     have : ((r.es.drop off).take len).getD i .dead = r.es.getD (off + i) .dead := by
      simp only [List.getD_eq_getElem?_getD]
      rw [List.getElem?_take_of_lt hc, List.getElem?_drop]
     rw [this]
     exact hmono h7
    ·have h5 : len * l.size ≤ i * l.size := Nat.mul_le_mul_right _ (by omega)
     rw [if_pos ⟨by omega, by omega⟩, if_neg hc]
     have h6 : l.base + off * l.size + i * l.size + j - (l.base + off * l.size + len * l.size) = (i - len) * l.size + j := by rw [Nat.sub_mul]; omega
     rw [h6]
     exact hmono (hs.rep (i - len) j (by omega) hj)
 ·intro b1 b2 r1 r2 l1 l2 h1 h2 hs1 hs2 hl1 hl2 hv1 hv2 heq
  rcases old b1 r1 l1 h1 (by rw [hs1]; decide) hl1 with ⟨g1, g2, g3⟩ | ⟨rfl, _, rfl⟩ <;> rcases old b2 r2 l2 h2 (by rw [hs2]; decide) hl2 with ⟨k1, k2, k3⟩ | ⟨rfl, _, rfl⟩
  ·exact hrep.inj b1 b2 r1 r2 l1 l2 g1 k1 hs1 hs2 g2 k2 hv1 hv2 heq
  ·exact absurd (hrep.inj b1 b r1 r l1 l g1 hb hs1 hst g2 hl hv1 hv heq) g3
  ·exact absurd (hrep.inj b2 b r2 r l2 l k1 hb hs2 hst k2 hl hv2 hv heq.symm) k3
  ·rfl
 ·have := Rep.rsl (w := w.setRow l.blk c') (X := excl (μ.add H.length ⟨l.blk, l.base + off * l.size, l.size, l.room, false⟩) (H.set b ⟨[], r.size, .dead⟩ ++ [⟨(r.es.drop off).take len ++ ys, l.size, .live⟩])) (μ := μ.add H.length ⟨l.blk, l.base + off * l.size, l.size, l.room, false⟩) H.length 0 (len + m) cap _ (Mu.add_self _ _ _) rfl hroom hcap (by simp only [Nat.zero_add]; omega)
  simpa using this
theorem app_rsl (hrep : HRep w μ H) {t u e ty : TypeId} {i : TypeInfo} {z : Value} (T : AppT P t u e i z) {xv yv : Value} {b off len : Nat} {r : Row} (hx : Rep w (excl μ H) μ xv (.rsl b off len)) (hb : H[b]? = some r) (hst : r.st = .live) (hsz : r.size = i.size)
  (hlen : off + len ≤ r.es.length) {ys : List S} {news : List Value} (hs : SrcOk P w (excl μ H) μ i.size yv ys news) (hbytes : (len + ys.length) * i.bytes ≤ 140737488355328) (h63 : len + ys.length ≤ maxLen) :
  ∃ v w' μ', (Builtin.append_ #[t, u] ty #[xv, yv]).run P w = .ok v w' ∧ Step w μ H w' μ' (H.set b ⟨[], r.size, .dead⟩ ++ [⟨(r.es.drop off).take len ++ ys, i.size, .live⟩]) v (.rsl H.length 0 (len + ys.length)) := by
 cases hx with
 | rslz a ha _ _ l hl =>
  obtain ⟨v, w', μ', h1, h2⟩ := app_empty hrep (ty := ty) T ha hs (by simpa using hbytes) (by omega) (set_len H b ⟨[], r.size, .dead⟩) set_dead
  exact ⟨v, w', μ', h1, by simpa using h2⟩
 | rsl _ _ _ cap l hl hv hc hm hr =>
  have rr := hrep.row b r l hb (by rw [hst]; decide) hl
  have hls : l.size = i.size := by rw [← rr.size, hsz]
  obtain ⟨c, ct, hheap, hcs⟩ := rr.live hv hst
  by_cases hroom : len + ys.length ≤ cap
  ·rw [← hls] at hs
   obtain ⟨μ', hstep⟩ := app_room_step hrep hb hst hl hv hlen hr hs rfl hroom hm hheap hcs
   rw [hls] at hs
   have hfit : l.base + off * l.size + len * i.size + news.length ≤ c.size := by
    have := hs.len
    have h4 : (off + (len + ys.length)) * l.size ≤ (off + cap) * l.size := Nat.mul_le_mul_right _ (by omega)
    rw [Nat.add_mul, Nat.add_mul] at h4
    rw [hls] at h4 hr ⊢
    omega
   have hrun := run_app_room (P := P) (ty := ty) T.ht T.hu T.hi (o := l.base + off * l.size) (len := len) hheap hs.runLen hs.runCells (hs.one T.hpos) hroom hfit
   refine ⟨_, _, μ', hrun, ?_⟩
   rw [← hls]
   exact hstep
  ·have hrow : rowAt H b = some r := by simp [rowAt, hb, hst]
   obtain ⟨olds, ho⟩ := src_sound (P := P) hrep T.hpos (Rep.rsl (w := w) (X := excl μ H) b off len cap l hl hv hc hm hr) (show srcOf H i.size (.rsl b off len) = some ((r.es.drop off).take len) by simp [srcOf, hrow, hsz, hlen])
    (fun e he => by rw [rr.lens e (List.mem_of_mem_drop (List.mem_of_mem_take he)), hls])
   have hxl : ((r.es.drop off).take len).length = len := by simp; omega
   have hrun := run_app_grow (P := P) (ty := ty) T.ht T.hu T.hi T.hz (a := some ⟨l.blk, l.base + off * l.size, none⟩) (len := len) (cap := cap) (fun w1 h1 => by have := ho.runCells w1 h1; rw [hxl] at this; exact this) hs.runLen hs.runCells (by omega) h63 hbytes
   obtain ⟨μ', hstep⟩ := app_grow_step hrep T.hpos (cap := cap) (e := e) T.hzs hxl rfl (by rw [ho.len, hxl]) hs.len (fun i j hi hj => ho.rep i j (by omega) hj) hs.rep ho.lens hs.lens ho.ok hs.ok h63 (set_len H b ⟨[], r.size, .dead⟩) set_dead
   exact ⟨_, _, μ', hrun, hstep⟩
end app
end Go.Vm
/-! The abstract machine, part 9: slices written out, values built, structs held against each other. -/
namespace Go.Vm
open Go Go.RowKit
theorem fillSeq (size : Nat) (hpos : 0 < size) : ∀ (vs : List Value) (k : Nat) (cs : Array Value), (∀ v ∈ vs, v.cells.size = size) → (k + vs.length) * size ≤ cs.size →
  ∃ cs', Instr.fill (fun i => some (i * size, size)) cs ((vs.zipIdx k).map fun p => (p.2, p.1)) = some cs' ∧ cs'.size = cs.size ∧
   (∀ i j, i < vs.length → j < size → cs'.getD ((k + i) * size + j) undef = (vs.getD i undef).cells.getD j undef) ∧ (∀ n, n < k * size → cs'.getD n undef = cs.getD n undef)
 | [], k, cs, _, _ => ⟨cs, rfl, rfl, fun i j hi => by simp at hi, fun _ _ => rfl⟩
 | v :: r, k, cs, hv, hsz => by
  have h0 : v.cells.size = size := hv v (by simp)
  have h1 : (k + 1) * size ≤ cs.size := by
   refine Nat.le_trans (Nat.mul_le_mul_right _ ?_) hsz
   simp
  rw [Nat.add_mul] at h1
  have hfit : k * size + v.cells.toList.length ≤ cs.size := by simp [h0]; omega
  have hsz1 := take_splice cs (k * size) v.cells.toList hfit
  have hget1 := getD_splice cs (k * size) v.cells.toList hfit
  have hst := fill_step v (k * size) cs (by omega)
  simp only [Array.length_toList] at hget1 hsz1
  generalize (cs.toList.take (k * size) ++ v.cells.toList ++ cs.toList.drop (k * size + v.cells.size)).toArray = c1 at *
  obtain ⟨cs', h2, h3, h4, h5⟩ := fillSeq size hpos r (k + 1) c1 (fun v hv' => hv v (by simp [hv'])) (by rw [hsz1]; simp only [List.length_cons] at hsz; rw [show k + 1 + r.length = k + (r.length + 1) by omega]; exact hsz)
  refine ⟨cs', ?_, by rw [h3, hsz1], ?_, ?_⟩
  ·simp only [List.zipIdx_cons, List.map_cons, Instr.fill]
   rw [if_neg (by simp; omega), hst]
   exact h2
  ·intro i j hi hj
   cases i with
   | zero =>
    rw [Nat.add_zero, h5 _ (by rw [Nat.add_mul]; omega), hget1, if_pos ⟨by omega, by omega⟩, Array.getD_toList']
    simp [show k * size + j - k * size = j by omega]
   | succ i =>
    have := h4 i j (by simpa using hi) hj
    rw [show k + (i + 1) = k + 1 + i by omega, this]
    rfl
  ·intro n hn
   rw [h5 n (by rw [Nat.add_mul]; omega), hget1, if_neg (by omega)]
theorem bslice_soundN {P : Program} {w : World} {μ : Mu} {H : Heap} (hrep : HRep w μ H) {t e : TypeId} {i : TypeInfo} {z : Value} (ht : P.underlying t = some (.slice e)) (hi : P.info? e = some i) (hz : i.zero = some z) (hpos : 0 < i.size)
  {vs : List Value} {ss : List S} (hl : vs.length = ss.length) (hsz : ss.length * i.size ≤ 16777216) (hok : ∀ s ∈ ss, s.okv = true ∧ s.cells.length = i.size) (hrep' : ∀ k, k < ss.length → Rep w (excl μ H) μ (vs.getD k undef) (ss.getD k .dead))
  {H1 : Heap} {nb : Nat} (hnb : μ nb = none) (hN : H1[nb]? = some ⟨ss, i.size, .live⟩) (hl1 : H.length ≤ H1.length) (h1 : ∀ (b : Nat) (r : Row), b ≠ nb → H1[b]? = some r → r.st ≠ .dead → H[b]? = some r) :
  ∃ v w' μ', (Instr.buildSlice t ss.length ((vs.zipIdx).map fun p => (p.2, p.1)).toArray).run P w = .ok v w' ∧ Step w μ H w' μ' H1 v (.rsl nb 0 ss.length) ∧ ∀ b, b ≠ nb → μ' b = μ b := by
 have hcells : ∀ k, k < ss.length → Cells w (excl μ H) μ (vs.getD k undef).cells (ss.getD k .dead).cells ∧ (ss.getD k .dead).cells.length = i.size := by
  intro k hk
  have hm : ss.getD k .dead ∈ ss := by
   rw [List.getD_eq_getElem?_getD, List.getElem?_eq_getElem hk]
   exact List.getElem_mem _
  exact ⟨(hrep' k hk).toCells (hok _ hm).1, (hok _ hm).2⟩
 have hvs : ∀ v ∈ vs, v.cells.size = i.size := by
  intro v hv
  obtain ⟨k, hk, rfl⟩ := List.mem_iff_getElem.1 hv
  obtain ⟨h1, h2⟩ := hcells k (by omega)
  have := h1.len
  rw [List.getD_eq_getElem?_getD, List.getElem?_eq_getElem hk] at this
  simp only [Option.getD_some] at this
  omega
 have fin : ∀ z0 : Array Value, ∃ cs', Instr.fill (fun k => some (k * i.size, i.size)) ((Array.range (ss.length * i.size)).map (z0[· % z0.size]!)) ((vs.zipIdx).map fun p => (p.2, p.1)) = some cs' ∧
   ∃ μ', Step w μ H (w.alloc (.cells cs' e)) μ' H1 (.slice (some ⟨w.heap.size, 0, none⟩) ss.length ss.length) (.rsl nb 0 ss.length) ∧ ∀ b, b ≠ nb → μ' b = μ b := by
  intro z0
  obtain ⟨cs', h2, h3, h4, _⟩ := fillSeq i.size hpos vs 0 ((Array.range (ss.length * i.size)).map (z0[· % z0.size]!)) hvs (by simp [hl])
  simp only [Array.size_map, Array.size_range] at h3
  refine ⟨cs', h2, ?_⟩
  obtain ⟨μ', hst⟩ := Step.of_pushN hrep cs' e ss i.size hpos (fun s hs => (hok s hs).2) (fun s hs => by
    obtain ⟨k, hk, rfl⟩ := List.mem_iff_getElem.1 hs
    have := (hcells k hk).1.ok
    rw [List.getD_eq_getElem?_getD, List.getElem?_eq_getElem hk] at this
    exact this) (by omega) (fun k j hk hj => by
    have := h4 k j (by omega) hj
    rw [Nat.zero_add] at this
    rw [this]
    exact (hcells k hk).1.rep j (by rw [(hcells k hk).2]; exact hj)) (v := .slice (some ⟨w.heap.size, 0, none⟩) ss.length ss.length) (s := .rsl nb 0 ss.length) hnb hN hl1 h1 (fun μ' hl' => by
    have h9 : ss.length ≤ maxLen := by
     have : ss.length * 1 ≤ ss.length * i.size := Nat.mul_le_mul_left _ hpos
     simp only [maxLen]
     omega
    have := Rep.rsl (w := w.alloc (.cells cs' e)) (X := excl μ' H1) (μ := μ') nb 0 ss.length ss.length _ hl' rfl (Nat.le_refl _) h9 (by simp [h3])
    simpa using this)
  exact ⟨μ', hst⟩
 have hb : ¬ (16777216 < ss.length * i.size) := by omega
 by_cases h0 : ss.length * i.size = 0
 ·obtain ⟨cs', g1, μ', h2⟩ := fin #[]
  refine ⟨_, _, μ', ?_, h2⟩
  simp only [Instr.buildSlice, Sem.run_bind, run_underlying ht, Result.andThen_ok, sizeOf, typeInfo, run_program, hi, Sem.run_pure, Sem.run_ite]
  rw [if_neg (by omega), if_pos h0]
  simp only [Result.andThen_ok, g1, newRow, Sem.run_bind, run_newObj, Sem.run_pure]
  rfl
 ·obtain ⟨cs', g1, μ', h2⟩ := fin z.cells
  refine ⟨_, _, μ', ?_, h2⟩
  simp only [Instr.buildSlice, Sem.run_bind, run_underlying ht, Result.andThen_ok, sizeOf, typeInfo, run_program, hi, Sem.run_pure]
  simp [hb, h0, zeroValue, typeInfo, hi, hz, g1, newRow]
theorem bslice_sound {P : Program} {w : World} {μ : Mu} {H : Heap} (hrep : HRep w μ H) {t e : TypeId} {i : TypeInfo} {z : Value} (ht : P.underlying t = some (.slice e)) (hi : P.info? e = some i) (hz : i.zero = some z) (hpos : 0 < i.size)
  {vs : List Value} {ss : List S} (hl : vs.length = ss.length) (hsz : ss.length * i.size ≤ 16777216) (hok : ∀ s ∈ ss, s.okv = true ∧ s.cells.length = i.size) (hrep' : ∀ k, k < ss.length → Rep w (excl μ H) μ (vs.getD k undef) (ss.getD k .dead)) :
  ∃ v w' μ', (Instr.buildSlice t ss.length ((vs.zipIdx).map fun p => (p.2, p.1)).toArray).run P w = .ok v w' ∧ Step w μ H w' μ' (H ++ [⟨ss, i.size, .live⟩]) v (.rsl H.length 0 ss.length) := by
 obtain ⟨p1, p2, p3⟩ := push_rows (r0 := ⟨ss, i.size, .live⟩) (H := H) rfl (fun _ _ h _ => h)
 obtain ⟨v, w', μ', h1, h2, _⟩ := bslice_soundN (P := P) hrep ht hi hz hpos hl hsz hok hrep' hrep.fresh p1 p2 p3
 exact ⟨v, w', μ', h1, h2⟩
/-! ### rows of zeros -/
theorem made_get {zc : Array Value} {n k j : Nat} (hk : k < n) (hj : j < zc.size) : (madeCells zc (n * zc.size)).getD (k * zc.size + j) undef = zc.getD j undef := by
 have h1 : k * zc.size + j < n * zc.size := by
  have : (k + 1) * zc.size ≤ n * zc.size := Nat.mul_le_mul_right _ hk
  rw [Nat.succ_mul] at this
  omega
 have h2 : (k * zc.size + j) % zc.size = j := by
  rw [Nat.add_comm, Nat.add_mul_mod_self_right, Nat.mod_eq_of_lt hj]
 simp only [madeCells, Array.getD_eq_getD_getElem?, Array.getElem?_map, Array.getElem?_range, h1, if_true, Option.map_some, Option.getD_some, h2]
 rw [getElem!_pos zc j hj, Array.getElem?_eq_getElem hj]
 rfl
theorem mksl_soundN {P : Program} {w : World} {μ : Mu} {H : Heap} (hrep : HRep w μ H) {t e : TypeId} {i : TypeInfo} {z : Value} (ht : P.underlying t = some (.slice e)) (hi : P.info? e = some i) (hz : i.zero = some z) (hpos : 0 < i.size)
  {s : S} (hok : s.okv = true) (hs : s.cells.length = i.size) (hrep' : Rep w (excl μ H) μ z s) {kl kc : IntKind} {n c : Int} (h0 : 0 ≤ n) (hnc : n ≤ c) (hb : i.bytes * c.toNat ≤ 281474976710656) (hm : c.toNat ≤ maxLen)
  {H1 : Heap} {nb : Nat} (hnb : μ nb = none) (hN : H1[nb]? = some ⟨List.replicate c.toNat s, i.size, .live⟩) (hl1 : H.length ≤ H1.length) (h1 : ∀ (b : Nat) (r : Row), b ≠ nb → H1[b]? = some r → r.st ≠ .dead → H[b]? = some r) :
  ∃ v w' μ', (Instr.makeSlice t (.int kl n) (.int kc c)).run P w = .ok v w' ∧ Step w μ H w' μ' H1 v (.rsl nb 0 n.toNat) ∧ ∀ b, b ≠ nb → μ' b = μ b := by
 obtain ⟨m0, rfl⟩ := Int.eq_ofNat_of_zero_le h0
 obtain ⟨m, rfl⟩ := Int.eq_ofNat_of_zero_le (Int.le_trans h0 hnc)
 have hmm : m0 ≤ m := by omega
 simp only [Int.toNat_natCast] at *
 have hc := hrep'.toCells hok
 have hzs : z.cells.size = i.size := by rw [hc.len, hs]
 have hm' : (m : Int) ≤ 9223372036854775807 := by
  simp only [maxLen] at hm
  omega
 have hb' : (i.bytes : Int) * (m : Int) ≤ 281474976710656 := by
  have h : ((i.bytes * m : Nat) : Int) ≤ 281474976710656 := by omega
  rwa [Int.natCast_mul] at h
 have hr := run_make (P := P) w t e i z ht hi hz kl kc (m0 : Int) (m : Int) (by omega) hnc hb' hm'
 simp only [Int.toNat_natCast] at hr
 have hone : ∀ x ∈ List.replicate m s, x = s := fun x hx => (List.mem_replicate.1 hx).2
 obtain ⟨μ', hst, hμ⟩ := Step.of_pushN hrep (madeCells z.cells (m * i.size)) e (List.replicate m s) i.size hpos (fun x hx => by rw [hone x hx]; exact hs) (fun x hx => by rw [hone x hx]; exact hc.ok) (by rw [size_madeCells]; simp) (fun k j hk hj => by
   have hk' : k < m := by simpa using hk
   have := made_get (zc := z.cells) hk' (by rw [hzs]; exact hj)
   rw [hzs] at this
   rw [this]
   have e2 : (List.replicate m s).getD k .dead = s := by rw [List.getD_eq_getElem?_getD, List.getElem?_replicate, if_pos hk']; rfl
   rw [e2]
   exact hc.rep j (by rw [hs]; exact hj)) (v := .slice (some ⟨w.heap.size, 0, none⟩) m0 m) (s := .rsl nb 0 m0) hnb hN hl1 h1 (fun μ' hl' => by
   have := Rep.rsl (w := w.alloc (.cells (madeCells z.cells (m * i.size)) e)) (X := excl μ' H1) (μ := μ') nb 0 m0 m _ hl' rfl hmm hm (by simp [size_madeCells])
   simpa using this)
 exact ⟨_, _, μ', hr, hst, hμ⟩
theorem mksl_sound {P : Program} {w : World} {μ : Mu} {H : Heap} (hrep : HRep w μ H) {t e : TypeId} {i : TypeInfo} {z : Value} (ht : P.underlying t = some (.slice e)) (hi : P.info? e = some i) (hz : i.zero = some z) (hpos : 0 < i.size)
  {s : S} (hok : s.okv = true) (hs : s.cells.length = i.size) (hrep' : Rep w (excl μ H) μ z s) {kl kc : IntKind} {n c : Int} (h0 : 0 ≤ n) (hnc : n ≤ c) (hb : i.bytes * c.toNat ≤ 281474976710656) (hm : c.toNat ≤ maxLen) :
  ∃ v w' μ', (Instr.makeSlice t (.int kl n) (.int kc c)).run P w = .ok v w' ∧ Step w μ H w' μ' (H ++ [⟨List.replicate c.toNat s, i.size, .live⟩]) v (.rsl H.length 0 n.toNat) := by
 obtain ⟨p1, p2, p3⟩ := push_rows (r0 := ⟨List.replicate c.toNat s, i.size, .live⟩) (H := H) rfl (fun _ _ h _ => h)
 obtain ⟨v, w', μ', h1, h2, _⟩ := mksl_soundN (P := P) hrep ht hi hz hpos hok hs hrep' (kl := kl) (kc := kc) h0 hnc hb hm hrep.fresh p1 p2 p3
 exact ⟨v, w', μ', h1, h2⟩
/-! ### the tail of a row is cleared: what stood there is told no more -/
theorem clr_sound {P : Program} {w : World} {μ : Mu} {H : Heap} {t e ty : TypeId} {i : TypeInfo} {z : Value} (hrep : HRep w μ H) (ht : P.underlying t = some (.slice e)) (hi : P.info? e = some i) (hz : i.zero = some z) (hzs : z.cells.size = i.size) (hpos : 0 < i.size)
  (hone : z.cells.all Value.oneCell' = true) {av : Value} {b off len : Nat} {r : Row} (ha : Rep w (excl μ H) μ av (.rsl b off len)) (hb : H[b]? = some r) (hst : r.st = .live) (hrs : r.size = i.size) :
  ∃ w' μ', (Builtin.clear_ #[t] ty #[av]).run P w = .ok (.tuple #[]) w' ∧ Step w μ H w' μ' (H.set b ⟨r.es.take off, r.size, .live⟩) (.tuple #[]) (.tup []) := by
 have hblt : b < H.length := (List.getElem?_eq_some_iff.1 hb).1
 have hHset : ∀ (b' : Nat) (r' : Row), (H.set b ⟨r.es.take off, r.size, .live⟩)[b']? = some r' → (b' = b ∧ r' = ⟨r.es.take off, r.size, .live⟩) ∨ (b' ≠ b ∧ H[b']? = some r') := by
  intro b' r' h
  by_cases hbb : b' = b
  ·subst hbb
   rw [List.getElem?_set_self hblt] at h
   exact .inl ⟨rfl, (Option.some.inj h).symm⟩
  ·rw [List.getElem?_set_ne (Ne.symm hbb)] at h
   exact .inr ⟨hbb, h⟩
 have ho : ∀ k, owned μ (H.set b ⟨r.es.take off, r.size, .live⟩) k → owned μ H k := by
  rintro k ⟨b', r', l', h1, h2, h3, h4, rfl⟩
  rcases hHset b' r' h1 with ⟨rfl, rfl⟩ | ⟨_, h1'⟩
  ·exact ⟨b', r, l', hb, hst, h3, h4, rfl⟩
  ·exact ⟨b', r', l', h1', h2, h3, h4, rfl⟩
 have hinj : ∀ (b1 b2 : Nat) (r1 r2 : Row) (l1 l2 : Loc), (H.set b ⟨r.es.take off, r.size, .live⟩)[b1]? = some r1 → (H.set b ⟨r.es.take off, r.size, .live⟩)[b2]? = some r2 → r1.st = .live → r2.st = .live → μ b1 = some l1 → μ b2 = some l2 → l1.virt = false → l2.virt = false → l1.blk = l2.blk → b1 = b2 := by
  intro b1 b2 r1 r2 l1 l2 h1 h2 hs1 hs2 hl1 hl2 hv1 hv2 heq
  have f1 : ∃ r1', H[b1]? = some r1' ∧ r1'.st = .live := by
   rcases hHset b1 r1 h1 with ⟨rfl, _⟩ | ⟨_, h⟩
   ·exact ⟨r, hb, hst⟩
   ·exact ⟨r1, h, hs1⟩
  have f2 : ∃ r2', H[b2]? = some r2' ∧ r2'.st = .live := by
   rcases hHset b2 r2 h2 with ⟨rfl, _⟩ | ⟨_, h⟩
   ·exact ⟨r, hb, hst⟩
   ·exact ⟨r2, h, hs2⟩
  obtain ⟨r1', g1, g2⟩ := f1
  obtain ⟨r2', g3, g4⟩ := f2
  exact hrep.inj b1 b2 r1' r2' l1 l2 g1 g3 g2 g4 hl1 hl2 hv1 hv2 heq
 -- what is left of the row, whatever has become of the cells behind it
 have key : ∀ (w' : World), Keeps (owned μ H) w w' → w.heap.size ≤ w'.heap.size → Fr (owned μ H) w w' → (∀ (l : Loc), μ b = some l → l.virt = false → (∀ c ct, w.heap[l.blk]? = some (.cells c ct (0, 0)) → ∃ c', w'.heap[l.blk]? = some (.cells c' ct (0, 0)) ∧ c'.size = c.size ∧ ∀ k, k < l.base + off * l.size → c'.getD k undef = c.getD k undef)) →
   (∀ k, (∀ l, μ b = some l → l.virt = false → k ≠ l.blk) → w'.heap[k]? = w.heap[k]?) → Step w μ H w' μ (H.set b ⟨r.es.take off, r.size, .live⟩) (.tuple #[]) (.tup []) := by
  intro w' hk hgrow hfr hcell hother
  have hmono : ∀ {v : Value} {s : S}, Rep w (excl μ H) μ v s → Rep w' (excl μ (H.set b ⟨r.es.take off, r.size, .live⟩)) μ v s :=
   fun h => h.keeps hk.excl (excl_of (fun k hk' => .inl (ho k hk')) rfl) (fun _ _ h => h)
  refine ⟨hrep.alter hk (fun k hk' => .inl (ho k hk')) (fun _ _ h => h) rfl hgrow (fun b' l' h => by rw [List.length_set]; exact hrep.dom b' l' h) ?_ hinj, .tup _ _ rfl (fun i hi => by simp at hi), fun _ _ h => h, rfl, hfr, fun k hk' => .inl (ho k hk')⟩
  intro b' r' l' h1 hd h3
  rcases hHset b' r' h1 with ⟨rfl, rfl⟩ | ⟨hne, h1'⟩
  ·have rr := hrep.row b' r l' hb (by rw [hst]; decide) h3
   refine .inl ⟨rr.size, rr.pos, (fun hv => by simp [rr.virt hv]), (fun e' he' => rr.lens e' (List.mem_of_mem_take he')), (fun e' he' => rr.cellOk e' (List.mem_of_mem_take he')), (fun hv => ?_), (fun hv i' j hi' hj => ?_), (fun hv _ => ?_), (fun _ h => by cases h)⟩
   ·have h5 := rr.fits hv
    have h6 : (r.es.take off).length * l'.size ≤ r.es.length * l'.size := Nat.mul_le_mul_right _ (by simp; omega)
    show l'.base + (r.es.take off).length * l'.size ≤ l'.room
    omega
   ·have hi2 : i' < off ∧ i' < r.es.length := by
     have : i' < (r.es.take off).length := hi'
     simp at this
     omega
    obtain ⟨v0, h5, h6⟩ := rr.cells hv i' j hi2.2 hj
    obtain ⟨c, ct, hheap, hroom⟩ := rr.live hv hst
    obtain ⟨h7, h8⟩ := getD_cell hheap h5
    obtain ⟨c', g1, g2, g3⟩ := hcell l' h3 hv c ct hheap
    have h9 : (i' + 1) * l'.size ≤ off * l'.size := Nat.mul_le_mul_right _ hi2.1
    rw [Nat.add_mul] at h9
    refine ⟨c'.getD (l'.base + i' * l'.size + j) undef, cell_getD g1 (by omega), ?_⟩
    rw [g3 _ (by omega), h8]
    have e9 : (r.es.take off).getD i' .dead = r.es.getD i' .dead := by simp only [List.getD_eq_getElem?_getD, List.getElem?_take_of_lt hi2.1]
    show Rep w' _ μ v0 (((r.es.take off).getD i' .dead).cells.getD j .dead)
    rw [e9]
    exact hmono h6
   ·obtain ⟨c, ct, hheap, hroom⟩ := rr.live hv hst
    obtain ⟨c', g1, g2, g3⟩ := hcell l' h3 hv c ct hheap
    exact ⟨c', ct, g1, by rw [g2, hroom]⟩
  ·refine .inr ⟨h1', h3, fun hst' hv' => ?_⟩
   refine hother _ fun l hl hv heq => hne ?_
   exact hrep.inj b' b r' r l' l h1' hb hst' hst h3 hl hv' hv heq
 have same : Step w μ H w μ (H.set b ⟨r.es.take off, r.size, .live⟩) (.tuple #[]) (.tup []) :=
  key w (fun _ _ _ => rfl) (Nat.le_refl _) (Fr.refl _ _) (fun _ _ _ c ct hc => ⟨c, hc, rfl, fun _ _ => rfl⟩) (fun _ _ => rfl)
 cases ha with
 | rslz a _ _ _ l hl =>
  refine ⟨w, μ, ?_, same⟩
  cases a <;> simp [Builtin.clear_, run_underlying ht]
 | rsl _ _ _ cap l hl hv hc hm hroom' =>
  by_cases h0 : len = 0
  ·subst h0
   exact ⟨w, μ, by simp [Builtin.clear_, run_underlying ht], same⟩
  ·have rr := hrep.row b r l hb (by rw [hst]; decide) hl
   obtain ⟨c, ct, hheap, hroom⟩ := rr.live hv hst
   have hX : owned μ H l.blk := ⟨b, r, l, hb, hst, hl, hv, rfl⟩
   have hls : l.size = i.size := by rw [← rr.size, hrs]
   have hzl : (Builtin.zeroCells z.cells len).toList.length = len * i.size := by simp [Builtin.zeroCells, hzs]
   have hcap : (off + len) * l.size ≤ (off + cap) * l.size := Nat.mul_le_mul_right _ (by omega)
   rw [Nat.add_mul] at hcap
   have hfit : l.base + off * l.size + (Builtin.zeroCells z.cells len).toList.length ≤ c.size := by
    rw [hzl, ← hls]; omega
   have hrun := run_storeCells_at P l.blk (l.base + off * l.size) ct (Builtin.zeroCells z.cells len).toList 0 c w hheap (by simpa using hfit) (fun v hv => by
    have h1 := Array.all_eq_true.1 hone
    have hv' : v ∈ Builtin.zeroCells z.cells len := by simpa using hv
    simp only [Builtin.zeroCells, Array.mem_map] at hv'
    obtain ⟨k, _, rfl⟩ := hv'
    have hk : k % z.cells.size < z.cells.size := Nat.mod_lt _ (by omega)
    rw [getElem!_pos z.cells _ hk]
    exact h1 _ hk)
   simp only [Nat.add_zero] at hrun
   generalize hc' : (c.toList.take (l.base + off * l.size) ++ (Builtin.zeroCells z.cells len).toList ++ c.toList.drop (l.base + off * l.size + (Builtin.zeroCells z.cells len).toList.length)).toArray = c' at hrun
   have hsz' : c'.size = c.size := by rw [← hc']; exact take_splice c _ _ hfit
   have hget : ∀ k, k < l.base + off * l.size → c'.getD k undef = c.getD k undef := by
    intro k hk; rw [← hc', getD_splice c _ _ hfit k, if_neg (by omega)]
   refine ⟨w.setRow l.blk c', μ, ?_, key _ (Keeps.setRow hX) (by simp) (Fr.setRow hX) ?_ ?_⟩
   ·obtain ⟨len', rfl⟩ : ∃ k, len = k + 1 := ⟨len - 1, by omega⟩
    simp [Builtin.clear_, run_underlying ht, zeroValue, typeInfo, hi, hz]
    rw [hrun]
    rfl
   ·intro l' hl' hv' c0 ct0 h0'
    rw [hl] at hl'
    cases hl'
    rw [hheap] at h0'
    cases h0'
    exact ⟨c', setRow_heap w l.blk c c' ct (0, 0) hheap, hsz', hget⟩
   ·intro k hk
    exact setRow_other w l.blk k c' (hk l hl hv)
/-! ### structs -/
theorem run_places {P : Program} {w : World} (fs : List Field) (h : ∀ f ∈ fs, (P.info? f.type).isSome = true) :
  (fs.mapM (m := Sem) fun (f : Field) => do pure (f.offset, ← sizeOf f.type)).run P w = .ok (fs.map fun (f : Field) => (f.offset, P.cellsOf f.type)) w := by
 induction fs with
 | nil => rfl
 | cons f r ih =>
  obtain ⟨i, hi⟩ := Option.isSome_iff_exists.1 (h f (by simp))
  have := ih (fun g hg => h g (by simp [hg]))
  have e1 : (do pure (f.offset, ← sizeOf f.type) : Sem (Nat × Nat)).run P w = .ok (f.offset, P.cellsOf f.type) w := by simp [sizeOf, typeInfo, hi, Program.cellsOf]
  rw [List.mapM_cons, Sem.run_bind, e1, Result.andThen_ok, Sem.run_bind, this]
  rfl
theorem build_sound {P : Program} {w : World} {X : Nat → Prop} {μ : Mu} {env : Env} {t : TypeId} {i : TypeInfo} {z : Value} {fs : Array Field} (ht : P.underlying t = some (.struct fs)) (hi : P.info? t = some i) (hz : i.zero = some z)
  (hfs : ∀ f ∈ fs.toList, (P.info? f.type).isSome = true) {zs ss : List S} (hzc : Cells w X μ z.cells zs) {l : List (Nat × Value)} {q : List (Nat × Nat × O)}
  (hp : Parts w X μ env (fun (k : Nat) => (fs[k]?).map fun (f : Field) => (f.offset, P.cellsOf f.type)) l q) (h : fillA env zs q = some ss) :
  ∃ v, (Instr.build t l.toArray).run P w = .ok v w ∧ Rep w X μ v (S.mkAgg ss) := by
 obtain ⟨cs', h1, h2⟩ := fill_sound hp hzc h
 refine ⟨.agg cs', ?_, h2.mkAgg⟩
 have hpl := run_places (P := P) (w := w) fs.toList hfs
 have hpa : (fs.mapM (m := Sem) fun (f : Field) => do pure (f.offset, ← sizeOf f.type)).run P w = .ok (fs.map fun (f : Field) => (f.offset, P.cellsOf f.type)) w := by
  rw [Array.mapM_eq_mapM_toList]
  simp only [Sem.run_map, hpl, Result.andThen_ok]
  congr 1
  apply Array.ext'
  simp
 have hplace : (fun (k : Nat) => (fs.map fun (f : Field) => (f.offset, P.cellsOf f.type))[k]?) = (fun (k : Nat) => (fs[k]?).map fun (f : Field) => (f.offset, P.cellsOf f.type)) := by
  funext k; simp
 simp only [Instr.build, zeroValue, typeInfo, Sem.run_bind, run_program, Result.andThen_ok, hi, hz, Sem.run_pure, run_underlying ht, hpa]
 rw [hplace]
 simp [h1]
theorem build_soundA {P : Program} {w : World} {X : Nat → Prop} {μ : Mu} {env : Env} {t e : TypeId} {len : Nat} {i ie : TypeInfo} {z : Value} (ht : P.underlying t = some (.array len e)) (hi : P.info? t = some i) (hz : i.zero = some z) (hie : P.info? e = some ie)
  {zs ss : List S} (hzc : Cells w X μ z.cells zs) {l : List (Nat × Value)} {q : List (Nat × Nat × O)}
  (hp : Parts w X μ env (fun (k : Nat) => some (k * ie.size, ie.size)) l q) (h : fillA env zs q = some ss) :
  ∃ v, (Instr.build t l.toArray).run P w = .ok v w ∧ Rep w X μ v (S.mkAgg ss) := by
 obtain ⟨cs', h1, h2⟩ := fill_sound hp hzc h
 refine ⟨.agg cs', ?_, h2.mkAgg⟩
 simp only [Instr.build, zeroValue, typeInfo, sizeOf, Sem.run_bind, run_program, Result.andThen_ok, hi, hz, hie, Sem.run_pure, run_underlying ht]
 simp [h1]
theorem V.eqs_append : ∀ (k1 k2 : List CK) (a b : List V) (r : Bool), V.eqs (k1 ++ k2) a b = some r →
  ∃ r1 r2, V.eqs k1 (a.take k1.length) (b.take k1.length) = some r1 ∧ V.eqs k2 (a.drop k1.length) (b.drop k1.length) = some r2 ∧ r = (r1 && r2)
 | [], k2, a, b, r, h => ⟨true, r, by simp [V.eqs], by simpa using h, by simp⟩
 | k :: k1, k2, a, b, r, h => by
  simp only [List.cons_append] at h
  cases a with
  | nil => simp [V.eqs] at h
  | cons x a =>
   cases b with
   | nil => simp [V.eqs] at h
   | cons y b =>
    simp only [V.eqs] at h
    split at h
    ·rename_i u v hu hv
     obtain ⟨r1, r2, h1, h2, h3⟩ := V.eqs_append k1 k2 a b v hv
     simp only [Option.some.injEq] at h
     refine ⟨u && r1, r2, by simp [V.eqs, hu, h1], by simpa using h2, by rw [← h, h3, Bool.and_assoc]⟩
    ·cases h
theorem V.eqs_len : ∀ (ks : List CK) (a b : List V) (r : Bool), V.eqs ks a b = some r → a.length = ks.length ∧ b.length = ks.length
 | [], [], [], _, _ => ⟨rfl, rfl⟩
 | [], [], _ :: _, _, h => by simp [V.eqs] at h
 | [], _ :: _, _, _, h => by simp [V.eqs] at h
 | k :: ks, [], _, _, h => by simp [V.eqs] at h
 | k :: ks, _ :: _, [], _, h => by simp [V.eqs] at h
 | k :: ks, x :: a, y :: b, r, h => by
  simp only [V.eqs] at h
  split at h
  ·rename_i u v hu hv
   have := V.eqs_len ks a b v hv
   simp [this]
  ·cases h
def kindsFs (P : Program) (k : TypeId → Option (List CK)) : List Field → Nat → Option (List CK)
 | [], _ => some []
 | f :: r, o => if f.name = "_" ∨ f.offset ≠ o then none else match k f.type with
  | some ks => if sizeT P f.type = some ks.length ∧ ks ≠ [] then (match kindsFs P k r (o + ks.length) with
   | some q => some (ks ++ q)
   | none => none) else none
  | none => none
def kindsN (ks : List CK) : Nat → List CK
 | 0 => []
 | n + 1 => ks ++ kindsN ks n
/-- the kinds of the cells of a type whose values are held against each other cell by cell -/
def kindsOf (P : Program) : Nat → TypeId → Option (List CK)
 | 0, _ => none
 | d + 1, t => match P.underlying t with
  | some .bool => some [.b]
  | some (.int _) => some [.i]
  | some .string => some [.s]
  | some (.struct fs) => if P.stoodInHeld t = true then none else kindsFs P (kindsOf P d) fs.toList 0
  | some (.array n e) => match kindsOf P d e with
   | some ks => if sizeT P e = some ks.length ∧ ks ≠ [] then some (kindsN ks n) else none
   | none => none
  | _ => none
structure VC (w : World) (X : Nat → Prop) (agg : Bool) (v : Value) (a : List V) : Prop where
 len : v.cells.size = a.length
 rep : ∀ j, j < a.length → PRep w X (v.cells.getD j undef) (a.getD j default)
 ok : ∀ x ∈ a, x.isCell = true
 one : agg = false → v.cells = #[v]
 isA : agg = true → ∃ cs, v = .agg cs
theorem eq_cell {P : Program} {w : World} {X : Nat → Prop} {d : Nat} {t : TypeId} {k : CK} {x y : Value} {a b : V} {r : Bool} (hx : PRep w X x a) (hy : PRep w X y b)
  (ht : (k = .b ∧ P.underlying t = some .bool) ∨ (k = .i ∧ ∃ i, P.underlying t = some (.int i)) ∨ (k = .s ∧ P.underlying t = some .string)) (h : V.eqb k a b = some r) : (Op.equalIn (d + 1) t x y).run P w = .ok r w := by
 rcases ht with ⟨rfl, ht⟩ | ⟨rfl, i, ht⟩ | ⟨rfl, ht⟩
 ·cases a <;> cases b <;> simp [V.eqb] at h
  cases hx; cases hy; subst h
  exact run_equalIn_bool' w d t _ _ ht
 ·cases a <;> cases b <;> simp [V.eqb] at h
  cases hx; cases hy
  obtain ⟨rfl, rfl⟩ := h
  exact run_equalIn_int w d t _ i _ _ ht
 ·cases a <;> cases b <;> simp [V.eqb] at h
  cases hx; cases hy; subst h
  rw [run_equalIn_string w d t _ _ ht, ByteArray.toList_eq, ByteArray.toList_eq]
theorem part_vc {P : Program} {w : World} {X : Nat → Prop} {t : TypeId} {n off : Nat} {agg : Bool} (ha : aggT P t = some agg) (hn : sizeT P t = some n) (h1 : agg = false → n = 1) {cs : Array Value} {a : List V} (hl : cs.size = a.length)
  (hr : ∀ j, j < a.length → PRep w X (cs.getD j undef) (a.getD j default)) (hok : ∀ x ∈ a, x.isCell = true) (hle : off + n ≤ a.length) : ∃ v, (part t cs off).run P w = .ok v w ∧ VC w X agg v ((a.drop off).take n) := by
 cases agg with
 | true =>
  refine ⟨.agg (cs.extract off (off + n)), by simp [part, run_isAgg ha, run_sizeT hn], by simp [Value.cells]; omega, (fun j hj => ?_), (fun x hx => hok x (List.mem_of_mem_drop (List.mem_of_mem_take hx))), (fun h => by cases h), (fun _ => ⟨_, rfl⟩)⟩
  have hj' : j < n := by simp at hj; omega
  have := hr (off + j) (by omega)
  simp only [Value.cells, Array.getD_eq_getD_getElem?, List.getD_eq_getElem?_getD] at this ⊢
  rw [List.getElem?_take_of_lt hj', List.getElem?_drop, Array.getElem?_extract, if_pos (by omega)]
  exact this
 | false =>
  obtain rfl := h1 rfl
  obtain ⟨v, hv⟩ : ∃ v, cs[off]? = some v := ⟨_, Array.getElem?_eq_getElem (by omega)⟩
  have h2 := hr off (by omega)
  rw [Array.getD_eq_getD_getElem?, hv] at h2
  obtain ⟨x, hx⟩ : ∃ x, a[off]? = some x := ⟨_, List.getElem?_eq_getElem (by omega)⟩
  rw [List.getD_eq_getElem?_getD, hx] at h2
  have hone : v.cells = #[v] := by
   simp only [Option.getD_some] at h2
   exact (h2.one (hok x (List.mem_of_getElem? hx))).1
  refine ⟨v, by simp [part, run_isAgg ha, hv], ?_, ?_, (fun x hx => hok x (List.mem_of_mem_drop (List.mem_of_mem_take hx))), (fun _ => hone), (fun h => by cases h)⟩
  ·simp [hone]; omega
  ·intro j hj
   obtain rfl : j = 0 := by simp at hj; omega
   rw [hone]
   simp only [List.getD_eq_getElem?_getD]
   rw [List.getElem?_take_of_lt (by omega), List.getElem?_drop, Nat.add_zero, hx]
   exact h2
theorem kindsOf_agg {P : Program} {d : Nat} {t : TypeId} {ks : List CK} (h : kindsOf P d t = some ks) : ∃ agg, aggT P t = some agg ∧ (agg = false → ks.length = 1) := by
 cases d with
 | zero => simp [kindsOf] at h
 | succ d =>
  simp only [kindsOf] at h
  split at h
  ·rename_i ht; cases h; exact ⟨false, by simp [aggT, ht], fun _ => rfl⟩
  ·rename_i ht; cases h; exact ⟨false, by simp [aggT, ht], fun _ => rfl⟩
  ·rename_i ht; cases h; exact ⟨false, by simp [aggT, ht], fun _ => rfl⟩
  ·rename_i ht; exact ⟨true, by simp [aggT, ht], fun h => by cases h⟩
  ·rename_i ht; exact ⟨true, by simp [aggT, ht], fun h => by cases h⟩
  ·cases h
theorem eqv_sound {P : Program} {w : World} {X : Nat → Prop} : ∀ (d : Nat) (d' : Nat) (t : TypeId) (ks : List CK), kindsOf P d t = some ks → ∀ (agg : Bool) (xv yv : Value) (a b : List V) (r : Bool), aggT P t = some agg → VC w X agg xv a → VC w X agg yv b →
  V.eqs ks a b = some r → (Op.equalIn (d + d') t xv yv).run P w = .ok r w
 | 0, _, _, _, h, _, _, _, _, _, _ => by simp [kindsOf] at h
 | d + 1, d', t, ks, h, agg, xv, yv, a, b, r => by
  intro hagg hx hy he
  have hd : d + 1 + d' = (d + d') + 1 := by omega
  rw [hd]
  have cell : ∀ k, ks = [k] → aggT P t = some false → ((k = .b ∧ P.underlying t = some .bool) ∨ (k = .i ∧ ∃ i, P.underlying t = some (.int i)) ∨ (k = .s ∧ P.underlying t = some .string)) → (Op.equalIn (d + d' + 1) t xv yv).run P w = .ok r w := by
   intro k hk hf ht
   subst hk
   rw [hf] at hagg
   cases hagg
   obtain ⟨hl1, hl2⟩ := V.eqs_len _ _ _ _ he
   have e1 := hx.one rfl
   have e2 := hy.one rfl
   obtain ⟨x0, rfl⟩ := List.length_eq_one_iff.1 hl1
   obtain ⟨y0, rfl⟩ := List.length_eq_one_iff.1 hl2
   have r1 := hx.rep 0 (by simp)
   have r2 := hy.rep 0 (by simp)
   rw [e1] at r1
   rw [e2] at r2
   simp only [V.eqs] at he
   split at he
   ·rename_i u v hu hv
    simp only [Option.some.injEq] at hv he
    subst hv
    simp at he
    subst he
    exact eq_cell r1 r2 ht hu
   ·cases he
  simp only [kindsOf] at h
  split at h
  ·rename_i ht; cases h; exact cell .b rfl (by simp [aggT, ht]) (.inl ⟨rfl, ht⟩)
  ·rename_i i ht; cases h; exact cell .i rfl (by simp [aggT, ht]) (.inr (.inl ⟨rfl, i, ht⟩))
  ·rename_i ht; cases h; exact cell .s rfl (by simp [aggT, ht]) (.inr (.inr ⟨rfl, ht⟩))
  ·rename_i fs ht
   split at h
   ·cases h
   ·rename_i hst
    have hag : aggT P t = some true := by simp [aggT, ht]
    rw [hag] at hagg
    cases hagg
    obtain ⟨xs, rfl⟩ := hx.isA rfl
    obtain ⟨ys, rfl⟩ := hy.isA rfl
    have hfo : P.fieldsOf t = fs := by simp [Program.fieldsOf, ht]
    rw [run_equalIn_struct w (d + d') t xs ys (by rw [hfo]; exact ht) (by simpa using hst), hfo]
    have go : ∀ (fl : List Field) (o : Nat) (q : List CK), kindsFs P (kindsOf P d) fl o = some q → ∀ (r : Bool), V.eqs q (a.drop o) (b.drop o) = some r → (Op.eqFields (d + d') xs ys fl).run P w = .ok r w := by
     intro fl
     induction fl with
     | nil =>
      intro o q hq r hr
      simp [kindsFs] at hq
      subst hq
      have : r = true := by
       generalize a.drop o = a1 at hr
       generalize b.drop o = b1 at hr
       cases a1 <;> cases b1 <;> simp [V.eqs] at hr
       exact hr
      subst this
      simp [Op.eqFields]
     | cons f rest ih =>
      intro o q hq r hr
      simp only [kindsFs] at hq
      split at hq
      ·cases hq
      ·rename_i hcnd
       have hnm : f.name ≠ "_" := fun h => hcnd (.inl h)
       have hoff : f.offset = o := Decidable.byContradiction fun h => hcnd (.inr h)
       split at hq
       ·rename_i kf hkf
        split at hq
        ·rename_i hsz
         split at hq
         ·rename_i q' hq'
          cases hq
          obtain ⟨r1, r2, h1, h2, h3⟩ := V.eqs_append _ _ _ _ _ hr
          obtain ⟨fagg, hfa, hf1⟩ := kindsOf_agg hkf
          obtain ⟨l1, l2⟩ := V.eqs_len _ _ _ _ hr
          simp only [List.length_append, List.length_drop] at l1 l2
          have h0 : 0 < kf.length := List.length_pos_iff.2 hsz.2
          have hle1 : o + kf.length ≤ a.length := by omega
          have hle2 : o + kf.length ≤ b.length := by omega
          obtain ⟨u, hu, vu⟩ := part_vc (P := P) hfa hsz.1 hf1 hx.len hx.rep hx.ok hle1
          obtain ⟨v, hv, vv⟩ := part_vc (P := P) hfa hsz.1 hf1 hy.len hy.rep hy.ok hle2
          have heq := eqv_sound d d' f.type kf hkf _ _ _ _ _ _ hfa vu vv h1
          rw [List.drop_drop, List.drop_drop] at h2
          have hrest := ih (o + kf.length) q' hq' _ h2
          simp only [Value.cells] at hu hv
          simp only [Op.eqFields]
          rw [if_pos hnm, hoff]
          simp only [Sem.run_bind, hu, hv, heq, Result.andThen_ok, Sem.run_ite]
          cases r1
          ·simp [h3]
          ·simp [h3, hrest]
         ·cases hq
        ·cases hq
       ·cases hq
    exact go fs.toList 0 ks h _ (by simpa using he)
  ·rename_i n e ht
   split at h
   ·rename_i ke hke
    split at h
    ·rename_i hsz
     cases h
     have hag : aggT P t = some true := by simp [aggT, ht]
     rw [hag] at hagg
     cases hagg
     obtain ⟨xs, rfl⟩ := hx.isA rfl
     obtain ⟨ys, rfl⟩ := hy.isA rfl
     obtain ⟨ie, hie⟩ : ∃ i, P.info? e = some i := by
      cases hi : P.info? e with
      | none => simp [sizeT, hi] at hsz
      | some i => exact ⟨i, rfl⟩
     have hce : P.cellsOf e = ke.length := by
      have := hsz.1
      simp [sizeT, hie] at this
      simp [Program.cellsOf, hie, this]
     rw [run_equalIn_array w (d + d') xs ys ht hie, hce, List.range_eq_range']
     have go : ∀ (m k : Nat) (r : Bool), V.eqs (kindsN ke m) (a.drop (k * ke.length)) (b.drop (k * ke.length)) = some r → (Op.eqItems (d + d') e ke.length xs ys (List.range' k m)).run P w = .ok r w := by
      intro m
      induction m with
      | zero =>
       intro k r hr
       simp only [kindsN] at hr
       have : r = true := by
        generalize a.drop (k * ke.length) = a1 at hr
        generalize b.drop (k * ke.length) = b1 at hr
        cases a1 <;> cases b1 <;> simp [V.eqs] at hr
        exact hr
       subst this
       simp [Op.eqItems]
      | succ m ih =>
       intro k r hr
       simp only [kindsN] at hr
       obtain ⟨r1, r2, h1, h2, h3⟩ := V.eqs_append _ _ _ _ _ hr
       obtain ⟨fagg, hfa, hf1⟩ := kindsOf_agg hke
       obtain ⟨l1, l2⟩ := V.eqs_len _ _ _ _ hr
       simp only [List.length_append, List.length_drop] at l1 l2
       have h0 : 0 < ke.length := List.length_pos_iff.2 hsz.2
       have hle1 : k * ke.length + ke.length ≤ a.length := by omega
       have hle2 : k * ke.length + ke.length ≤ b.length := by omega
       obtain ⟨u, hu, vu⟩ := part_vc (P := P) hfa hsz.1 hf1 hx.len hx.rep hx.ok hle1
       obtain ⟨v, hv, vv⟩ := part_vc (P := P) hfa hsz.1 hf1 hy.len hy.rep hy.ok hle2
       have heq := eqv_sound d d' e ke hke _ _ _ _ _ _ hfa vu vv h1
       rw [List.drop_drop, List.drop_drop, ← Nat.succ_mul] at h2
       have hrest := ih (k + 1) _ h2
       simp only [Value.cells] at hu hv
       rw [List.range'_succ]
       simp only [Op.eqItems, Sem.run_bind, hu, hv, heq, Result.andThen_ok]
       cases r1
       ·simp [h3]
       ·simp [h3, hrest]
     exact go n 0 _ (by simpa using he)
    ·cases h
   ·cases h
  ·cases h
end Go.Vm
