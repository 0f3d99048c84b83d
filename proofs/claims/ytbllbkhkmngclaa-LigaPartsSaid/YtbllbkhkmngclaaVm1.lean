/-
  The abstract machine, part 1: data ('V'), what slots hold ('S'), own rows, and how memory represents them.
  No program in sight.
-/
import Derived.Orders
import Derived.Below
import Derived.Laws.AppendOwn
import Derived.Laws.MakeOwn
import Derived.WalkKit
import Derived.OpenShut
namespace Go.Vm
open Go Go.RowKit

/-- Deep data that nobody changes. Structs and arrays are flat rows of one-cell data. -/
inductive V where
  | int (k : IntKind) (n : Int)
  | bool (b : Bool)
  | str (s : List UInt8)
  | agg (cs : List V)
  | sl (es : List V)
  | nilp
  | func (fn : Fn) (first captured : List V)
  | nilf
  | iface (t : TypeId) (v : V)
  | nili
  deriving Inhabited

def V.cells : V → List V
  | .agg cs => cs
  | v => [v]
def V.isCell : V → Bool
  | .agg _ => false
  | _ => true

/-- 'v' reads as the data 'V', and reads so as long as no block of 'X' is looked at. -/
inductive PRep (w : World) (X : Nat → Prop) : Value → V → Prop where
  | int (k : IntKind) (n : Int) (h : (Lit.int k n).wf = true) : PRep w X (.int k n) (.int k n)
  | bool (b : Bool) : PRep w X (.bool b) (.bool b)
  | str (s : ByteArray) (h : s.size ≤ maxLen) : PRep w X (.string s) (.str s.data.toList)
  | agg (cs : Array Value) (vs : List V) (hl : cs.size = vs.length) (hc : ∀ v ∈ vs, v.isCell = true)
      (h : ∀ i, i < vs.length → PRep w X (cs.getD i undef) (vs.getD i default)) : PRep w X (.agg cs) (.agg vs)
  | nils (a : Option Addr) : PRep w X (.slice a 0 0) (.sl [])
  | sl (blk off len cap size : Nat) (es : List V) (f : Nat → Value) (hz : 0 < size) (hl : es.length = len) (hc : len ≤ cap) (hm : cap ≤ maxLen) (hx : es ≠ [] → ¬ X blk)
      (hs : ∀ e ∈ es, e.cells.length = size) (hcell : ∀ e ∈ es, ∀ v ∈ e.cells, v.isCell = true)
      (hw : ∀ i j, i < es.length → j < size → w.cell? ⟨blk, off + i * size + j, none⟩ = some (f (i * size + j)))
      (hr : ∀ i j, i < es.length → j < size → PRep w X (f (i * size + j)) ((es.getD i default).cells.getD j default)) :
      PRep w X (.slice (some ⟨blk, off, none⟩) len cap) (.sl es)
  | nilp : PRep w X (.pointer none) .nilp
  | func (fn : Fn) (f c : Array Value) (fs cs : List V) (h1 : f.size = fs.length) (h2 : c.size = cs.length)
      (h3 : ∀ i, i < fs.length → PRep w X (f.getD i undef) (fs.getD i default)) (h4 : ∀ i, i < cs.length → PRep w X (c.getD i undef) (cs.getD i default)) : PRep w X (.func fn f c) (.func fn fs cs)
  | nilf : PRep w X .nilFunc .nilf
  | iface (t : TypeId) (v : Value) (d : V) (h : PRep w X v d) : PRep w X (.iface t v) (.iface t d)
  | nili : PRep w X .nilIface .nili

/-- What is kept of a world: all blocks that were there and are not in 'X' are as they were. -/
def Keeps (X : Nat → Prop) (w w' : World) : Prop := ∀ k, k < w.heap.size → ¬ X k → w'.heap[k]? = w.heap[k]?

theorem Keeps.cell {X : Nat → Prop} {w w' : World} (h : Keeps X w w') {b o : Nat} {v : Value} (hx : ¬ X b) (hc : w.cell? ⟨b, o, none⟩ = some v) : w'.cell? ⟨b, o, none⟩ = some v := by
  have hlt : b < w.heap.size := World.block_lt_of_cell? w ⟨b, o, none⟩ hc
  rw [World.cell?_of_block (w := w) (a := ⟨b, o, none⟩) (h b hlt hx)]
  exact hc

theorem PRep.keeps {w w' : World} {X X' : Nat → Prop} (hk : Keeps X w w') (hX : ∀ k, X' k → X k ∨ w.heap.size ≤ k) {v : Value} {d : V} (h : PRep w X v d) : PRep w' X' v d := by
  induction h with
  | int k n h => exact .int k n h
  | bool b => exact .bool b
  | str s h => exact .str s h
  | agg cs vs hl hc _ ih => exact .agg cs vs hl hc ih
  | nils a => exact .nils a
  | sl blk off len cap size es f hz hl hc hm hx hs hcell hw hr ih =>
    refine .sl blk off len cap size es f hz hl hc hm ?_ hs hcell ?_ ih
    · intro hne hx'
      rcases hX _ hx' with h1 | h1
      · exact hx hne h1
      · have h0 : 0 < es.length := List.length_pos_iff.2 hne
        have := World.block_lt_of_cell? w _ (hw 0 0 h0 hz)
        simp at this
        omega
    · intro i j hi hj
      exact hk.cell (hx (by intro e; subst e; simp at hi)) (hw i j hi hj)
  | nilp => exact .nilp
  | func fn f c fs cs h1 h2 _ _ ih1 ih2 => exact .func fn f c fs cs h1 h2 ih1 ih2
  | nilf => exact .nilf
  | iface t v d _ ih => exact .iface t v d ih
  | nili => exact .nili

theorem PRep.less {w : World} {X X' : Nat → Prop} (hX : ∀ k, X' k → X k) {v : Value} {d : V} (h : PRep w X v d) : PRep w X' v d :=
  h.keeps (fun _ _ _ => rfl) (fun k hk => .inl (hX k hk))

/-- What a slot, or a cell of an own row, holds. -/
inductive S where
  | pure (v : V)
  | empty
  | rsl (b off len : Nat)
  | ptr (b i off : Nat)
  | pptr (v : V) (off : Nat)
  | agg (cs : List S)
  | func (fn : Fn) (first captured : List S)
  | iface (t : TypeId) (s : S)
  | tup (ss : List S)
  | dead
  deriving Inhabited

def S.cells : S → List S
  | .pure v => v.cells.map .pure
  | .agg cs => cs
  | s => [s]
def S.isCell : S → Bool
  | .pure v => v.isCell
  | .agg _ | .tup _ | .dead => false
  | _ => true

/-- Where an own row lies: its block, the first cell, the cells of one element, how many cells the block has. A row without a place ('virt') is that of a slice that is nil, or has no room. -/
structure Loc where
  blk : Nat
  base : Nat
  size : Nat
  room : Nat
  virt : Bool
  deriving Inhabited
/-- where the own rows lie -/
structure Mu where
  at_ : Nat → Option Loc
  /-- blocks of others: they are not written, but no pure data of ours lies there -/
  xo : Nat → Prop
instance : CoeFun Mu (fun _ => Nat → Option Loc) := ⟨Mu.at_⟩

inductive Rep (w : World) (X : Nat → Prop) (μ : Mu) : Value → S → Prop where
  | pure (v : Value) (d : V) (h : PRep w X v d) : Rep w X μ v (.pure d)
  | empty (a : Option Addr) (ha : ∀ x, a = some x → True) : Rep w X μ (.slice a 0 0) .empty
  | rsl (b off len cap : Nat) (l : Loc) (hl : μ b = some l) (hv : l.virt = false) (hc : len ≤ cap) (hm : cap ≤ maxLen) (hr : l.base + (off + cap) * l.size ≤ l.room) :
      Rep w X μ (.slice (some ⟨l.blk, l.base + off * l.size, none⟩) len cap) (.rsl b off len)
  | rslz (a : Option Addr) (ha : ∀ x, a = some x → True) (b off : Nat) (l : Loc) (hl : μ b = some l) : Rep w X μ (.slice a 0 0) (.rsl b off 0)
  | ptr (b i off : Nat) (l : Loc) (hl : μ b = some l) (hv : l.virt = false) : Rep w X μ (.pointer (some ⟨l.blk, l.base + i * l.size + off, none⟩)) (.ptr b i off)
  | pptr (blk o : Nat) (d : V) (off : Nat) (f : Nat → Value) (hz : 0 < d.cells.length) (hx : ¬ X blk) (hcell : ∀ v ∈ d.cells, v.isCell = true)
      (hw : ∀ j, j < d.cells.length → w.cell? ⟨blk, o + j, none⟩ = some (f j)) (hr : ∀ j, j < d.cells.length → PRep w X (f j) (d.cells.getD j default)) :
      Rep w X μ (.pointer (some ⟨blk, o + off, none⟩)) (.pptr d off)
  | agg (cs : Array Value) (ss : List S) (hl : cs.size = ss.length) (hc : ∀ s ∈ ss, s.isCell = true)
      (h : ∀ i, i < ss.length → Rep w X μ (cs.getD i undef) (ss.getD i .dead)) : Rep w X μ (.agg cs) (.agg ss)
  | func (fn : Fn) (f c : Array Value) (fs cs : List S) (h1 : f.size = fs.length) (h2 : c.size = cs.length)
      (h3 : ∀ i, i < fs.length → Rep w X μ (f.getD i undef) (fs.getD i .dead)) (h4 : ∀ i, i < cs.length → Rep w X μ (c.getD i undef) (cs.getD i .dead)) : Rep w X μ (.func fn f c) (.func fn fs cs)
  | iface (t : TypeId) (v : Value) (s : S) (h : Rep w X μ v s) : Rep w X μ (.iface t v) (.iface t s)
  | tup (vs : Array Value) (ss : List S) (hl : vs.size = ss.length) (h : ∀ i, i < ss.length → Rep w X μ (vs.getD i undef) (ss.getD i .dead)) : Rep w X μ (.tuple vs) (.tup ss)
  | dead (v : Value) : Rep w X μ v .dead

theorem Rep.keeps {w w' : World} {X X' : Nat → Prop} {μ μ' : Mu} (hk : Keeps X w w') (hX : ∀ k, X' k → X k ∨ w.heap.size ≤ k) (hμ : ∀ (b : Nat) (l : Loc), μ b = some l → μ' b = some l) {v : Value} {s : S}
    (h : Rep w X μ v s) : Rep w' X' μ' v s := by
  induction h with
  | pure v d h => exact .pure v d (h.keeps hk hX)
  | empty a ha => exact .empty a ha
  | rsl b off len cap l hl hv hc hm hr => exact .rsl b off len cap l (hμ _ _ hl) hv hc hm hr
  | rslz a ha b off l hl => exact .rslz a ha b off l (hμ _ _ hl)
  | ptr b i off l hl hv => exact .ptr b i off l (hμ _ _ hl) hv
  | pptr blk o d off f hz hx hcell hw hr =>
    refine .pptr blk o d off f hz ?_ hcell (fun j hj => hk.cell hx (hw j hj)) (fun j hj => (hr j hj).keeps hk hX)
    intro hx'
    rcases hX _ hx' with h1 | h1
    · exact hx h1
    · have := World.block_lt_of_cell? w _ (hw 0 hz)
      simp at this
      omega
  | agg cs ss hl hc _ ih => exact .agg cs ss hl hc ih
  | func fn f c fs cs h1 h2 _ _ ih1 ih2 => exact .func fn f c fs cs h1 h2 ih1 ih2
  | iface t v s _ ih => exact .iface t v s ih
  | tup vs ss hl _ ih => exact .tup vs ss hl ih
  | dead v => exact .dead v

inductive RowSt where
  | live | frozen | dead
  deriving DecidableEq, Inhabited
structure Row where
  es : List S
  size : Nat
  st : RowSt
  deriving Inhabited
abbrev Heap := List Row

/-- The blocks that are written: those of the rows that live. -/
def owned (μ : Mu) (H : Heap) : Nat → Prop := fun k => ∃ (b : Nat) (r : Row) (l : Loc), H[b]? = some r ∧ r.st = .live ∧ μ b = some l ∧ l.virt = false ∧ l.blk = k

/-- where no pure data lies -/
def excl (μ : Mu) (H : Heap) : Nat → Prop := fun k => owned μ H k ∨ μ.xo k

structure RowRep (w : World) (X : Nat → Prop) (μ : Mu) (l : Loc) (r : Row) : Prop where
  size : r.size = l.size
  pos : 0 < l.size
  virt : l.virt = true → r.es = []
  lens : ∀ e ∈ r.es, e.cells.length = l.size
  cellOk : ∀ e ∈ r.es, ∀ s ∈ e.cells, s.isCell = true
  fits : l.virt = false → l.base + r.es.length * l.size ≤ l.room
  cells : l.virt = false → ∀ i j, i < r.es.length → j < l.size → ∃ v, w.cell? ⟨l.blk, l.base + i * l.size + j, none⟩ = some v ∧ Rep w X μ v ((r.es.getD i .dead).cells.getD j .dead)
  live : l.virt = false → r.st = .live → ∃ c t, w.heap[l.blk]? = some (.cells c t (0, 0)) ∧ c.size = l.room
  frozen : l.virt = false → r.st = .frozen → r.es ≠ [] → ¬ X l.blk

structure HRep (w : World) (μ : Mu) (H : Heap) : Prop where
  dom : ∀ (b : Nat) (l : Loc), μ b = some l → b < H.length
  xo : ∀ k, μ.xo k → k < w.heap.size ∧ ¬ owned μ H k
  row : ∀ (b : Nat) (r : Row) (l : Loc), H[b]? = some r → r.st ≠ .dead → μ b = some l → RowRep w (excl μ H) μ l r
  inj : ∀ (b b' : Nat) (r r' : Row) (l l' : Loc), H[b]? = some r → H[b']? = some r' → r.st = .live → r'.st = .live → μ b = some l → μ b' = some l' → l.virt = false → l'.virt = false → l.blk = l'.blk → b = b'

abbrev Env := List (Nat × S)
def Env.get : Env → Nat → S
  | [], _ => .dead
  | (k, s) :: e, d => if k = d then s else Env.get e d

theorem Env.get_cons (k d : Nat) (s : S) (e : Env) : Env.get ((k, s) :: e) d = if k = d then s else Env.get e d := rfl

/-- What has become of the world since the call began: of the old blocks just those of 'X0' may have been written. -/
structure Fr (X0 : Nat → Prop) (w0 w : World) : Prop where
  os : w.os = w0.os
  tape : w.tape = w0.tape
  output : w.output = w0.output
  size : w0.heap.size ≤ w.heap.size
  keep : Keeps X0 w0 w

theorem Fr.refl (X0 : Nat → Prop) (w : World) : Fr X0 w w := ⟨rfl, rfl, rfl, Nat.le_refl _, fun _ _ _ => rfl⟩

/-- The relation of the abstract state to the machine's. -/
structure Rel (w0 : World) (X0 : Nat → Prop) (μ0 : Mu) (n : Nat) (env : Env) (H : Heap) (a : Act) (w : World) (μ : Mu) : Prop where
  tmps : a.tmps.size = n
  defers : a.defers = []
  env : ∀ d, Rep w (excl μ H) μ (a.tmps.getD d undef) (env.get d)
  heap : HRep w μ H
  fr : Fr X0 w0 w
  own : ∀ k, owned μ H k → X0 k ∨ w0.heap.size ≤ k
  pre : ∀ (b : Nat) (l : Loc), μ0 b = some l → μ b = some l
  xo : μ.xo = μ0.xo

def St (w0 : World) (X0 : Nat → Prop) (μ0 : Mu) (n : Nat) (env : Env) (H : Heap) (a : Act) (w : World) : Prop := ∃ μ, Rel w0 X0 μ0 n env H a w μ

end Go.Vm
