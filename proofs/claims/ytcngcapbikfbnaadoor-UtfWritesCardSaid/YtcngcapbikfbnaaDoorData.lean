/-
  The shapes of the program's data (spans, glyphs, values, lookups, fonts) as Lean's structures, and that data of a type has its shape. No condition.
-/
import Derived.Test.YtcngcapbikfbnaaDoorBase
namespace Go.Proofs.YtcngcapbikfbnaaDoor.W
open Go Go.Vm Go.Proofs
set_option maxRecDepth 100000
/-- an int of 64 bits -/
def OkN (n : Int) : Prop := -9223372036854775808 ≤ n ∧ n ≤ 9223372036854775807
def OkCs : List CT → List V → Prop
 | [], [] => True
 | t :: ts, v :: vs => OkC t v ∧ OkCs ts vs
 | _, _ => False
theorem cell_of {t : CT} {v : V} (h : OkE false [t] v) : OkC t v := by
 obtain ⟨h1, h2, h3⟩ := h
 have := h3 0 (by simp)
 cases v <;> simp_all [V.isCell, V.cells]
theorem elems_of {g : Bool} {ts : List CT} {v : V} (h : OkC (.sl g ts) v) : ∃ es, v = .sl es ∧ es.length ≤ maxLen ∧ ∀ e ∈ es, OkE g ts e := by
 cases h with
 | sl _ _ es h hg hl hc => exact ⟨es, rfl, h, fun e he => ⟨hg e he, hl e he, hc e he⟩⟩
theorem list_of {α : Type} {f : α → V} {p : α → Prop} : ∀ {es : List V}, (∀ e ∈ es, ∃ a, e = f a ∧ p a) → ∃ l : List α, es = l.map f ∧ ∀ a ∈ l, p a
 | [], _ => ⟨[], rfl, fun _ h => by cases h⟩
 | e :: es, h => by
  obtain ⟨a, rfl, ha⟩ := h e (by simp)
  obtain ⟨l, rfl, hl⟩ := list_of (es := es) (f := f) (p := p) fun x hx => h x (by simp [hx])
  refine ⟨a :: l, rfl, fun b hb => ?_⟩
  rcases List.mem_cons.1 hb with rfl | hb
  ·exact ha
  ·exact hl b hb
/-- a list of structs, or of anything else that has a shape -/
theorem lists_of {α : Type} {f : α → V} {p : α → Prop} {g : Bool} {ts : List CT} {v : V} (he : ∀ e, OkE g ts e → ∃ a, e = f a ∧ p a) (h : OkC (.sl g ts) v) : ∃ l : List α, v = .sl (l.map f) ∧ l.length ≤ maxLen ∧ ∀ a ∈ l, p a := by
 obtain ⟨es, rfl, h1, h2⟩ := elems_of h
 obtain ⟨l, rfl, h3⟩ := list_of fun e hm => he e (h2 e hm)
 exact ⟨l, rfl, by simpa using h1, h3⟩
/-- a list of numbers -/
abbrev LI (l : List Int) : V := .sl (l.map I)
/-- lists of numbers -/
abbrev LL (l : List (List Int)) : V := .sl (l.map LI)
/-- a span -/
structure Sp where
 f : Int
 t : Int
 v : Int
 deriving DecidableEq
abbrev sp (s : Sp) : V := .agg [I s.f, I s.t, I s.v]
def OkSp (s : Sp) : Prop := OkN s.f ∧ OkN s.t ∧ OkN s.v
/-- a pair of a lookup: two numbers, and what moves each -/
structure Pr where
 a : Int
 b : Int
 x : Sp
 y : Sp
abbrev pr (p : Pr) : V := .agg [I p.a, I p.b, I p.x.f, I p.x.t, I p.x.v, I p.y.f, I p.y.t, I p.y.v]
def OkPr (p : Pr) : Prop := OkSp p.x ∧ OkSp p.y
/-- a ligature -/
structure Lg where
 parts : List Int
 gid : Int
 deriving DecidableEq
abbrev lg (s : Lg) : V := .agg [LI s.parts, I s.gid]
abbrev lgr (l : List Lg) : V := .sl (l.map lg)
/-- a lookup that is done at a place -/
structure Ns where
 at_ : Int
 lookup : Int
abbrev ns (s : Ns) : V := .agg [I s.at_, I s.lookup]
/-- where a glyph hangs on others -/
structure Cu where
 glyph : Int
 he : Bool
 hx : Bool
 ex : Int
 ey : Int
 xx : Int
 xy : Int
abbrev cu (s : Cu) : V := .agg [I s.glyph, .bool s.he, .bool s.hx, I s.ex, I s.ey, I s.xx, I s.xy]
/-- a mark, its class, and its anchor -/
structure Mk where
 glyph : Int
 cls : Int
 x : Int
 y : Int
abbrev mk (s : Mk) : V := .agg [I s.glyph, I s.cls, I s.x, I s.y]
/-- an anchor, if there is one -/
structure Spt where
 has : Bool
 x : Int
 y : Int
abbrev spt (s : Spt) : V := .agg [.bool s.has, I s.x, I s.y]
abbrev spr (l : List Spt) : V := .sl (l.map spt)
/-- a glyph that marks hang on -/
structure Ho where
 glyph : Int
 spots : List (List Spt)
abbrev ho (s : Ho) : V := .agg [I s.glyph, .sl (s.spots.map spr)]
/-- a subtable of a lookup -/
structure Sub where
 cover : List Int
 to : List (List Int)
 ligs : List (List Lg)
 back : List (List Int)
 inn : List (List Int)
 ahead : List (List Int)
 nests : List Ns
 values : List Sp
 pairs : List Pr
 curs : List Cu
 marks : List Mk
 hosts : List Ho
abbrev sub (s : Sub) : V := .agg [LI s.cover, LL s.to, .sl (s.ligs.map lgr), LL s.back, LL s.inn, LL s.ahead, .sl (s.nests.map ns), .sl (s.values.map sp), .sl (s.pairs.map pr), .sl (s.curs.map cu), .sl (s.marks.map mk), .sl (s.hosts.map ho)]
abbrev N64 : CT := .int .i64
def subC : List CT := [.sl false [N64], .sl false [.sl false [N64]], .sl false [.sl true [.sl false [N64], N64]], .sl false [.sl false [N64]], .sl false [.sl false [N64]], .sl false [.sl false [N64]], .sl true [N64, N64], .sl true [N64, N64, N64],
 .sl true (List.replicate 8 N64), .sl true [N64, .bool, .bool, N64, N64, N64, N64], .sl true [N64, N64, N64, N64], .sl true [N64, .sl false [.sl true [.bool, N64, N64]]]]
/-- a lookup -/
structure Lk where
 kind : Int
 flags : Int
 set : Int
 subs : List Sub
abbrev lk (k : Lk) : V := .agg [I k.kind, I k.flags, I k.set, .sl (k.subs.map sub)]
def lkC : List CT := [N64, N64, N64, .sl true subC]
/-- a loop's step through a list -/
theorem drop_at {α : Type} {l : List α} {k : Nat} (h : k < l.length) : l.drop k = l[k] :: l.drop (k + 1) := List.drop_eq_getElem_cons h
theorem map_at {α : Type} {f : α → V} {l : List α} {k : Nat} (h : k < l.length) : (l.map f)[k]? = some (f l[k]) := by
 simp [List.getElem?_map, List.getElem?_eq_getElem h]
theorem next_at {k n : Nat} (h : k < n) (hn : n ≤ 9223372036854775807) : IntKind.wrap .i64 ((k : Int) + 1) = ((k + 1 : Nat) : Int) := by
 rw [wrap_id (by omega) (by omega)]
 omega
end Go.Proofs.YtcngcapbikfbnaaDoor.W
