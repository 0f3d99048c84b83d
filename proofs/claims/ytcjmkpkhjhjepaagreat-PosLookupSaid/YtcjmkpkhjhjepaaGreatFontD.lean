/-
  The shape of a font, whole. No condition.
-/
import Derived.Test.YtcjmkpkhjhjepaaGreatTypes
namespace Go.Proofs.YtcjmkpkhjhjepaaGreat.W
open Go Go.Vm Go.Proofs
set_option maxRecDepth 100000
set_option linter.unusedSimpArgs false
/-- truth tables, in one -/
theorem bb : ((type_of% @Bool.false_and ∧ type_of% @Bool.true_and) ∧ (type_of% @Bool.and_false ∧ (type_of% @Bool.and_true ∧ type_of% @Bool.false_or))) ∧ ((type_of% @Bool.true_or ∧ type_of% @Bool.or_false) ∧ (type_of% @Bool.or_true ∧ (type_of% @Bool.not_true ∧ type_of% @Bool.not_false))) :=
 ⟨⟨⟨@Bool.false_and, @Bool.true_and⟩, ⟨@Bool.and_false, ⟨@Bool.and_true, @Bool.false_or⟩⟩⟩, ⟨⟨@Bool.true_or, @Bool.or_false⟩, ⟨@Bool.or_true, ⟨@Bool.not_true, @Bool.not_false⟩⟩⟩⟩
/-- what a font tells of a glyph -/
structure Gi where
 adv : Int
 kind : Int
 att : Int
 car : List Int
def Gi.inf (g : Gi) : Inf := ⟨g.adv, g.kind, g.att, LI g.car⟩
abbrev gi (g : Gi) : V := .agg [I g.adv, I g.kind, I g.att, LI g.car]
theorem gi_of {v : V} (h : OkE true [.int .i64, .int .i64, .int .i64, .sl false [.int .i64]] v) : ∃ s, v = gi s ∧ OkN s.adv ∧ OkN s.kind := by
 obtain ⟨cs, rfl, hc⟩ := agg_of h
 clear h
 match cs, hc with
 | [a, b, c, d], ⟨h1, h2, h3, h4, _⟩ =>
  obtain ⟨x, rfl, i1⟩ := okN_of h1
  obtain ⟨y, rfl, i2⟩ := okN_of h2
  obtain ⟨z, rfl, _⟩ := okN_of h3
  obtain ⟨l, rfl, _⟩ := li_of h4
  exact ⟨⟨x, y, z, l⟩, rfl, i1, i2⟩
/-- a sign and its glyph -/
structure Mp where
 code : Int
 glyph : Int
abbrev mp (m : Mp) : V := .agg [.int .i32 m.code, I m.glyph]
def OkR (n : Int) : Prop := -2147483648 ≤ n ∧ n ≤ 2147483647
theorem okR_of {v : V} (h : OkC (.int .i32) v) : ∃ n, v = .int .i32 n ∧ OkR n := by
 obtain ⟨n, rfl, hn⟩ := int_of h
 refine ⟨n, rfl, ?_⟩
 simp [Lit.wf, IntKind.min, IntKind.max, IntKind.bits, IntKind.signed] at hn
 exact ⟨by omega, by omega⟩
theorem mp_of {v : V} (h : OkE true [.int .i32, .int .i64] v) : ∃ s, v = mp s ∧ OkR s.code := by
 obtain ⟨cs, rfl, hc⟩ := agg_of h
 clear h
 match cs, hc with
 | [a, b], ⟨h1, h2, _⟩ =>
  obtain ⟨x, rfl, i1⟩ := okR_of h1
  obtain ⟨y, rfl, _⟩ := okN_of h2
  exact ⟨⟨x, y⟩, rfl, i1⟩
/-- a feature -/
structure Ft where
 tag : List UInt8
 script : Int
 lks : List Int
abbrev ft (x : Ft) : V := .agg [.str x.tag, I x.script, LI x.lks]
theorem ft_of {v : V} (h : OkE true [.str, .int .i64, .sl false [.int .i64]] v) : ∃ s, v = ft s ∧ True := by
 obtain ⟨cs, rfl, hc⟩ := agg_of h
 clear h
 match cs, hc with
 | [a, b, c], ⟨h1, h2, h3, _⟩ =>
  cases h1 with
  | str t ht =>
   obtain ⟨y, rfl, _⟩ := okN_of h2
   obtain ⟨l, rfl, _⟩ := li_of h3
   exact ⟨⟨t, y, l⟩, rfl, trivial⟩
/-- a font -/
structure Ff where
 em : Int
 gs : List Gi
 maps : List Mp
 lks : List Lk
 fts : List Ft
 sets : List (List Int)
def Ff.fo (F : Ff) : Fo := ⟨I F.em, F.gs.map Gi.inf, .sl (F.maps.map mp), .sl (F.lks.map lk), .sl (F.fts.map ft), F.sets⟩
abbrev ffV (F : Ff) : V := .agg [I F.em, .sl (F.gs.map gi), .sl (F.maps.map mp), .sl (F.lks.map lk), .sl (F.fts.map ft), LL F.sets]
theorem ffV_fo (F : Ff) : fo F.fo = ffV F := by
 simp only [fo, Ff.fo, List.map_map]
 rfl
theorem ff_of {v : V} (h : OkE true foC v) : ∃ F, v = ffV F ∧ True := by
 obtain ⟨cs, rfl, hc⟩ := agg_of h
 clear h
 match cs, hc with
 | [c0, c1, c2, c3, c4, c5], ⟨h0, h1, h2, h3, h4, h5, _⟩ =>
  obtain ⟨x0, rfl, _⟩ := okN_of h0
  obtain ⟨x1, rfl, _⟩ := lists_of (f := gi) (fun _ h => gi_of h) h1
  obtain ⟨x2, rfl, _⟩ := lists_of (f := mp) (fun _ h => mp_of h) h2
  obtain ⟨x3, rfl, _⟩ := lists_of (f := lk) (fun _ h => lk_of h) h3
  obtain ⟨x4, rfl, _⟩ := lists_of (f := ft) (fun _ h => ft_of h) h4
  obtain ⟨x5, rfl, _, _⟩ := ll_of h5
  exact ⟨⟨x0, x1, x2, x3, x4, x5⟩, rfl, trivial⟩
theorem font_of' {v : V} (h : OkT Tryz.prog 28 v) : ∃ F, v = ffV F := by
 obtain ⟨F, h1, _⟩ := ff_of (h _ _ _ ty_font)
 exact ⟨F, h1⟩
/-- whether all numbers of a stretch are so -/
def allFrom (p : Nat → Bool) : Nat → Nat → Bool
 | 0, _ => true
 | n + 1, i => p i && allFrom p n (i + 1)
/-- a step of a loop that asks all numbers of a stretch -/
theorem allFrom_step {p : Nat → Bool} {n i : Nat} (h : i < n) : allFrom p (n - i) i = (p i && allFrom p (n - (i + 1)) (i + 1)) := by
 rw [show n - i = (n - (i + 1)) + 1 by omega, allFrom]
theorem allFrom_end {p : Nat → Bool} {n i : Nat} (h : n ≤ i) : allFrom p (n - i) i = true := by
 rw [show n - i = 0 by omega, allFrom]
end Go.Proofs.YtcjmkpkhjhjepaaGreat.W
