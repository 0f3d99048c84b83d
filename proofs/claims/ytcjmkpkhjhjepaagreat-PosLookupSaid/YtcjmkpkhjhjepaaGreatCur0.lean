/-
  Glyphs that hang on one another: what is found and done, as functions. No program in sight.
-/
import Derived.Test.YtcjmkpkhjhjepaaGreatGls
namespace Go.Proofs.YtcjmkpkhjhjepaaGreat.W
open Go Go.Vm Go.Proofs
set_option maxRecDepth 100000
set_option linter.unusedSimpArgs false
def cuIn : List Cu → Int → Option Cu
 | [], _ => none
 | c :: r, g => if c.glyph = g then some c else cuIn r g
def cuS : List Sub → Int → Option Cu
 | [], _ => none
 | s :: r, g => match cuIn s.curs g with
  | some c => some c
  | none => cuS r g
def curF (k : Lk) (g : Int) : Option Cu := if k.kind = 8 then cuS k.subs g else none
def cuZ : Cu := ⟨0, false, false, 0, 0, 0, 0⟩
def curR (o : Option Cu) : List V := [cu (o.getD cuZ), .bool o.isSome]
/-- where a place's glyph hangs the next one -/
def hangF (f : Fo) (k : Lk) (ls : List Gl) (x : Int) : Option (Int × Cu × Cu) :=
 if 0 ≤ x ∧ x < ls.length then (match curF k (glAt ls x).id with
  | none => none
  | some a => if a.hx = true ∧ 0 ≤ nextF (seesF f k.flags k.set ls) ls.length x then (match curF k (glAt ls (nextF (seesF f k.flags k.set ls) ls.length x)).id with
   | none => none
   | some b => if b.he = true then some (nextF (seesF f k.flags k.set ls) ls.length x, a, b) else none) else none) else none
theorem hangF_some {f : Fo} {k : Lk} {ls : List Gl} {x n : Int} {a b : Cu} (h : hangF f k ls x = some (n, a, b)) :
  0 ≤ x ∧ x < ls.length ∧ n = nextF (seesF f k.flags k.set ls) ls.length x ∧ x < n ∧ n < ls.length ∧ curF k (glAt ls x).id = some a ∧ curF k (glAt ls n).id = some b ∧ a.hx = true ∧ b.he = true := by
 rw [hangF] at h
 split at h
 ·rename_i hx
  split at h
  ·cases h
  ·rename_i a' ha
   split at h
   ·rename_i hc
    split at h
    ·cases h
    ·rename_i b' hb
     split at h
     ·rename_i hbe
      simp only [Option.some.injEq, Prod.mk.injEq] at h
      obtain ⟨rfl, rfl, rfl⟩ := h
      rcases nextF_gt (p := seesF f k.flags k.set ls) (n := ls.length) (a := x) with h1 | h1
      ·rw [h1] at hc; exact absurd hc.2 (by decide)
      ·exact ⟨hx.1, hx.2, rfl, h1.1, h1.2.2, ha, hb, hc.1, hbe⟩
     ·cases h
   ·cases h
 ·cases h
def advG (g : Gl) (v : Int) : Gl := ⟨g.id, g.cl, v, g.dx, g.dy, g.to, g.hang, g.lig, g.comp, g.mask⟩
def onG (g : Gl) (x ex dy : Int) : Gl := ⟨g.id, g.cl, IntKind.wrap .i64 (g.adv - ex), IntKind.wrap .i64 (g.dx - ex), dy, g.to, x, g.lig, g.comp, g.mask⟩
/-- what is done at a place -/
def doC (ls : List Gl) (x n : Int) (a b : Cu) : List Gl :=
 (ls.set x.toNat (advG (glAt ls x) (IntKind.wrap .i64 (a.xx + (glAt ls x).dx)))).set n.toNat (onG (glAt ls n) x b.ex (IntKind.wrap .i64 (a.xy - b.ey)))
def curD (f : Fo) (k : Lk) (ls : List Gl) (x : Int) : Option (Int × List Gl) := (hangF f k ls x).map fun z => (z.1, doC ls x z.1 z.2.1 z.2.2)
def curA (f : Fo) (k : Lk) (ls : List Gl) (x : Int) : List V := [.sl (((curD f k ls x).getD (x, ls)).2.map gl), I ((curD f k ls x).getD (x, ls)).1, .bool (curD f k ls x).isSome]
theorem doC_len {ls : List Gl} {x n : Int} {a b : Cu} : (doC ls x n a b).length = ls.length := by simp [doC]
end Go.Proofs.YtcjmkpkhjhjepaaGreat.W
