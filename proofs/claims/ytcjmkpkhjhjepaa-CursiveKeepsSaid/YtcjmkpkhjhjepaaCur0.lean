/-
  Glyphs that hang on one another: what is found and done, as functions. No program in sight.
-/
import Derived.Test.YtcjmkpkhjhjepaaGls
import Derived.Test.YtcjmkpkhjhjepaaSeen
namespace Go.Proofs.Ytcjmkpkhjhjepaa.W
open Go Go.Vm Go.Proofs
set_option maxRecDepth 100000
set_option linter.unusedSimpArgs false
def cuIn : List Cu → Int → Option Cu
  | [], _ => none
  | c :: r, g => if c.glyph = g then some c else cuIn r g
def cuS : List Sub → Int → Option Cu
  | [], _ => none
  | s :: r, g => match cuIn s.curs g with
    | some c => some c
    | none => cuS r g
def curF (k : Lk) (g : Int) : Option Cu := if k.kind = 8 then cuS k.subs g else none
def cuZ : Cu := ⟨0, false, false, 0, 0, 0, 0⟩
def curR (o : Option Cu) : List V := [cu (o.getD cuZ), .bool o.isSome]
/-- where a place's glyph hangs the next one -/
def hangF (f : Fo) (k : Lk) (ls : List Gl) (x : Int) : Option (Int × Cu × Cu) :=
  if 0 ≤ x ∧ x < ls.length then (match curF k (glAt ls x).id with
    | none => none
    | some a => if a.hx = true ∧ 0 ≤ nextF (seesF f k.flags k.set ls) ls.length x then (match curF k (glAt ls (nextF (seesF f k.flags k.set ls) ls.length x)).id with
      | none => none
      | some b => if b.he = true then some (nextF (seesF f k.flags k.set ls) ls.length x, a, b) else none) else none) else none
theorem hangF_some {f : Fo} {k : Lk} {ls : List Gl} {x n : Int} {a b : Cu} (h : hangF f k ls x = some (n, a, b)) :
    0 ≤ x ∧ x < ls.length ∧ n = nextF (seesF f k.flags k.set ls) ls.length x ∧ x < n ∧ n < ls.length ∧ curF k (glAt ls x).id = some a ∧ curF k (glAt ls n).id = some b ∧ a.hx = true ∧ b.he = true := by
  rw [hangF] at h
  split at h
  · rename_i hx
    split at h
    · cases h
    · rename_i a' ha
      split at h
      · rename_i hc
        split at h
        · cases h
        · rename_i b' hb
          split at h
          · rename_i hbe
            simp only [Option.some.injEq, Prod.mk.injEq] at h
            obtain ⟨rfl, rfl, rfl⟩ := h
            rcases nextF_gt (p := seesF f k.flags k.set ls) (n := ls.length) (a := x) with h1 | h1
            · rw [h1] at hc; exact absurd hc.2 (by decide)
            · exact ⟨hx.1, hx.2, rfl, h1.1, h1.2.2, ha, hb, hc.1, hbe⟩
          · cases h
      · cases h
  · cases h
def advG (g : Gl) (v : Int) : Gl := ⟨g.id, g.cl, v, g.dx, g.dy, g.to, g.hang, g.lig, g.comp, g.mask⟩
def onG (g : Gl) (x ex dy : Int) : Gl := ⟨g.id, g.cl, IntKind.wrap .i64 (g.adv - ex), IntKind.wrap .i64 (g.dx - ex), dy, g.to, x, g.lig, g.comp, g.mask⟩
/-- what is done at a place -/
def doC (ls : List Gl) (x n : Int) (a b : Cu) : List Gl :=
  (ls.set x.toNat (advG (glAt ls x) (IntKind.wrap .i64 (a.xx + (glAt ls x).dx)))).set n.toNat (onG (glAt ls n) x b.ex (IntKind.wrap .i64 (a.xy - b.ey)))
def curD (f : Fo) (k : Lk) (ls : List Gl) (x : Int) : Option (Int × List Gl) := (hangF f k ls x).map fun z => (z.1, doC ls x z.1 z.2.1 z.2.2)
def curA (f : Fo) (k : Lk) (ls : List Gl) (x : Int) : List V := [.sl (((curD f k ls x).getD (x, ls)).2.map gl), I ((curD f k ls x).getD (x, ls)).1, .bool (curD f k ls x).isSome]
theorem doC_len {ls : List Gl} {x n : Int} {a b : Cu} : (doC ls x n a b).length = ls.length := by simp [doC]
/-- a cut -/
structure Ct where
  f : Int
  t : Int
  deriving DecidableEq
abbrev ct (c : Ct) : V := .agg [I c.f, I c.t]
def lastC (l : List Ct) : Ct := (l[l.length - 1]?).getD ⟨0, 0⟩
def endC (l : List Ct) (t : Int) : List Ct := l.set (l.length - 1) ⟨(lastC l).f, t⟩
/-- chains of those that hang on one another -/
def chP (nx : Int → Option Int) : List Int → Bool → List Ct → List Ct
  | [], _, acc => acc
  | a :: r, op, acc => match nx a with
    | some n => chP nx r true (if op = true then endC acc (IntKind.wrap .i64 (n + 1)) else acc ++ [⟨a, IntKind.wrap .i64 (n + 1)⟩])
    | none => chP nx r false acc
def nxF (f : Fo) (k : Lk) (ls : List Gl) (x : Int) : Option Int := (hangF f k ls x).map (·.1)
def chainF (f : Fo) (k : Lk) (ls : List Gl) : List Ct := chP (nxF f k ls) (seenK (seesF f k.flags k.set ls) ls.length) false []
/-- the places that are seen, from one on -/
def seenL (p : Nat → Bool) : Nat → Nat → List Int
  | 0, _ => []
  | m + 1, i => if p i = true then (i : Int) :: seenL p m (i + 1) else seenL p m (i + 1)
theorem seenL_eq {p : Nat → Bool} {n : Nat} : ∀ {m k : Nat}, k + m = n → seenK p n = seenK p k ++ seenL p m k
  | 0, k, h => by rw [seenL, List.append_nil, show k = n by omega]
  | m + 1, k, h => by
    rw [seenL_eq (m := m) (k := k + 1) (by omega), seenK_succ, seenL]
    split
    · rw [List.append_assoc]; rfl
    · rfl
theorem seenK_L {p : Nat → Bool} {n : Nat} : seenK p n = seenL p n 0 := by
  rw [seenL_eq (p := p) (n := n) (m := n) (k := 0) (by omega)]
  rfl
theorem upF_L {p : Nat → Bool} : ∀ {m i : Nat}, upF p m i = ((seenL p m i).head?).getD (-1)
  | 0, i => rfl
  | m + 1, i => by
    rw [upF, seenL]
    split
    · rfl
    · exact upF_L
theorem seenL_tail {p : Nat → Bool} {a : Int} {X R : List Int} : ∀ {m i : Nat}, seenL p m i = X ++ a :: R → ∃ j : Nat, a = (j : Int) ∧ i ≤ j ∧ j < i + m ∧ R = seenL p (i + m - (j + 1)) (j + 1)
  | 0, i, h => by simp [seenL] at h
  | m + 1, i, h => by
    rw [seenL] at h
    split at h
    · cases X with
      | nil =>
        simp only [List.nil_append, List.cons.injEq] at h
        exact ⟨i, h.1.symm, Nat.le_refl _, by omega, by rw [← h.2]; congr 1; omega⟩
      | cons x X =>
        simp only [List.cons_append, List.cons.injEq] at h
        obtain ⟨j, h1, h2, h3, h4⟩ := seenL_tail h.2
        exact ⟨j, h1, by omega, by omega, by rw [h4]; congr 1; omega⟩
    · obtain ⟨j, h1, h2, h3, h4⟩ := seenL_tail h
      exact ⟨j, h1, by omega, by omega, by rw [h4]; congr 1; omega⟩
/-- what hangs on a place that is seen is the next one that is -/
theorem next_seen {p : Nat → Bool} {n i : Nat} (hi : i < (seenK p n).length) (hx : 0 ≤ nextF p n ((seenK p n)[i]'hi)) : ∃ h : i + 1 < (seenK p n).length, nextF p n ((seenK p n)[i]'hi) = (seenK p n)[i + 1]'h := by
  have e : seenL p n 0 = (seenK p n).take i ++ (seenK p n)[i]'hi :: (seenK p n).drop (i + 1) := by
    rw [← seenK_L, ← List.drop_eq_getElem_cons hi, List.take_append_drop]
  obtain ⟨j, h1, _, h3, h4⟩ := seenL_tail e
  rw [h1] at hx ⊢
  rw [nextF, if_neg (by omega)] at hx ⊢
  have ej : (max (j : Int) (-1) + 1).toNat = j + 1 := by omega
  rw [ej, upF_L, show n - (j + 1) = 0 + n - (j + 1) by omega, ← h4] at hx ⊢
  by_cases hl : i + 1 < (seenK p n).length
  · refine ⟨hl, ?_⟩
    rw [List.drop_eq_getElem_cons hl]; rfl
  · rw [List.drop_of_length_le (by omega)] at hx
    exact absurd hx (by decide)
theorem seenK_in {p : Nat → Bool} {n i : Nat} (hi : i < (seenK p n).length) : 0 ≤ (seenK p n)[i]'hi ∧ (seenK p n)[i]'hi < n := by
  have e : seenL p n 0 = (seenK p n).take i ++ (seenK p n)[i]'hi :: (seenK p n).drop (i + 1) := by
    rw [← seenK_L, ← List.drop_eq_getElem_cons hi, List.take_append_drop]
  obtain ⟨j, h1, _, h3, h4⟩ := seenL_tail e
  omega
end Go.Proofs.Ytcjmkpkhjhjepaa.W
