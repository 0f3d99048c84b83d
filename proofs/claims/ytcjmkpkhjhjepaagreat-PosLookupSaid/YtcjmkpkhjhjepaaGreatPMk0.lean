/-
  Marks, plainly: what hangs where. No program in sight.
-/
import Derived.Test.YtcjmkpkhjhjepaaGreatGls
namespace Go.Proofs.YtcjmkpkhjhjepaaGreat.W
open Go Go.Vm Go.Proofs
set_option maxRecDepth 100000
set_option linter.unusedSimpArgs false
set_option maxHeartbeats 4000000
abbrev wr (n : Int) : Int := IntKind.wrap .i64 n
theorem prevF_lt {p : Nat → Bool} {n : Nat} {a : Int} : prevF p n a = -1 ∨ (0 ≤ prevF p n a ∧ prevF p n a < a ∧ prevF p n a < n) := by
 rw [prevF]
 split
 ·exact .inl rfl
 ·rcases downF_in (p := p) (min a n).toNat with h | h
  ·exact .inl h
  ·exact .inr (by omega)
def kAt (f : Fo) (ls : List Gl) (y : Int) : Int := (infoF f (glAt ls y).id).kind
abbrev prvF (f : Fo) (k : Lk) (ls : List Gl) (y : Int) : Int := prevF (seesF f k.flags k.set ls) ls.length y
theorem prvF_lt (f : Fo) (k : Lk) (ls : List Gl) (y : Int) : prvF f k ls y = -1 ∨ (0 ≤ prvF f k ls y ∧ prvF f k ls y < y ∧ prvF f k ls y < ls.length) := prevF_lt
def baseM (f : Fo) (k : Lk) (ls : List Gl) : Nat → Int → Int
 | 0, i => i
 | m + 1, i => if i = -1 then i else if kAt f ls i = 3 then baseM f k ls m (prvF f k ls i) else i
theorem baseM_stop {f : Fo} {k : Lk} {ls : List Gl} : ∀ (m n : Nat) {i : Int}, i < m → i < n → -1 ≤ i → baseM f k ls m i = baseM f k ls n i
 | 0, n, i, h1, h2, h3 => by
  obtain rfl : i = -1 := by omega
  cases n <;> simp [baseM]
 | m + 1, 0, i, h1, h2, h3 => by
  obtain rfl : i = -1 := by omega
  simp [baseM]
 | m + 1, n + 1, i, h1, h2, h3 => by
  rw [baseM, baseM]
  split
  ·rfl
  ·rename_i hi
   split
   ·have := prvF_lt f k ls i
    exact baseM_stop m n (by omega) (by omega) (by omega)
   ·rfl
theorem baseM_in {f : Fo} {k : Lk} {ls : List Gl} : ∀ (m : Nat) {i : Int}, i < m → -1 ≤ i → baseM f k ls m i = -1 ∨ (0 ≤ baseM f k ls m i ∧ baseM f k ls m i ≤ i ∧ kAt f ls (baseM f k ls m i) ≠ 3)
 | 0, i, h1, h2 => .inl (by rw [baseM]; omega)
 | m + 1, i, h1, h2 => by
  rw [baseM]
  split
  ·rename_i h; exact .inl h
  ·rename_i hi
   split
   ·have := prvF_lt f k ls i
    exact (baseM_in m (i := prvF f k ls i) (by omega) (by omega)).imp id (fun h => ⟨h.1, by omega, h.2.2⟩)
   ·rename_i h3
    exact .inr ⟨by omega, Int.le_refl _, h3⟩
theorem baseM_at {f : Fo} {k : Lk} {ls : List Gl} {n : Nat} {i : Int} (h : i = -1 ∨ kAt f ls i ≠ 3) : baseM f k ls (n + 1) i = i := by
 rw [baseM]
 split
 ·rfl
 ·rename_i h1
  rw [if_neg (h.resolve_left h1)]
theorem baseM_next {f : Fo} {k : Lk} {ls : List Gl} {i : Int} (h : 0 ≤ i) (h1 : i < ls.length) (h3 : kAt f ls i = 3) : baseM f k ls (ls.length + 1) i = baseM f k ls (ls.length + 1) (prvF f k ls i) := by
 rw [baseM, if_neg (by omega), if_pos h3]
 have := prvF_lt f k ls i
 exact baseM_stop _ _ (by omega) (by omega) (by omega)
def hungF (kind : Int) : Bool := decide (kind = 9) || decide (kind = 10) || decide (kind = 11)
def hostF (f : Fo) (k : Lk) (ls : List Gl) (y : Int) : Option Int :=
 if hungF k.kind = false ∨ y < 0 ∨ (ls.length : Int) ≤ y ∨ kAt f ls y ≠ 3 ∨ skipsF f k.flags k.set (glAt ls y).id = true then none
 else if k.kind = 11 then
  (if prvF f k ls y ≠ -1 ∧ kAt f ls (prvF f k ls y) = 3 ∧ (glAt ls (prvF f k ls y)).lig = (glAt ls y).lig ∧ (glAt ls (prvF f k ls y)).comp = (glAt ls y).comp then some (prvF f k ls y) else none)
 else
  (if baseM f k ls (ls.length + 1) (prvF f k ls y) = -1 ∨ ¬ (kAt f ls (baseM f k ls (ls.length + 1) (prvF f k ls y)) = 2 ↔ k.kind = 10) then none
   else some (baseM f k ls (ls.length + 1) (prvF f k ls y)))
def hostM (f : Fo) (k : Lk) (ls : List Gl) (y z b : Int) : Option Int :=
 if k.kind = 11 then
  (if z ≠ -1 ∧ kAt f ls z = 3 ∧ (glAt ls z).lig = (glAt ls y).lig ∧ (glAt ls z).comp = (glAt ls y).comp then some z else none)
 else (if b = -1 ∨ ¬ (kAt f ls b = 2 ↔ k.kind = 10) then none else some b)
theorem hostF_eq {f : Fo} {k : Lk} {ls : List Gl} {y : Int} (hh : hungF k.kind = true) (h0 : ¬ y < 0) (h1 : ¬ (ls.length : Int) ≤ y) (h3 : kAt f ls y = 3) (hs : skipsF f k.flags k.set (glAt ls y).id = false) :
  hostF f k ls y = hostM f k ls y (prvF f k ls y) (baseM f k ls (ls.length + 1) (prvF f k ls y)) := by
 rw [hostF, if_neg (fun e => by
  rcases e with e | e | e | e | e
  ·rw [hh] at e; cases e
  ·exact h0 e
  ·exact h1 e
  ·exact e h3
  ·rw [hs] at e; cases e)]
 rfl
theorem hostM_11 {f : Fo} {k : Lk} {ls : List Gl} {y z b : Int} (h : k.kind = 11) (h1 : z ≠ -1) (h2 : kAt f ls z = 3) (h3 : (glAt ls z).lig = (glAt ls y).lig) (h4 : (glAt ls z).comp = (glAt ls y).comp) : hostM f k ls y z b = some z := by
 rw [hostM, if_pos h, if_pos ⟨h1, h2, h3, h4⟩]
theorem hostM_11n {f : Fo} {k : Lk} {ls : List Gl} {y z b : Int} (h : k.kind = 11) (h1 : ¬ (z ≠ -1 ∧ kAt f ls z = 3 ∧ (glAt ls z).lig = (glAt ls y).lig ∧ (glAt ls z).comp = (glAt ls y).comp)) : hostM f k ls y z b = none := by
 rw [hostM, if_pos h, if_neg h1]
theorem hostM_b {f : Fo} {k : Lk} {ls : List Gl} {y z b : Int} (h : k.kind ≠ 11) (h1 : b ≠ -1) (h2 : kAt f ls b = 2 ↔ k.kind = 10) : hostM f k ls y z b = some b := by
 rw [hostM, if_neg h, if_neg (fun e => e.elim h1 (fun e => e h2))]
theorem hostM_n {f : Fo} {k : Lk} {ls : List Gl} {y z b : Int} (h : k.kind ≠ 11) (h1 : b = -1 ∨ ¬ (kAt f ls b = 2 ↔ k.kind = 10)) : hostM f k ls y z b = none := by
 rw [hostM, if_neg h, if_pos h1]
theorem hostF_in {f : Fo} {k : Lk} {ls : List Gl} {y p : Int} (h : hostF f k ls y = some p) : 0 ≤ y ∧ y < ls.length ∧ kAt f ls y = 3 ∧ 0 ≤ p ∧ p < y := by
 rw [hostF] at h
 split at h
 ·cases h
 ·rename_i hc
  simp only [not_or, Classical.not_not] at hc
  obtain ⟨_, h1, h2, h3, _⟩ := hc
  have hp := prvF_lt f k ls y
  refine ⟨by omega, by omega, h3, ?_⟩
  split at h
  ·split at h
   ·rename_i hq
    cases h
    have := hp.resolve_left hq.1
    omega
   ·cases h
  ·split at h
   ·cases h
   ·rename_i hq
    cases h
    have := baseM_in (f := f) (k := k) (ls := ls) (ls.length + 1) (i := prvF f k ls y) (by omega) (by omega)
    have := this.resolve_left (fun e => hq (.inl e))
    omega
def findHo : List Ho → Int → Option Ho
 | [], _ => none
 | h :: r, g => if h.glyph = g then some h else findHo r g
def spotsF (kind : Int) (l : List (List Spt)) (comp : Int) : List Spt :=
 if kind ≠ 10 then (l[0]?).getD [] else if comp < 0 ∨ (l.length : Int) ≤ comp then (l[l.length - 1]?).getD [] else (l[comp.toNat]?).getD []
def spotF (l : List Spt) (cls : Int) : Option (Int × Int) :=
 if cls < 0 then none else match l[cls.toNat]? with
  | some s => if s.has = true then some (s.x, s.y) else none
  | none => none
def anchorF (k : Lk) (sb host cls comp : Int) : Option (Int × Int) :=
 if sb < 0 then none else match k.subs[sb.toNat]? with
  | some s => (match findHo s.hosts host with
   | some h => spotF (spotsF k.kind h.spots comp) cls
   | none => none)
  | none => none
def findMk : List Mk → Int → Option Mk
 | [], _ => none
 | m :: r, g => if m.glyph = g then some m else findMk r g
def goM (k : Lk) (g host comp : Int) : Nat → List Sub → Option (Mk × (Int × Int))
 | _, [] => none
 | n, s :: r => match findMk s.marks g with
  | some m => (match anchorF k n host m.cls comp with
   | some a => some (m, a)
   | none => goM k g host comp (n + 1) r)
  | none => goM k g host comp (n + 1) r
def compF (a b : Gl) : Int := if a.lig ≠ 0 ∧ a.lig = b.lig then a.comp else -1
def hangG (g : Gl) (m : Mk) (a : Int × Int) (p : Int) : Gl := ⟨g.id, g.cl, 0, wr (a.1 - m.x), wr (a.2 - m.y), p, -1, g.lig, g.comp, g.mask⟩
def markF (f : Fo) (k : Lk) (ls : List Gl) (y : Int) : Option (List Gl) := match hostF f k ls y with
 | none => none
 | some p => match goM k (glAt ls y).id (glAt ls p).id (compF (glAt ls y) (glAt ls p)) 0 k.subs with
  | none => none
  | some q => some (ls.set y.toNat (hangG (glAt ls y) q.1 q.2 p))
theorem glAt_set {ls : List Gl} {n : Nat} {g : Gl} {y : Int} : glAt (ls.set n g) y = if n = y.toNat ∧ n < ls.length then g else glAt ls y := by
 rw [glAt, glAt, List.getElem?_set]
 by_cases h : n = y.toNat
 ·subst h
  by_cases h2 : y.toNat < ls.length
  ·simp [h2]
  ·simp [h2, List.getElem?_eq_none (show ls.length ≤ y.toNat by omega)]
 ·simp [h]
end Go.Proofs.YtcjmkpkhjhjepaaGreat.W
