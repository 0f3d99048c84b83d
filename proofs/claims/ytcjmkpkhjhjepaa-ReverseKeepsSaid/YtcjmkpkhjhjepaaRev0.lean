/-
  Lookups that go from behind: what they do, as functions. No condition.
-/
import Derived.Test.YtcjmkpkhjhjepaaRow
import Derived.Test.YtcjmkpkhjhjepaaGls
import Derived.Test.YtcjmkpkhjhjepaaFontD
namespace Go.Proofs.Ytcjmkpkhjhjepaa.W
open Go Go.Vm Go.Proofs
set_option maxRecDepth 100000
set_option linter.unusedSimpArgs false
def idG (g : Gl) (n : Int) : Gl := ⟨n, g.cl, g.adv, g.dx, g.dy, g.to, g.hang, g.lig, g.comp, g.mask⟩
/-- does a subtable hold at a place? -/
def stR (f : Fo) (k : Lk) (ls : List Gl) (x : Int) (s : Sub) : Bool :=
  decide (0 ≤ idxF (glAt ls x).id 0 s.cover) && (rowF (prevF (seesF f k.flags k.set ls) ls.length) ls s.back x).isSome && (rowF (nextF (seesF f k.flags k.set ls) ls.length) ls s.ahead x).isSome
def goR (p : Sub → Bool) : Nat → List Sub → Option Nat
  | _, [] => none
  | i, s :: r => if p s = true then some i else goR p (i + 1) r
def holdR (f : Fo) (k : Lk) (ls : List Gl) (x : Int) : Option Nat := if k.kind = 5 ∧ 0 ≤ x ∧ x < ls.length then goR (stR f k ls x) 0 k.subs else none
theorem goR_some {p : Sub → Bool} : ∀ {l : List Sub} {i j : Nat}, goR p i l = some j → i ≤ j ∧ ∃ s, l[j - i]? = some s ∧ p s = true
  | [], _, _, h => by cases h
  | s :: r, i, j, h => by
    rw [goR] at h
    split at h
    · cases h
      exact ⟨Nat.le_refl _, s, by simp, by assumption⟩
    · obtain ⟨h1, t, h2, h3⟩ := goR_some h
      refine ⟨by omega, t, ?_, h3⟩
      rw [show j - i = (j - (i + 1)) + 1 by omega]
      simpa using h2
def subAt (l : List Sub) (i : Nat) : Sub := (l[i]?).getD ⟨[], [], [], [], [], [], [], [], [], [], [], []⟩
theorem holdR_some {f : Fo} {k : Lk} {ls : List Gl} {x : Int} {i : Nat} (h : holdR f k ls x = some i) : k.kind = 5 ∧ 0 ≤ x ∧ x < ls.length ∧ i < k.subs.length ∧ subAt k.subs i ∈ k.subs ∧ stR f k ls x (subAt k.subs i) = true := by
  rw [holdR] at h
  split at h
  · rename_i hc
    obtain ⟨_, s, h2, h3⟩ := goR_some h
    rw [Nat.sub_zero] at h2
    have e : subAt k.subs i = s := by rw [subAt, h2]; rfl
    rw [e]
    exact ⟨hc.1, hc.2.1, hc.2.2, (List.getElem?_eq_some_iff.1 h2).1, List.mem_of_getElem? h2, h3⟩
  · cases h
/-- what a glyph becomes -/
def toR (s : Sub) (g : Int) : Int := ((((s.to[(idxF g 0 s.cover).toNat]?).getD [])[0]?).getD 0)
def doR (f : Fo) (k : Lk) (ls : List Gl) (x : Int) : List Gl := match holdR f k ls x with
  | none => ls
  | some i => ls.set x.toNat (idG (glAt ls x) (toR (subAt k.subs i) (glAt ls x).id))
def goA (f : Fo) (k : Lk) (mask : Int) : Nat → List Gl → List Gl
  | 0, ls => ls
  | i + 1, ls => goA f k mask i (if andE (glAt ls (i : Int)).mask mask = 0 ∨ skipsF f k.flags k.set (glAt ls (i : Int)).id = true then ls else doR f k ls (i : Int))
theorem doR_len {f : Fo} {k : Lk} {ls : List Gl} {x : Int} : (doR f k ls x).length = ls.length := by
  rw [doR]
  cases holdR f k ls x <;> simp
theorem goA_len {f : Fo} {k : Lk} {mask : Int} : ∀ {i : Nat} {ls : List Gl}, (goA f k mask i ls).length = ls.length
  | 0, _ => rfl
  | i + 1, ls => by
    rw [goA, goA_len]
    split
    · rfl
    · exact doR_len
end Go.Proofs.Ytcjmkpkhjhjepaa.W
