/-
  Rows of glyphs. No condition.
-/
import Derived.Test.YtcjmkpkhjhjepaaGreatNext
namespace Go.Proofs.YtcjmkpkhjhjepaaGreat.W
open Go Go.Vm Go.Proofs
set_option maxRecDepth 100000
set_option linter.unusedSimpArgs false
set_option maxHeartbeats 1000000
theorem upF_in {p : Nat → Bool} : ∀ (m i : Nat), upF p m i = -1 ∨ ((i : Int) ≤ upF p m i ∧ upF p m i < (i : Int) + m)
 | 0, i => .inl rfl
 | m + 1, i => by
  rw [upF]
  split
  ·exact .inr ⟨Int.le_refl _, by omega⟩
  ·exact (upF_in m (i + 1)).imp id (fun h => by omega)
theorem downF_in {p : Nat → Bool} : ∀ i : Nat, downF p i = -1 ∨ (0 ≤ downF p i ∧ downF p i < (i : Int))
 | 0 => .inl rfl
 | i + 1 => by
  rw [downF]
  split
  ·exact .inr ⟨by omega, by omega⟩
  ·exact (downF_in i).imp id (fun h => by omega)
theorem nextF_in {p : Nat → Bool} {n : Nat} {a : Int} : nextF p n a = -1 ∨ (0 ≤ nextF p n a ∧ nextF p n a < n) := by
 rw [nextF]
 split
 ·exact .inl rfl
 ·exact (upF_in _ _).imp id (fun h => by omega)
theorem prevF_in {p : Nat → Bool} {n : Nat} {a : Int} : prevF p n a = -1 ∨ (0 ≤ prevF p n a ∧ prevF p n a < n) := by
 rw [prevF]
 split
 ·exact .inl rfl
 ·exact (downF_in _).imp id (fun h => by omega)
deriving instance DecidableEq for Gl
theorem gl_b (a b : Gl) : (decide (a.id = b.id) && (decide (a.cl = b.cl) && (decide (a.adv = b.adv) && (decide (a.dx = b.dx) && (decide (a.dy = b.dy) && (decide (a.to = b.to) && (decide (a.hang = b.hang) && (decide (a.lig = b.lig) && (decide (a.comp = b.comp) && decide (a.mask = b.mask)))))))))) = decide (a = b) := by
 cases a
 cases b
 simp
def glAt (ls : List Gl) (y : Int) : Gl := (ls[y.toNat]?).getD ⟨0, 0, 0, 0, 0, 0, 0, 0, 0, 0⟩
theorem glAt_eq {ls : List Gl} {y : Int} (h0 : 0 ≤ y) (h1 : y < ls.length) : ls[y.toNat]? = some (glAt ls y) := by
 rw [glAt, List.getElem?_eq_getElem (by omega)]; rfl
theorem glAt_map {ls : List Gl} {y : Int} (h0 : 0 ≤ y) (h1 : y < ls.length) : (ls.map gl)[y.toNat]? = some (gl (glAt ls y)) := by
 rw [List.getElem?_map, glAt_eq h0 h1]; rfl
theorem glAt_row {ls : List Gl} {y : Int} (h0 : 0 ≤ y) (h1 : y < ls.length) : ((ls.map gl).map S.pure)[y.toNat]? = some (.pure (gl (glAt ls y))) := by
 rw [List.getElem?_map, glAt_map h0 h1]; rfl
theorem toV_rowN {lv : Bool} {H : Heap} {α : Type} {f : α → V} {X : List α} {b m n : Nat} {st : RowSt} (h : H[b]? = some ⟨(X.map f).map S.pure, m, st⟩) (hst : st = .frozen ∨ (lv = true ∧ st = .live)) (hn : n = X.length) : toV lv H (.rsl b 0 n) = some (.sl (X.map f)) := by
 subst hn
 exact toV_row h hst
theorem set_i {X : List Gl} {i : Nat} {g : Gl} (h : i < X.length) : (X.set i g)[i]? = some g := by
 rw [List.getElem?_set_self h]
theorem set_ne {X : List Gl} {i t : Nat} {g : Gl} (h : t ≠ i) : (X.set i g)[t]? = X[t]? := List.getElem?_set_ne h.symm
theorem nextF_gt {p : Nat → Bool} {n : Nat} {a : Int} : nextF p n a = -1 ∨ (a < nextF p n a ∧ 0 ≤ nextF p n a ∧ nextF p n a < n) := by
 rw [nextF]
 split
 ·exact .inl rfl
 ·exact (upF_in _ _).imp id (fun h => by omega)
end Go.Proofs.YtcjmkpkhjhjepaaGreat.W
