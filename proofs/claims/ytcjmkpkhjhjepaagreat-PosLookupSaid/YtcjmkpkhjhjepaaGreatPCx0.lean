/-
  Contexts, plainly: what stands around. No program in sight.
-/
import Derived.Test.YtcjmkpkhjhjepaaGreatRow
import Derived.Test.YtcjmkpkhjhjepaaGreatGls
import Derived.Test.YtcjmkpkhjhjepaaGreatStops
namespace Go.Proofs.YtcjmkpkhjhjepaaGreat.W
open Go Go.Vm Go.Proofs
set_option maxRecDepth 100000
set_option linter.unusedSimpArgs false
set_option maxHeartbeats 4000000
def lastF (x : Int) (r : List Int) : Int := (x :: r).getD r.length 0
def stF (f : Fo) (b n : Int) (ls : List Gl) (x : Int) (s : Sub) : Option (List Int) :=
 match s.inn with
 | [] => none
 | z :: zs => if idAt ls x ∉ z then none else match rowF (nextF (seesF f b n ls) ls.length) ls zs x with
  | none => none
  | some r => match rowF (prevF (seesF f b n ls) ls.length) ls s.back x with
   | none => none
   | some _ => match rowF (nextF (seesF f b n ls) ls.length) ls s.ahead (lastF x r) with
    | none => none
    | some _ => some (x :: r)
theorem inn_cons {l : List (List Int)} {z : List Int} {zs : List (List Int)} (h : l = z :: zs) : (l.map LI)[0]? = some (LI z) ∧ ((l.length : Int) = 0) = False ∧ slcP 1 (l.map LI) false (some 1) (some (l.length : Int)) (some (l.length : Int)) = some (.pure (LL zs)) := by
 subst h
 refine ⟨rfl, by simp; omega, ?_⟩
 rw [slcP_from (f := LI) (fun _ => rfl) (by omega) (by simp; omega)]
 rfl
theorem rowF_len {g : Int → Int} {ls : List Gl} : ∀ {sets : List (List Int)} {x : Int} {l : List Int}, rowF g ls sets x = some l → l.length = sets.length
 | [], x, l, h => by simp [rowF] at h; subst h; rfl
 | st :: r, x, l, h => by
  rw [rowF] at h
  split at h
  ·cases h
  ·obtain ⟨q, h1, rfl⟩ := Option.map_eq_some_iff.1 h
   simp [rowF_len h1]
theorem toV_row1 {lv : Bool} {H : Heap} {x : Int} {r : List Int} {b m n : Nat} {st : RowSt} (h : H[b]? = some ⟨.pure (I x) :: (r.map I).map S.pure, m, st⟩) (hst : st = .frozen ∨ (lv = true ∧ st = .live)) (hn : n = r.length + 1) : toV lv H (.rsl b 0 n) = some (LI (x :: r)) := by
 subst hn
 exact toV_row (X := x :: r) (f := I) h hst
theorem last_at {x : Int} {r : List Int} : (S.pure (I x) :: (r.map I).map S.pure)[r.length]? = some (.pure (I (lastF x r))) := by
 have : (((x :: r).map I).map S.pure)[r.length]? = some (.pure (I (x :: r)[r.length])) := row_at (by simp)
 rw [lastF, List.getD_eq_getElem?_getD, show (x :: r)[r.length]? = some (x :: r)[r.length] from List.getElem?_eq_getElem (by simp)]
 exact this
def matF (g : Sub → Option (List Int)) : Nat → List Sub → Option (Nat × List Int)
 | _, [] => none
 | i, s :: r => match g s with
  | some p => some (i, p)
  | none => matF g (i + 1) r
def matR : Option (Nat × List Int) → List V
 | some q => [I (q.1 : Int), LI q.2, .bool true]
 | none => [I 0, LI [], .bool false]
def matchF (f : Fo) (k : Lk) (ls : List Gl) (x : Int) : Option (Nat × List Int) := if x < 0 ∨ (ls.length : Int) ≤ x then none else matF (stF f k.flags k.set ls x) 0 k.subs
def intAt (ps : List Int) (y : Int) : Int := (ps[y.toNat]?).getD 0
theorem intAt_map {ps : List Int} {y : Int} (h0 : 0 ≤ y) (h1 : y < ps.length) : (ps.map I)[y.toNat]? = some (I (intAt ps y)) := by
 rw [List.getElem?_map, intAt, List.getElem?_eq_getElem (by omega)]; rfl
def lastI (p : List Int) : Int := intAt p ((p.length : Int) - 1)
theorem matF_in {g : Sub → Option (List Int)} : ∀ {l : List Sub} {n i : Nat} {p : List Int}, matF g n l = some (i, p) → n ≤ i ∧ ∃ s, l[i - n]? = some s ∧ g s = some p
 | [], n, i, p, h => by cases h
 | s :: r, n, i, p, h => by
  rw [matF] at h
  split at h
  ·rename_i q hq
   cases h
   exact ⟨Nat.le_refl _, s, by simp, hq⟩
  ·obtain ⟨h1, t, h2, h3⟩ := matF_in h
   refine ⟨by omega, t, ?_, h3⟩
   rw [show i - n = (i - (n + 1)) + 1 by omega]
   simpa using h2
theorem rowF_up {p : Nat → Bool} {n : Nat} {ls : List Gl} : ∀ {sets : List (List Int)} {x : Int} {r : List Int}, rowF (nextF p n) ls sets x = some r → r.length = sets.length ∧ ∀ i, i < r.length → intAt (x :: r) i < intAt (x :: r) (i + 1) ∧ 0 ≤ intAt (x :: r) (i + 1) ∧ intAt (x :: r) (i + 1) < n
 | [], x, r, h => by cases h; exact ⟨rfl, fun i hi => by simp at hi⟩
 | s :: t, x, r, h => by
  rw [rowF] at h
  split at h
  ·cases h
  ·rename_i hc
   obtain ⟨q, hq, rfl⟩ := Option.map_eq_some_iff.1 h
   obtain ⟨h1, h2⟩ := rowF_up hq
   have hg := (nextF_gt (p := p) (n := n) (a := x)).resolve_left (fun e => hc (.inl e))
   refine ⟨by simp [h1], fun i hi => ?_⟩
   cases i with
   | zero => simpa [intAt] using hg
   | succ i =>
    have := h2 i (by simpa using hi)
    simp only [intAt] at this ⊢
    have e1 : ((i : Int) + 1).toNat = i + 1 := by omega
    have e2 : (((i + 1 : Nat) : Int) + 1).toNat = i + 2 := by omega
    rw [e1] at this
    rw [e2]
    simpa using this
structure Match1 (f : Fo) (k : Lk) (ls : List Gl) (x : Int) (i : Nat) (p : List Int) : Prop where
 x0 : 0 ≤ x
 x1 : x < ls.length
 sub : ∃ s, k.subs[i]? = some s ∧ p.length = s.inn.length
 hd : ∃ r, p = x :: r
 up : ∀ j : Nat, j + 1 < p.length → intAt p j < intAt p (j + 1) ∧ 0 ≤ intAt p (j + 1) ∧ intAt p (j + 1) < ls.length
theorem matchF_in {f : Fo} {k : Lk} {ls : List Gl} {x : Int} {i : Nat} {p : List Int} (h : matchF f k ls x = some (i, p)) : Match1 f k ls x i p := by
 rw [matchF] at h
 split at h
 ·cases h
 ·rename_i hx
  obtain ⟨_, s, h1, h2⟩ := matF_in h
  rw [stF] at h2
  split at h2
  ·cases h2
  ·rename_i z zs hz
   split at h2
   ·cases h2
   ·split at h2
    ·cases h2
    ·rename_i r hr
     obtain ⟨g1, g2⟩ := rowF_up hr
     split at h2
     ·cases h2
     ·split at h2
      ·cases h2
      ·cases h2
       refine ⟨by omega, by omega, ⟨s, by simpa using h1, by simp [hz, g1]⟩, ⟨r, rfl⟩, fun j hj => g2 j (by simpa using hj)⟩
theorem intAt_last {p : List Int} {i : Nat} (h : i < p.length) : intAt p i = p[i] := by
 rw [intAt, Int.toNat_natCast, List.getElem?_eq_getElem h]; rfl
theorem Match1.ge {f : Fo} {k : Lk} {ls : List Gl} {x : Int} {i : Nat} {p : List Int} (h : Match1 f k ls x i p) : ∀ j : Nat, j < p.length → x ≤ intAt p j ∧ intAt p j < ls.length
 | 0, _ => by
  obtain ⟨r, rfl⟩ := h.hd
  have := h.x1
  simp [intAt]
  exact this
 | j + 1, hj => by
  have h1 := h.ge j (by omega)
  have h2 := h.up j hj
  have e : ((j + 1 : Nat) : Int) = (j : Int) + 1 := by omega
  rw [e]
  omega
theorem Match1.last {f : Fo} {k : Lk} {ls : List Gl} {x : Int} {i : Nat} {p : List Int} (h : Match1 f k ls x i p) : 0 < p.length ∧ x ≤ lastI p ∧ lastI p < ls.length := by
 obtain ⟨r, rfl⟩ := h.hd
 have := h.ge r.length (by simp)
 refine ⟨by simp, ?_⟩
 rw [lastI]
 simpa using this
def mv (at' d p : Int) : Int := if p = -1 ∨ p ≤ at' then p else if d < 0 ∧ p ≤ IntKind.wrap .i64 (at' - d) then -1 else IntKind.wrap .i64 (p + d)
end Go.Proofs.YtcjmkpkhjhjepaaGreat.W
