/-
  Contexts, plainly: what is done where others stand around. No program in sight.
-/
import Derived.Test.YtbllbkhkmngclaaMatch
import Derived.Test.YtbllbkhkmngclaaMoved
namespace Go.Proofs.Ytbllbkhkmngclaa.W
open Go Go.Vm Go.Proofs
set_option maxRecDepth 100000
set_option linter.unusedSimpArgs false
set_option maxHeartbeats 1000000
abbrev wr (n : Int) : Int := IntKind.wrap .i64 n
abbrev Doing := List Gl → Int → Int → Option (List Gl)
def doR : Option (List Gl) → List V
  | some l => [.sl (l.map gl), .bool true]
  | none => [.sl [], .bool false]
def intAt (ps : List Int) (y : Int) : Int := (ps[y.toNat]?).getD 0
theorem intAt_map {ps : List Int} {y : Int} (h0 : 0 ≤ y) (h1 : y < ps.length) : (ps.map I)[y.toNat]? = some (I (intAt ps y)) := by
  rw [List.getElem?_map, intAt, List.getElem?_eq_getElem (by omega)]; rfl
/-- one nest -/
def stepN (D : Doing) (w : List Gl × List Int) (n : Ns) : List Gl × List Int :=
  if n.at_ < 0 ∨ (w.2.length : Int) ≤ n.at_ then w
  else if intAt w.2 n.at_ < 0 ∨ (w.1.length : Int) ≤ intAt w.2 n.at_ then w
  else match D w.1 n.lookup (intAt w.2 n.at_) with
    | none => w
    | some l => (l, w.2.map (mv (intAt w.2 n.at_) (wr (l.length - w.1.length))))
def runN (D : Doing) (w : List Gl × List Int) (l : List Ns) : List Gl × List Int := l.foldl (stepN D) w
def lastI (p : List Int) : Int := intAt p ((p.length : Int) - 1)
def ctxF (D : Doing) (f : Fo) (k : Lk) (ls : List Gl) (x : Int) : Option (List Gl × Int) := match matchF f k ls x with
  | none => none
  | some q => match k.subs[q.1]? with
    | none => none
    | some s => some ((runN D (ls, q.2) s.nests).1, max (wr (((runN D (ls, q.2) s.nests).1.length : Int) - wr (wr ((ls.length : Int) - lastI q.2) - 1))) x)
def ctxR : Option (List Gl × Int) → List V
  | some q => [.sl (q.1.map gl), I q.2, .bool true]
  | none => [.sl [], I 0, .bool false]
theorem matF_in {g : Sub → Option (List Int)} : ∀ {l : List Sub} {n i : Nat} {p : List Int}, matF g n l = some (i, p) → n ≤ i ∧ ∃ s, l[i - n]? = some s ∧ g s = some p
  | [], n, i, p, h => by cases h
  | s :: r, n, i, p, h => by
    rw [matF] at h
    split at h
    · rename_i q hq
      cases h
      exact ⟨Nat.le_refl _, s, by simp, hq⟩
    · obtain ⟨h1, t, h2, h3⟩ := matF_in h
      refine ⟨by omega, t, ?_, h3⟩
      rw [show i - n = (i - (n + 1)) + 1 by omega]
      simpa using h2
theorem rowF_up {p : Nat → Bool} {n : Nat} {ls : List Gl} : ∀ {sets : List (List Int)} {x : Int} {r : List Int}, rowF (nextF p n) ls sets x = some r → r.length = sets.length ∧ ∀ i, i < r.length → intAt (x :: r) i < intAt (x :: r) (i + 1) ∧ 0 ≤ intAt (x :: r) (i + 1) ∧ intAt (x :: r) (i + 1) < n
  | [], x, r, h => by cases h; exact ⟨rfl, fun i hi => by simp at hi⟩
  | s :: t, x, r, h => by
    rw [rowF] at h
    split at h
    · cases h
    · rename_i hc
      obtain ⟨q, hq, rfl⟩ := Option.map_eq_some_iff.1 h
      obtain ⟨h1, h2⟩ := rowF_up hq
      have hg := (nextF_gt (p := p) (n := n) (a := x)).resolve_left (fun e => hc (.inl e))
      refine ⟨by simp [h1], fun i hi => ?_⟩
      cases i with
      | zero => simpa [intAt] using hg
      | succ i =>
        have := h2 i (by simpa using hi)
        simp only [intAt] at this ⊢
        have e1 : ((i : Int) + 1).toNat = i + 1 := by omega
        have e2 : (((i + 1 : Nat) : Int) + 1).toNat = i + 2 := by omega
        rw [e1] at this
        rw [e2]
        simpa using this
structure Match1 (f : Fo) (k : Lk) (ls : List Gl) (x : Int) (i : Nat) (p : List Int) : Prop where
  x0 : 0 ≤ x
  x1 : x < ls.length
  sub : ∃ s, k.subs[i]? = some s ∧ p.length = s.inn.length
  hd : ∃ r, p = x :: r
  up : ∀ j : Nat, j + 1 < p.length → intAt p j < intAt p (j + 1) ∧ 0 ≤ intAt p (j + 1) ∧ intAt p (j + 1) < ls.length
theorem matchF_in {f : Fo} {k : Lk} {ls : List Gl} {x : Int} {i : Nat} {p : List Int} (h : matchF f k ls x = some (i, p)) : Match1 f k ls x i p := by
  rw [matchF] at h
  split at h
  · cases h
  · rename_i hx
    obtain ⟨_, s, h1, h2⟩ := matF_in h
    rw [stF] at h2
    split at h2
    · cases h2
    · rename_i z zs hz
      split at h2
      · cases h2
      · split at h2
        · cases h2
        · rename_i r hr
          obtain ⟨g1, g2⟩ := rowF_up hr
          split at h2
          · cases h2
          · split at h2
            · cases h2
            · cases h2
              refine ⟨by omega, by omega, ⟨s, by simpa using h1, by simp [hz, g1]⟩, ⟨r, rfl⟩, fun j hj => g2 j (by simpa using hj)⟩
theorem intAt_last {p : List Int} {i : Nat} (h : i < p.length) : intAt p i = p[i] := by
  rw [intAt, Int.toNat_natCast, List.getElem?_eq_getElem h]; rfl
theorem Match1.ge {f : Fo} {k : Lk} {ls : List Gl} {x : Int} {i : Nat} {p : List Int} (h : Match1 f k ls x i p) : ∀ j : Nat, j < p.length → x ≤ intAt p j ∧ intAt p j < ls.length
  | 0, _ => by
    obtain ⟨r, rfl⟩ := h.hd
    have := h.x1
    simp [intAt]
    exact this
  | j + 1, hj => by
    have h1 := h.ge j (by omega)
    have h2 := h.up j hj
    have e : ((j + 1 : Nat) : Int) = (j : Int) + 1 := by omega
    rw [e]
    omega
theorem Match1.last {f : Fo} {k : Lk} {ls : List Gl} {x : Int} {i : Nat} {p : List Int} (h : Match1 f k ls x i p) : 0 < p.length ∧ x ≤ lastI p ∧ lastI p < ls.length := by
  obtain ⟨r, rfl⟩ := h.hd
  have := h.ge r.length (by simp)
  refine ⟨by simp, ?_⟩
  rw [lastI]
  simpa using this
/-- how long what a run leaves may be -/
theorem runN_len {D : Doing} (hD : ∀ l a b l', D l a b = some l' → l'.length ≤ l.length + 2) : ∀ (l : List Ns) (w : List Gl × List Int), (runN D w l).1.length ≤ w.1.length + 2 * l.length ∧ (runN D w l).2.length = w.2.length
  | [], w => ⟨by simp [runN], rfl⟩
  | n :: r, w => by
    have h1 : (stepN D w n).1.length ≤ w.1.length + 2 ∧ (stepN D w n).2.length = w.2.length := by
      rw [stepN]
      split
      · exact ⟨by omega, rfl⟩
      · split
        · exact ⟨by omega, rfl⟩
        · split
          · exact ⟨by omega, rfl⟩
          · rename_i l' hl
            exact ⟨hD _ _ _ _ hl, by simp⟩
    have h2 := runN_len hD r (stepN D w n)
    have e : runN D w (n :: r) = runN D (stepN D w n) r := rfl
    rw [e]
    simp only [List.length_cons]
    omega
theorem runN_succ {D : Doing} {w : List Gl × List Int} {l : List Ns} {j : Nat} (h : j < l.length) : runN D w (l.take (j + 1)) = stepN D (runN D w (l.take j)) l[j] := by
  rw [List.take_add_one, List.getElem?_eq_getElem h, runN, List.foldl_append]
  rfl
end Go.Proofs.Ytbllbkhkmngclaa.W
