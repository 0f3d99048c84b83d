/-
  The machine of positions, plainly: what lookups do, one within another. No program in sight.
-/
import Derived.Test.YtcjmkpkhjhjepaaGreatPAdj
import Derived.Test.YtcjmkpkhjhjepaaGreatPMk0
import Derived.Test.YtcjmkpkhjhjepaaGreatPCx0
import Derived.Test.YtcjmkpkhjhjepaaGreatCur0
import Derived.Test.YtcjmkpkhjhjepaaGreatChk0
namespace Go.Proofs.YtcjmkpkhjhjepaaGreat.W
open Go Go.Vm Go.Proofs
set_option maxRecDepth 100000
set_option linter.unusedSimpArgs false
/-- a lookup that nests none, at a place -/
def singleF (f : Fo) (k : Lk) (l : List Gl) (x : Int) : Option (List Gl × Int) :=
 if k.kind = 6 ∨ k.kind = 7 then applyF f k l x
 else if k.kind = 8 then (curD f k l x).map fun z => (z.2, z.1)
 else if k.kind = 9 ∨ k.kind = 10 ∨ k.kind = 11 then (markF f k l x).map fun a => (a, IntKind.wrap .i64 (x + 1))
 else none
abbrev Once := Int → List Gl → Int → Int → Option (List Gl × Int) × Int
def nestS (O : Once) (ps : List Int) (z : List Gl × Int) (n : Ns) : List Gl × Int :=
 if n.at_ < 0 ∨ (ps.length : Int) ≤ n.at_ then z
 else match O n.lookup z.1 (intAt ps n.at_) z.2 with
  | (some q, left) => (q.1, left)
  | (none, left) => (z.1, left)
def nestP (O : Once) (ps : List Int) (z : List Gl × Int) (l : List Ns) : List Gl × Int := l.foldl (nestS O ps) z
def subK (l : List Sub) (i : Nat) : Sub := (l[i]?).getD ⟨[], [], [], [], [], [], [], [], [], [], [], []⟩
def ctxO (O : Once) (f : Fo) (k : Lk) (l : List Gl) (x left : Int) : Option (List Gl × Int) × Int := match matchF f k l x with
 | none => (none, left)
 | some q => (some ((nestP O q.2 (l, left) (subK k.subs q.1).nests).1, lastI q.2 + 1), (nestP O q.2 (l, left) (subK k.subs q.1).nests).2)
/-- a lookup by its kind, where a doing has been taken -/
def kindO (O : Once) (f : Fo) (k : Lk) (l : List Gl) (x left : Int) : Option (List Gl × Int) × Int :=
 if k.kind = 12 then ctxO O f k l x left else (singleF f k l x, left)
def onceF (F : Ff) : Nat → Once
 | 0, _, _, _, left => (none, left)
 | n + 1, lookup, l, x, left =>
  if lookup < 0 ∨ (F.lks.length : Int) ≤ lookup ∨ x < 0 ∨ (l.length : Int) ≤ x ∨ left < 1 then (none, left)
  else if skipsF F.fo (lkAt F.lks lookup).flags (lkAt F.lks lookup).set (glAt l x).id = true then (none, left)
  else match kindO (onceF F n) F.fo (lkAt F.lks lookup) l x (left - 1) with
   | (some q, left') => (some q, left')
   | (none, _) => (none, left)
/-- what stays of a glyph -/
def core (g : Gl) : Int × Int × Int × Int × Int := (g.id, g.cl, g.lig, g.comp, g.mask)
def coreL (l : List Gl) : List (Int × Int × Int × Int × Int) := l.map core
theorem coreL_len {a b : List Gl} (h : coreL a = coreL b) : a.length = b.length := by
 have := congrArg List.length h
 simpa [coreL] using this
theorem coreL_set {l : List Gl} {i : Nat} {x : Int} {g : Gl} (hx : x.toNat = i) (h : core g = core (glAt l x)) : coreL (l.set i g) = coreL l := by
 subst hx
 rw [coreL, coreL, List.map_set, h]
 apply List.ext_getElem (by simp)
 intro j h1 h2
 rw [List.getElem_set]
 split
 ·rename_i e
  subst e
  rw [List.getElem_map, glAt, List.getElem?_eq_getElem (by simpa using h2)]
  rfl
 ·rfl
theorem core_at {a b : List Gl} (h : coreL a = coreL b) (x : Int) : core (glAt a x) = core (glAt b x) := by
 have hl := coreL_len h
 by_cases hx : x.toNat < a.length
 ·have := congrArg (fun l => l[x.toNat]?) h
  simp only [coreL, List.getElem?_map, List.getElem?_eq_getElem hx, List.getElem?_eq_getElem (hl ▸ hx), Option.map_some, Option.some.injEq] at this
  rw [glAt, glAt, List.getElem?_eq_getElem hx, List.getElem?_eq_getElem (hl ▸ hx)]
  exact this
 ·rw [glAt, glAt, List.getElem?_eq_none (by omega), List.getElem?_eq_none (by omega)]
theorem applyF_core {f : Fo} {k : Lk} {l : List Gl} {x : Int} {q : List Gl × Int} (h : applyF f k l x = some q) : coreL q.1 = coreL l := by
 rw [applyF] at h
 split at h
 ·cases h
 ·split at h
  ·split at h
   ·cases h
    exact coreL_set rfl rfl
   ·cases h
  ·split at h
   ·split at h
    ·cases h
    ·split at h
     ·rename_i q _
      cases h
      have e := coreL_set (l := l) (i := x.toNat) (x := x) (g := addG (glAt l x) q.1) rfl rfl
      have e2 := fun y => (core_at e y).symm
      exact (coreL_set (g := addG (glAt l (nextF (seesF f k.flags k.set l) l.length x)) q.2) rfl (e2 (nextF (seesF f k.flags k.set l) l.length x))).trans e
     ·cases h
   ·cases h
theorem curD_core {f : Fo} {k : Lk} {l : List Gl} {x : Int} {q : Int × List Gl} (h : curD f k l x = some q) : coreL q.2 = coreL l := by
 rw [curD, Option.map_eq_some_iff] at h
 obtain ⟨z, _, rfl⟩ := h
 have e := coreL_set (l := l) (i := x.toNat) (x := x) (g := advG (glAt l x) (IntKind.wrap .i64 (z.2.1.xx + (glAt l x).dx))) rfl rfl
 have e2 := fun y => (core_at e y).symm
 exact (coreL_set (g := onG (glAt l z.1) x z.2.2.ex (IntKind.wrap .i64 (z.2.1.xy - z.2.2.ey))) rfl (e2 z.1)).trans e
theorem markF_core {f : Fo} {k : Lk} {l a : List Gl} {x : Int} (h : markF f k l x = some a) : coreL a = coreL l := by
 rw [markF] at h
 split at h
 ·cases h
 ·split at h
  ·cases h
  ·cases h
   exact coreL_set rfl rfl
theorem singleF_core {f : Fo} {k : Lk} {l : List Gl} {x : Int} {q : List Gl × Int} (h : singleF f k l x = some q) : coreL q.1 = coreL l := by
 rw [singleF] at h
 split at h
 ·exact applyF_core h
 ·split at h
  ·obtain ⟨z, hz, rfl⟩ := Option.map_eq_some_iff.1 h
   exact curD_core hz
  ·split at h
   ·obtain ⟨z, hz, rfl⟩ := Option.map_eq_some_iff.1 h
    exact markF_core hz
   ·cases h
/-- what holds of a doing: the glyphs stay, and doings are used up -/
structure OnceP (O : Once) : Prop where
 core : ∀ lookup l x left q, (O lookup l x left).1 = some q → coreL q.1 = coreL l
 none : ∀ lookup l x left, (O lookup l x left).1 = none → (O lookup l x left).2 = left
 le : ∀ lookup l x left, 0 ≤ left → 0 ≤ (O lookup l x left).2 ∧ (O lookup l x left).2 ≤ left
 more : ∀ lookup l x left d, 0 ≤ left → 0 ≤ d → 0 < (O lookup l x left).2 → O lookup l x (left + d) = ((O lookup l x left).1, (O lookup l x left).2 + d)
theorem nestS_p {O : Once} (h : OnceP O) {ps : List Int} {z : List Gl × Int} {n : Ns} (hz : 0 ≤ z.2) : coreL (nestS O ps z n).1 = coreL z.1 ∧ 0 ≤ (nestS O ps z n).2 ∧ (nestS O ps z n).2 ≤ z.2 ∧ ∀ d, 0 ≤ d → 0 < (nestS O ps z n).2 → nestS O ps (z.1, z.2 + d) n = ((nestS O ps z n).1, (nestS O ps z n).2 + d) := by
 rw [nestS]
 split
 ·rename_i hc
  exact ⟨rfl, hz, Int.le_refl _, fun d _ _ => by rw [nestS, if_pos hc]⟩
 ·rename_i hc
  have hle := h.le n.lookup z.1 (intAt ps n.at_) z.2 hz
  have hmore := h.more n.lookup z.1 (intAt ps n.at_) z.2
  have hcore := h.core n.lookup z.1 (intAt ps n.at_) z.2
  cases ho : O n.lookup z.1 (intAt ps n.at_) z.2 with
  | mk r left =>
   rw [ho] at hle hmore hcore
   cases r with
   | none =>
    refine ⟨rfl, hle.1, hle.2, fun d hd hp => ?_⟩
    rw [nestS, if_neg hc]
    simp only [hmore d hz hd hp]
   | some q =>
    refine ⟨hcore q rfl, hle.1, hle.2, fun d hd hp => ?_⟩
    rw [nestS, if_neg hc]
    simp only [hmore d hz hd hp]
theorem nestP_p {O : Once} (h : OnceP O) {ps : List Int} : ∀ (l : List Ns) (z : List Gl × Int), 0 ≤ z.2 → coreL (nestP O ps z l).1 = coreL z.1 ∧ 0 ≤ (nestP O ps z l).2 ∧ (nestP O ps z l).2 ≤ z.2 ∧ ∀ d, 0 ≤ d → 0 < (nestP O ps z l).2 → nestP O ps (z.1, z.2 + d) l = ((nestP O ps z l).1, (nestP O ps z l).2 + d)
 | [], z, hz => ⟨rfl, hz, Int.le_refl _, fun d _ _ => rfl⟩
 | n :: r, z, hz => by
  obtain ⟨h1, h2, h3, h4⟩ := nestS_p h (ps := ps) (n := n) hz
  obtain ⟨g1, g2, g3, g4⟩ := nestP_p h r (nestS O ps z n) h2
  have e : ∀ z, nestP O ps z (n :: r) = nestP O ps (nestS O ps z n) r := fun _ => rfl
  rw [e]
  refine ⟨g1.trans h1, g2, by omega, fun d hd hp => ?_⟩
  rw [e, h4 d hd (by omega), g4 d hd hp]
theorem kindO_p {O : Once} (h : OnceP O) (f : Fo) (k : Lk) (l : List Gl) (x left : Int) (h0 : 0 ≤ left) : (∀ q, (kindO O f k l x left).1 = some q → coreL q.1 = coreL l) ∧ 0 ≤ (kindO O f k l x left).2 ∧ (kindO O f k l x left).2 ≤ left ∧
  ∀ d, 0 ≤ d → (0 < (kindO O f k l x left).2 → kindO O f k l x (left + d) = ((kindO O f k l x left).1, (kindO O f k l x left).2 + d)) ∧ ((kindO O f k l x left).1 = none → (kindO O f k l x (left + d)).1 = none) := by
 rw [kindO]
 split
 ·rename_i hk
  rw [ctxO]
  split
  ·rename_i hm
   refine ⟨fun q hq => (by cases hq), h0, Int.le_refl _, fun d _ => ⟨fun _ => ?_, fun _ => ?_⟩⟩
   ·rw [kindO, if_pos hk, ctxO, hm]
   ·rw [kindO, if_pos hk, ctxO, hm]
  ·rename_i q hm
   obtain ⟨g1, g2, g3, g4⟩ := nestP_p h (ps := q.2) (subK k.subs q.1).nests (l, left) h0
   refine ⟨fun p hp => (by cases hp; exact g1), g2, g3, fun d hd => ⟨fun hp => ?_, fun hn => (by cases hn)⟩⟩
   rw [kindO, if_pos hk, ctxO, hm]
   simp only [g4 d hd hp]
 ·rename_i hk
  refine ⟨fun q hq => singleF_core hq, h0, Int.le_refl _, fun d _ => ⟨fun _ => ?_, fun hn => ?_⟩⟩
  ·rw [kindO, if_neg hk]
  ·rw [kindO, if_neg hk]; exact hn
theorem onceF_p (F : Ff) : ∀ n, OnceP (onceF F n)
 | 0 => ⟨fun _ _ _ _ _ h => (by cases h), fun _ _ _ _ _ => rfl, fun _ _ _ _ h => ⟨h, Int.le_refl _⟩, fun _ _ _ _ _ _ _ _ => rfl⟩
 | n + 1 => by
  have ih := onceF_p F n
  refine ⟨fun lookup l x left q h => ?_, fun lookup l x left h => ?_, fun lookup l x left h0 => ?_, fun lookup l x left d h0 hd hp => ?_⟩
  ·rw [onceF] at h
   split at h
   ·cases h
   ·rename_i hc
    split at h
    ·cases h
    ·have := (kindO_p ih F.fo (lkAt F.lks lookup) l x (left - 1) (by omega)).1
     split at h
     ·rename_i q' left' he
      rw [he] at this
      cases h
      exact this _ rfl
     ·cases h
  ·rw [onceF] at h ⊢
   split
   ·rfl
   ·split
    ·rfl
    ·rename_i h1 h2
     rw [if_neg h1, if_neg h2] at h
     split
     ·rename_i he
      rw [he] at h
      cases h
     ·rfl
  ·rw [onceF]
   split
   ·exact ⟨h0, Int.le_refl _⟩
   ·rename_i hc
    split
    ·exact ⟨h0, Int.le_refl _⟩
    ·have := (kindO_p ih F.fo (lkAt F.lks lookup) l x (left - 1) (by omega)).2
     split
     ·rename_i q' left' he
      rw [he] at this
      have h3 := this.1
      have h4 := this.2.1
      simp only at h3 h4 ⊢
      omega
     ·exact ⟨h0, Int.le_refl _⟩
  ·rw [onceF] at hp ⊢
   by_cases hc : lookup < 0 ∨ (F.lks.length : Int) ≤ lookup ∨ x < 0 ∨ (l.length : Int) ≤ x ∨ left < 1
   ·rw [if_pos hc] at hp
    simp only at hp
    rw [if_pos (by omega)]
    rw [onceF, if_pos hc]
   ·rw [if_neg hc] at hp
    rw [if_neg (by omega)]
    rw [onceF, if_neg hc]
    split
    ·rfl
    ·rename_i hs
     rw [if_neg hs] at hp
     obtain ⟨_, g2, _, g4⟩ := kindO_p ih F.fo (lkAt F.lks lookup) l x (left - 1) (by omega)
     obtain ⟨g5, g6⟩ := g4 d hd
     rw [show left - 1 + d = left + d - 1 by omega] at g5 g6
     cases he : kindO (onceF F n) F.fo (lkAt F.lks lookup) l x (left - 1) with
     | mk r left' =>
      rw [he] at hp g5 g6 g2
      cases r with
      | some q =>
       simp only at hp g5 ⊢
       rw [g5 hp]
      | none =>
       have g7 := g6 rfl
       cases he2 : kindO (onceF F n) F.fo (lkAt F.lks lookup) l x (left + d - 1) with
       | mk r2 l2 =>
        rw [he2] at g7
        simp only at g7
        subst g7
        rfl
end Go.Proofs.YtcjmkpkhjhjepaaGreat.W
