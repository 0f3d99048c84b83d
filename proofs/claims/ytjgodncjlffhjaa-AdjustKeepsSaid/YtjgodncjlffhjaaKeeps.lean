/-
  The law AdjustKeeps: what its function does, and what all that it calls does, for every input. No condition.
-/
import Derived.Test.YtjgodncjlffhjaaAliveA
import Derived.Test.YtjgodncjlffhjaaApplies
namespace Go.Proofs.Ytjgodncjlffhjaa.W
open Go Go.Vm Go.Proofs
set_option maxRecDepth 100000
set_option linter.unusedSimpArgs false
set_option maxHeartbeats 1000000
theorem nextF_gt {p : Nat → Bool} {n : Nat} {a : Int} : nextF p n a = -1 ∨ (a < nextF p n a ∧ 0 ≤ nextF p n a ∧ nextF p n a < n) := by
  rw [nextF]
  split
  · exact .inl rfl
  · exact (upF_in _ _).imp id (fun h => by omega)
/-- in how many places two rows differ, ahead of one -/
def cntD (a b : List Gl) : Nat → Nat
  | 0 => 0
  | i + 1 => cntD a b i + (if a[i]? = b[i]? then 0 else 1)
theorem cntD_le {a b : List Gl} : ∀ i, cntD a b i ≤ i
  | 0 => Nat.le_refl _
  | i + 1 => by
    have := cntD_le (a := a) (b := b) i
    simp only [cntD]
    split <;> omega
theorem cntD_two {a b : List Gl} {x y : Nat} (h : ∀ j, j ≠ x → j ≠ y → a[j]? = b[j]?) : ∀ i, cntD a b i ≤ (if x < i then 1 else 0) + (if y < i ∧ y ≠ x then 1 else 0)
  | 0 => by simp [cntD]
  | i + 1 => by
    have ih := cntD_two h i
    simp only [cntD]
    by_cases hx : i = x
    · subst hx
      rw [if_pos (show i < i + 1 by omega)]
      rw [if_neg (show ¬ i < i by omega)] at ih
      have : (if y < i ∧ y ≠ i then 1 else 0) ≤ (if y < i + 1 ∧ y ≠ i then 1 else 0) := by split <;> split <;> omega
      split <;> omega
    · by_cases hy : i = y
      · subst hy
        rw [if_pos (show i < i + 1 ∧ i ≠ x from ⟨by omega, hx⟩)]
        rw [if_neg (show ¬ (i < i ∧ i ≠ x) by omega)] at ih
        have : (if x < i then 1 else 0) ≤ (if x < i + 1 then 1 else 0) := by split <;> split <;> omega
        split <;> omega
      · rw [if_pos (h i hx hy)]
        have h1 : (if x < i then 1 else 0) ≤ (if x < i + 1 then 1 else 0) := by split <;> split <;> omega
        have h2 : (if y < i ∧ y ≠ x then 1 else 0) ≤ (if y < i + 1 ∧ y ≠ x then 1 else 0) := by split <;> split <;> omega
        omega
/-- a glyph with the measures of another one -/
def back (g h : Gl) : Gl := ⟨g.id, g.cl, h.adv, h.dx, h.dy, g.to, g.hang, g.lig, g.comp, g.mask⟩
structure KeepsA (k : Lk) (ls a : List Gl) (x p : Int) : Prop where
  len : a.length = ls.length
  x0 : 0 ≤ x
  lt : x < p
  le : p ≤ ls.length
  two : ∃ y : Nat, x.toNat ≤ y ∧ (y = x.toNat ∨ k.kind = 7) ∧ ∀ j, j ≠ x.toNat → j ≠ y → a[j]? = ls[j]?
  back : ∀ (j : Nat) (h : j < a.length) (h' : j < ls.length), back a[j] ls[j] = ls[j]
theorem back_add (g : Gl) (v : Sp) : back (addG g v) g = g := rfl
theorem back_self (g : Gl) : back g g = g := rfl
theorem applyF_keeps {f : Fo} {k : Lk} {ls : List Gl} {x : Int} {q : List Gl × Int} (hl : ls.length ≤ 1000) (h : applyF f k ls x = some q) : KeepsA k ls q.1 x q.2 := by
  rw [applyF] at h
  split at h
  · cases h
  · rename_i hx
    have hx0 : 0 ≤ x := by omega
    have hx1 : x < ls.length := by omega
    have hg := glAt_eq hx0 hx1
    split at h
    · split at h
      · rename_i v hv
        cases h
        refine ⟨by simp, hx0, ?_, ?_, ⟨x.toNat, Nat.le_refl _, .inl rfl, fun j h1 _ => ?_⟩, fun j h1 h2 => ?_⟩
        · simp only [wrap_id (show -9223372036854775808 ≤ x + 1 by omega) (by omega)]; omega
        · simp only [wrap_id (show -9223372036854775808 ≤ x + 1 by omega) (by omega)]; omega
        · simp only [List.getElem?_set]
          rw [if_neg (fun e => h1 e.symm)]
        · simp only [List.getElem_set]
          split
          · rename_i e
            subst e
            rw [List.getElem?_eq_getElem h2] at hg
            rw [Option.some.inj hg]
            exact back_add _ _
          · rfl
      · cases h
    · split at h
      · rename_i hk7
        split at h
        · cases h
        · rename_i hy
          have hin := nextF_gt (p := seesF f k.flags k.set ls) (n := ls.length) (a := x)
          generalize nextF (seesF f k.flags k.set ls) ls.length x = y at *
          have hy2 : x < y ∧ 0 ≤ y ∧ y < ls.length := hin.resolve_left hy
          have hg2 := glAt_eq hy2.2.1 hy2.2.2
          split at h
          · rename_i q' hq
            cases h
            refine ⟨by simp, hx0, ?_, ?_, ⟨y.toNat, by omega, .inr hk7, fun j h1 h2 => ?_⟩, fun j h1 h2 => ?_⟩
            · simp only
              split
              · omega
              · rw [wrap_id (by omega) (by omega)]; omega
            · simp only
              split
              · omega
              · rw [wrap_id (by omega) (by omega)]; omega
            · simp only [List.getElem?_set]
              rw [if_neg (fun e => h2 e.symm), if_neg (fun e => h1 e.symm)]
            · simp only [List.getElem_set]
              split
              · rename_i e
                subst e
                rw [List.getElem?_eq_getElem h2] at hg2
                rw [Option.some.inj hg2]
                exact back_add _ _
              · split
                · rename_i e
                  subst e
                  rw [List.getElem?_eq_getElem h2] at hg
                  rw [Option.some.inj hg]
                  exact back_add _ _
                · rfl
          · cases h
      · cases h
theorem KeepsA.count {k : Lk} {ls a : List Gl} {x p : Int} (h : KeepsA k ls a x p) (i : Nat) : cntD a ls i = 0 ∨ cntD a ls i = 1 ∨ (cntD a ls i = 2 ∧ k.kind = 7) := by
  obtain ⟨y, _, hy, h2⟩ := h.two
  have := cntD_two h2 i
  rcases hy with rfl | hy
  · rw [if_neg (show ¬ (x.toNat < i ∧ x.toNat ≠ x.toNat) by omega)] at this
    split at this <;> omega
  · split at this <;> split at this <;> omega
theorem KeepsA.early {k : Lk} {ls a : List Gl} {x p : Int} (h : KeepsA k ls a x p) {i : Nat} (hi : (i : Int) < x) : a[i]? = ls[i]? := by
  obtain ⟨y, h1, _, h2⟩ := h.two
  have := h.x0
  exact h2 i (by omega) (by omega)
theorem ak_law (f : Fo) (k : Lk) (ls : List Gl) (x : Int) : FnQ Try.prog 19 [fo f, lk k, .agg [.sl (ls.map gl), I x]] [.bool true] := by
  refine q19 (by simp) ?_
  unfold c19
  simp -implicitDefEqProofs only [*, vmp,↓vmd,Env.get,putD,argEnv,List.map,x00,x01,x02,x03,x04,x05,x06,x07,List.take,List.drop,x08,x09,x0a,x0b,List.isEmpty,↓reduceIte,reduceCtorEq,Nat.reduceEqDiff,Nat.reduceAdd,Nat.reduceLeDiff,x0c,Int.reduceNeg,Nat.reduceMul,Nat.reduceSub,x0d,x0e,x0f,x0g,x0h,x0i,x0j,x0k,Int.reduceEq,Int.reduceLT,Int.reduceLE,Int.reduceToNat,Int.cast_ofNat_Int,List.reduceReplicate]
  refine onC_q (greatA_q f k (ls.map gl)) rfl ?_
  first | refine envO (by simp -implicitDefEqProofs only [vmp,↓vmd,Env.get,putD,argEnv,List.map,x00,x01,x02,x03,x04,x05,x06,x07,List.take,List.drop,x08,x09,x0a,x0b,List.isEmpty,↓reduceIte,reduceCtorEq,Nat.reduceEqDiff,Nat.reduceAdd,Nat.reduceLeDiff,x0c,Int.reduceNeg,Nat.reduceMul,Nat.reduceSub,x0d,x0e,x0f,x0g,x0h,x0i,x0j,x0k,Int.reduceEq,Int.reduceLT,Int.reduceLE,Int.reduceToNat,Int.cast_ofNat_Int,List.reduceReplicate]; rfl) ?_ | refine envQ (by simp -implicitDefEqProofs only [vmp,↓vmd,Env.get,putD,argEnv,List.map,x00,x01,x02,x03,x04,x05,x06,x07,List.take,List.drop,x08,x09,x0a,x0b,List.isEmpty,↓reduceIte,reduceCtorEq,Nat.reduceEqDiff,Nat.reduceAdd,Nat.reduceLeDiff,x0c,Int.reduceNeg,Nat.reduceMul,Nat.reduceSub,x0d,x0e,x0f,x0g,x0h,x0i,x0j,x0k,Int.reduceEq,Int.reduceLT,Int.reduceLE,Int.reduceToNat,Int.cast_ofNat_Int,List.reduceReplicate]; rfl) ?_
  simp -implicitDefEqProofs only [vmp,↓vmd,Env.get,putD,argEnv,List.map,x00,x01,x02,x03,x04,x05,x06,x07,List.take,List.drop,x08,x09,x0a,x0b,List.isEmpty,↓reduceIte,reduceCtorEq,Nat.reduceEqDiff,Nat.reduceAdd,Nat.reduceLeDiff,x0c,Int.reduceNeg,Nat.reduceMul,Nat.reduceSub,x0d,x0e,x0f,x0g,x0h,x0i,x0j,x0k,Int.reduceEq,Int.reduceLT,Int.reduceLE,Int.reduceToNat,Int.cast_ofNat_Int,List.reduceReplicate]
  refine onB_intro (fun h => ?_) (fun h => ?_)
  · simp -implicitDefEqProofs only [h, vmp,↓vmd,Env.get,putD,argEnv,List.map,x00,x01,x02,x03,x04,x05,x06,x07,List.take,List.drop,x08,x09,x0a,x0b,List.isEmpty,↓reduceIte,reduceCtorEq,Nat.reduceEqDiff,Nat.reduceAdd,Nat.reduceLeDiff,x0c,Int.reduceNeg,Nat.reduceMul,Nat.reduceSub,x0d,x0e,x0f,x0g,x0h,x0i,x0j,x0k,Int.reduceEq,Int.reduceLT,Int.reduceLE,Int.reduceToNat,Int.cast_ofNat_Int,List.reduceReplicate]
    exact gives_pure
  have hg := greatA_not h
  simp -implicitDefEqProofs only [h, vmp,↓vmd,Env.get,putD,argEnv,List.map,x00,x01,x02,x03,x04,x05,x06,x07,List.take,List.drop,x08,x09,x0a,x0b,List.isEmpty,↓reduceIte,reduceCtorEq,Nat.reduceEqDiff,Nat.reduceAdd,Nat.reduceLeDiff,x0c,Int.reduceNeg,Nat.reduceMul,Nat.reduceSub,x0d,x0e,x0f,x0g,x0h,x0i,x0j,x0k,Int.reduceEq,Int.reduceLT,Int.reduceLE,Int.reduceToNat,Int.cast_ofNat_Int,List.reduceReplicate]
  refine onC_q (sums_q k ls) rfl ?_
  first | refine envO (by simp -implicitDefEqProofs only [vmp,↓vmd,Env.get,putD,argEnv,List.map,x00,x01,x02,x03,x04,x05,x06,x07,List.take,List.drop,x08,x09,x0a,x0b,List.isEmpty,↓reduceIte,reduceCtorEq,Nat.reduceEqDiff,Nat.reduceAdd,Nat.reduceLeDiff,x0c,Int.reduceNeg,Nat.reduceMul,Nat.reduceSub,x0d,x0e,x0f,x0g,x0h,x0i,x0j,x0k,Int.reduceEq,Int.reduceLT,Int.reduceLE,Int.reduceToNat,Int.cast_ofNat_Int,List.reduceReplicate]; rfl) ?_ | refine envQ (by simp -implicitDefEqProofs only [vmp,↓vmd,Env.get,putD,argEnv,List.map,x00,x01,x02,x03,x04,x05,x06,x07,List.take,List.drop,x08,x09,x0a,x0b,List.isEmpty,↓reduceIte,reduceCtorEq,Nat.reduceEqDiff,Nat.reduceAdd,Nat.reduceLeDiff,x0c,Int.reduceNeg,Nat.reduceMul,Nat.reduceSub,x0d,x0e,x0f,x0g,x0h,x0i,x0j,x0k,Int.reduceEq,Int.reduceLT,Int.reduceLE,Int.reduceToNat,Int.cast_ofNat_Int,List.reduceReplicate]; rfl) ?_
  simp -implicitDefEqProofs only [h, vmp,↓vmd,Env.get,putD,argEnv,List.map,x00,x01,x02,x03,x04,x05,x06,x07,List.take,List.drop,x08,x09,x0a,x0b,List.isEmpty,↓reduceIte,reduceCtorEq,Nat.reduceEqDiff,Nat.reduceAdd,Nat.reduceLeDiff,x0c,Int.reduceNeg,Nat.reduceMul,Nat.reduceSub,x0d,x0e,x0f,x0g,x0h,x0i,x0j,x0k,Int.reduceEq,Int.reduceLT,Int.reduceLE,Int.reduceToNat,Int.cast_ofNat_Int,List.reduceReplicate]
  by_cases hs : sumsF k ls = true
  · simp -implicitDefEqProofs only [hs, vmp,↓vmd,Env.get,putD,argEnv,List.map,x00,x01,x02,x03,x04,x05,x06,x07,List.take,List.drop,x08,x09,x0a,x0b,List.isEmpty,↓reduceIte,reduceCtorEq,Nat.reduceEqDiff,Nat.reduceAdd,Nat.reduceLeDiff,x0c,Int.reduceNeg,Nat.reduceMul,Nat.reduceSub,x0d,x0e,x0f,x0g,x0h,x0i,x0j,x0k,Int.reduceEq,Int.reduceLT,Int.reduceLE,Int.reduceToNat,Int.cast_ofNat_Int,List.reduceReplicate]
    have h1 := apply_q f k ls (by omega) x
    cases hc : applyF f k ls x with
    | none =>
      rw [hc] at h1
      have h1' : FnQ Try.prog 76 [fo f, lk k, .sl (ls.map gl), I x] [.sl (([] : List Gl).map gl), I 0, .bool false] := h1
      refine onC_q h1' rfl ?_
      first | refine envO (by simp -implicitDefEqProofs only [vmp,↓vmd,Env.get,putD,argEnv,List.map,x00,x01,x02,x03,x04,x05,x06,x07,List.take,List.drop,x08,x09,x0a,x0b,List.isEmpty,↓reduceIte,reduceCtorEq,Nat.reduceEqDiff,Nat.reduceAdd,Nat.reduceLeDiff,x0c,Int.reduceNeg,Nat.reduceMul,Nat.reduceSub,x0d,x0e,x0f,x0g,x0h,x0i,x0j,x0k,Int.reduceEq,Int.reduceLT,Int.reduceLE,Int.reduceToNat,Int.cast_ofNat_Int,List.reduceReplicate]; rfl) ?_ | refine envQ (by simp -implicitDefEqProofs only [vmp,↓vmd,Env.get,putD,argEnv,List.map,x00,x01,x02,x03,x04,x05,x06,x07,List.take,List.drop,x08,x09,x0a,x0b,List.isEmpty,↓reduceIte,reduceCtorEq,Nat.reduceEqDiff,Nat.reduceAdd,Nat.reduceLeDiff,x0c,Int.reduceNeg,Nat.reduceMul,Nat.reduceSub,x0d,x0e,x0f,x0g,x0h,x0i,x0j,x0k,Int.reduceEq,Int.reduceLT,Int.reduceLE,Int.reduceToNat,Int.cast_ofNat_Int,List.reduceReplicate]; rfl) ?_
      simp -implicitDefEqProofs only [vmp,↓vmd,Env.get,putD,argEnv,List.map,x00,x01,x02,x03,x04,x05,x06,x07,List.take,List.drop,x08,x09,x0a,x0b,List.isEmpty,↓reduceIte,reduceCtorEq,Nat.reduceEqDiff,Nat.reduceAdd,Nat.reduceLeDiff,x0c,Int.reduceNeg,Nat.reduceMul,Nat.reduceSub,x0d,x0e,x0f,x0g,x0h,x0i,x0j,x0k,Int.reduceEq,Int.reduceLT,Int.reduceLE,Int.reduceToNat,Int.cast_ofNat_Int,List.reduceReplicate]
      refine onC_q aliveA_q rfl ?_
      first | refine envO (by simp -implicitDefEqProofs only [vmp,↓vmd,Env.get,putD,argEnv,List.map,x00,x01,x02,x03,x04,x05,x06,x07,List.take,List.drop,x08,x09,x0a,x0b,List.isEmpty,↓reduceIte,reduceCtorEq,Nat.reduceEqDiff,Nat.reduceAdd,Nat.reduceLeDiff,x0c,Int.reduceNeg,Nat.reduceMul,Nat.reduceSub,x0d,x0e,x0f,x0g,x0h,x0i,x0j,x0k,Int.reduceEq,Int.reduceLT,Int.reduceLE,Int.reduceToNat,Int.cast_ofNat_Int,List.reduceReplicate]; rfl) ?_ | refine envQ (by simp -implicitDefEqProofs only [vmp,↓vmd,Env.get,putD,argEnv,List.map,x00,x01,x02,x03,x04,x05,x06,x07,List.take,List.drop,x08,x09,x0a,x0b,List.isEmpty,↓reduceIte,reduceCtorEq,Nat.reduceEqDiff,Nat.reduceAdd,Nat.reduceLeDiff,x0c,Int.reduceNeg,Nat.reduceMul,Nat.reduceSub,x0d,x0e,x0f,x0g,x0h,x0i,x0j,x0k,Int.reduceEq,Int.reduceLT,Int.reduceLE,Int.reduceToNat,Int.cast_ofNat_Int,List.reduceReplicate]; rfl) ?_
      simp -implicitDefEqProofs only [vmp,↓vmd,Env.get,putD,argEnv,List.map,x00,x01,x02,x03,x04,x05,x06,x07,List.take,List.drop,x08,x09,x0a,x0b,List.isEmpty,↓reduceIte,reduceCtorEq,Nat.reduceEqDiff,Nat.reduceAdd,Nat.reduceLeDiff,x0c,Int.reduceNeg,Nat.reduceMul,Nat.reduceSub,x0d,x0e,x0f,x0g,x0h,x0i,x0j,x0k,Int.reduceEq,Int.reduceLT,Int.reduceLE,Int.reduceToNat,Int.cast_ofNat_Int,List.reduceReplicate]
      exact gives_pure
    | some q =>
      rw [hc] at h1
      obtain ⟨a, p⟩ := q
      have hk : KeepsA k ls a x p := applyF_keeps (by omega) hc
      have hlen := hk.len
      have hlt := hk.lt
      have hle := hk.le
      have h1' : FnQ Try.prog 76 [fo f, lk k, .sl (ls.map gl), I x] [.sl (a.map gl), I p, .bool true] := h1
      refine onC_q h1' rfl ?_
      first | refine envO (by simp -implicitDefEqProofs only [vmp,↓vmd,Env.get,putD,argEnv,List.map,x00,x01,x02,x03,x04,x05,x06,x07,List.take,List.drop,x08,x09,x0a,x0b,List.isEmpty,↓reduceIte,reduceCtorEq,Nat.reduceEqDiff,Nat.reduceAdd,Nat.reduceLeDiff,x0c,Int.reduceNeg,Nat.reduceMul,Nat.reduceSub,x0d,x0e,x0f,x0g,x0h,x0i,x0j,x0k,Int.reduceEq,Int.reduceLT,Int.reduceLE,Int.reduceToNat,Int.cast_ofNat_Int,List.reduceReplicate]; rfl) ?_ | refine envQ (by simp -implicitDefEqProofs only [vmp,↓vmd,Env.get,putD,argEnv,List.map,x00,x01,x02,x03,x04,x05,x06,x07,List.take,List.drop,x08,x09,x0a,x0b,List.isEmpty,↓reduceIte,reduceCtorEq,Nat.reduceEqDiff,Nat.reduceAdd,Nat.reduceLeDiff,x0c,Int.reduceNeg,Nat.reduceMul,Nat.reduceSub,x0d,x0e,x0f,x0g,x0h,x0i,x0j,x0k,Int.reduceEq,Int.reduceLT,Int.reduceLE,Int.reduceToNat,Int.cast_ofNat_Int,List.reduceReplicate]; rfl) ?_
      have e1 : (a.length : Int) = (ls.length : Int) := by omega
      have e2 : ¬ p ≤ x := by omega
      have e3 : ¬ (ls.length : Int) < p := by omega
      simp -implicitDefEqProofs only [vmp,↓vmd,Env.get,putD,argEnv,List.map,x00,x01,x02,x03,x04,x05,x06,x07,List.take,List.drop,x08,x09,x0a,x0b,List.isEmpty,↓reduceIte,reduceCtorEq,Nat.reduceEqDiff,Nat.reduceAdd,Nat.reduceLeDiff,x0c,Int.reduceNeg,Nat.reduceMul,Nat.reduceSub,x0d,x0e,x0f,x0g,x0h,x0i,x0j,x0k,Int.reduceEq,Int.reduceLT,Int.reduceLE,Int.reduceToNat,Int.cast_ofNat_Int,List.reduceReplicate]
      refine onIf_intro fun _ => ?_
      simp -implicitDefEqProofs only [vmp,↓vmd,Env.get,putD,argEnv,List.map,x00,x01,x02,x03,x04,x05,x06,x07,List.take,List.drop,x08,x09,x0a,x0b,List.isEmpty,↓reduceIte,reduceCtorEq,Nat.reduceEqDiff,Nat.reduceAdd,Nat.reduceLeDiff,x0c,Int.reduceNeg,Nat.reduceMul,Nat.reduceSub,x0d,x0e,x0f,x0g,x0h,x0i,x0j,x0k,Int.reduceEq,Int.reduceLT,Int.reduceLE,Int.reduceToNat,Int.cast_ofNat_Int,List.reduceReplicate]
      refine onIf_intro fun _ => ?_
      simp -implicitDefEqProofs only [e1, e2, vmp,↓vmd,Env.get,putD,argEnv,List.map,x00,x01,x02,x03,x04,x05,x06,x07,List.take,List.drop,x08,x09,x0a,x0b,List.isEmpty,↓reduceIte,reduceCtorEq,Nat.reduceEqDiff,Nat.reduceAdd,Nat.reduceLeDiff,x0c,Int.reduceNeg,Nat.reduceMul,Nat.reduceSub,x0d,x0e,x0f,x0g,x0h,x0i,x0j,x0k,Int.reduceEq,Int.reduceLT,Int.reduceLE,Int.reduceToNat,Int.cast_ofNat_Int,List.reduceReplicate]
      refine onIf_intro fun _ => ?_
      simp -implicitDefEqProofs only [e1, e3, vmp,↓vmd,Env.get,putD,argEnv,List.map,x00,x01,x02,x03,x04,x05,x06,x07,List.take,List.drop,x08,x09,x0a,x0b,List.isEmpty,↓reduceIte,reduceCtorEq,Nat.reduceEqDiff,Nat.reduceAdd,Nat.reduceLeDiff,x0c,Int.reduceNeg,Nat.reduceMul,Nat.reduceSub,x0d,x0e,x0f,x0g,x0h,x0i,x0j,x0k,Int.reduceEq,Int.reduceLT,Int.reduceLE,Int.reduceToNat,Int.cast_ofNat_Int,List.reduceReplicate]
      refine onC_q aliveA_q rfl ?_
      first | refine envO (by simp -implicitDefEqProofs only [vmp,↓vmd,Env.get,putD,argEnv,List.map,x00,x01,x02,x03,x04,x05,x06,x07,List.take,List.drop,x08,x09,x0a,x0b,List.isEmpty,↓reduceIte,reduceCtorEq,Nat.reduceEqDiff,Nat.reduceAdd,Nat.reduceLeDiff,x0c,Int.reduceNeg,Nat.reduceMul,Nat.reduceSub,x0d,x0e,x0f,x0g,x0h,x0i,x0j,x0k,Int.reduceEq,Int.reduceLT,Int.reduceLE,Int.reduceToNat,Int.cast_ofNat_Int,List.reduceReplicate]; rfl) ?_ | refine envQ (by simp -implicitDefEqProofs only [vmp,↓vmd,Env.get,putD,argEnv,List.map,x00,x01,x02,x03,x04,x05,x06,x07,List.take,List.drop,x08,x09,x0a,x0b,List.isEmpty,↓reduceIte,reduceCtorEq,Nat.reduceEqDiff,Nat.reduceAdd,Nat.reduceLeDiff,x0c,Int.reduceNeg,Nat.reduceMul,Nat.reduceSub,x0d,x0e,x0f,x0g,x0h,x0i,x0j,x0k,Int.reduceEq,Int.reduceLT,Int.reduceLE,Int.reduceToNat,Int.cast_ofNat_Int,List.reduceReplicate]; rfl) ?_
      simp -implicitDefEqProofs only [vmp,↓vmd,Env.get,putD,argEnv,List.map,x00,x01,x02,x03,x04,x05,x06,x07,List.take,List.drop,x08,x09,x0a,x0b,List.isEmpty,↓reduceIte,reduceCtorEq,Nat.reduceEqDiff,Nat.reduceAdd,Nat.reduceLeDiff,x0c,Int.reduceNeg,Nat.reduceMul,Nat.reduceSub,x0d,x0e,x0f,x0g,x0h,x0i,x0j,x0k,Int.reduceEq,Int.reduceLT,Int.reduceLE,Int.reduceToNat,Int.cast_ofNat_Int,List.reduceReplicate]
      refine loop_at (T := Nat) (fun i => [(11, .pure (I i)), (10, .pure (I (cntD a ls i))), (7, .pure (.sl (a.map gl))), (5, .ptr 1 0 0), (4, .ptr 0 0 0)])
        (fun _ => [⟨[.pure (lk k)], 4, .live⟩, ⟨[.pure (.agg [.sl (ls.map gl), I x])], 2, .live⟩]) (fun i => i ≤ a.length) (fun i => a.length - i)
        0 [1, 2] (by simp) rfl (by simp) (by simp -implicitDefEqProofs only [kpp,Env.get,x01,x00,x02,x03,List.map,x08,x09,↓reduceIte,reduceCtorEq,Nat.reduceEqDiff,Nat.reduceLeDiff,Nat.reduceLT,Nat.reduceAdd,x0j,x0l,x0m,x0n,x0o,Int.cast_ofNat_Int,x0p,x0i,x07,x06,x0q,x0r,x0s,x0t,x0d,x0u]; rfl) (by simp -implicitDefEqProofs only [kpp,Env.get,x01,x00,x02,x03,List.map,x08,x09,↓reduceIte,reduceCtorEq,Nat.reduceEqDiff,Nat.reduceLeDiff,Nat.reduceLT,Nat.reduceAdd,x0j,x0l,x0m,x0n,x0o,Int.cast_ofNat_Int,x0p,x0i,x07,x06,x0q,x0r,x0s,x0t,x0d,x0u]) ?_
      intro i hi
      unfold c19_1
      simp -implicitDefEqProofs only [vmp,↓vmd,Env.get,putD,argEnv,List.map,x00,x01,x02,x03,x04,x05,x06,x07,List.take,List.drop,x08,x09,x0a,x0b,List.isEmpty,↓reduceIte,reduceCtorEq,Nat.reduceEqDiff,Nat.reduceAdd,Nat.reduceLeDiff,x0c,Int.reduceNeg,Nat.reduceMul,Nat.reduceSub,x0d,x0e,x0f,x0g,x0h,x0i,x0j,x0k,Int.reduceEq,Int.reduceLT,Int.reduceLE,Int.reduceToNat,Int.cast_ofNat_Int,List.reduceReplicate]
      refine onIf_intro fun _ => ?_
      simp -implicitDefEqProofs only [vmp,↓vmd,Env.get,putD,argEnv,List.map,x00,x01,x02,x03,x04,x05,x06,x07,List.take,List.drop,x08,x09,x0a,x0b,List.isEmpty,↓reduceIte,reduceCtorEq,Nat.reduceEqDiff,Nat.reduceAdd,Nat.reduceLeDiff,x0c,Int.reduceNeg,Nat.reduceMul,Nat.reduceSub,x0d,x0e,x0f,x0g,x0h,x0i,x0j,x0k,Int.reduceEq,Int.reduceLT,Int.reduceLE,Int.reduceToNat,Int.cast_ofNat_Int,List.reduceReplicate]
      refine onB_dec (fun h1 => ?_) (fun h1 => ?_)
      · have hi1 : i < a.length := by omega
        have hi2 : i < ls.length := by omega
        simp -implicitDefEqProofs only [h1, map_at hi1, map_at hi2, Int.natCast_nonneg, vmp,↓vmd,Env.get,putD,argEnv,List.map,x00,x01,x02,x03,x04,x05,x06,x07,List.take,List.drop,x08,x09,x0a,x0b,List.isEmpty,↓reduceIte,reduceCtorEq,Nat.reduceEqDiff,Nat.reduceAdd,Nat.reduceLeDiff,x0c,Int.reduceNeg,Nat.reduceMul,Nat.reduceSub,x0d,x0e,x0f,x0g,x0h,x0i,x0j,x0k,Int.reduceEq,Int.reduceLT,Int.reduceLE,Int.reduceToNat,Int.cast_ofNat_Int,List.reduceReplicate]
        rw [gl_b]
        by_cases he : a[i] = ls[i]
        · have hcs : cntD a ls (i + 1) = cntD a ls i := by
            rw [cntD, List.getElem?_eq_getElem hi1, List.getElem?_eq_getElem hi2, he]
            simp
          simp -implicitDefEqProofs only [he, vmp,↓vmd,Env.get,putD,argEnv,List.map,x00,x01,x02,x03,x04,x05,x06,x07,List.take,List.drop,x08,x09,x0a,x0b,List.isEmpty,↓reduceIte,reduceCtorEq,Nat.reduceEqDiff,Nat.reduceAdd,Nat.reduceLeDiff,x0c,Int.reduceNeg,Nat.reduceMul,Nat.reduceSub,x0d,x0e,x0f,x0g,x0h,x0i,x0j,x0k,Int.reduceEq,Int.reduceLT,Int.reduceLE,Int.reduceToNat,Int.cast_ofNat_Int,List.reduceReplicate]
          refine onBk_to (i + 1) [0, 1] (by simp) rfl (by omega) hi1 (by simp -implicitDefEqProofs only [next_at hi1 (by omega), hcs, kpp,Env.get,x01,x00,x02,x03,List.map,x08,x09,↓reduceIte,reduceCtorEq,Nat.reduceEqDiff,Nat.reduceLeDiff,Nat.reduceLT,Nat.reduceAdd,x0j,x0l,x0m,x0n,x0o,Int.cast_ofNat_Int,x0p,x0i,x07,x06,x0q,x0r,x0s,x0t,x0d,x0u]) (by simp -implicitDefEqProofs only [kpp,Env.get,x01,x00,x02,x03,List.map,x08,x09,↓reduceIte,reduceCtorEq,Nat.reduceEqDiff,Nat.reduceLeDiff,Nat.reduceLT,Nat.reduceAdd,x0j,x0l,x0m,x0n,x0o,Int.cast_ofNat_Int,x0p,x0i,x07,x06,x0q,x0r,x0s,x0t,x0d,x0u])
        · have hb := hk.back i hi1 hi2
          have hcs : cntD a ls (i + 1) = cntD a ls i + 1 := by
            rw [cntD, List.getElem?_eq_getElem hi1, List.getElem?_eq_getElem hi2, if_neg (by simpa using he)]
          have hcw : IntKind.wrap .i64 ((cntD a ls i : Int) + 1) = (cntD a ls (i + 1) : Int) := by
            have := cntD_le (a := a) (b := ls) i
            rw [hcs, wrap_id (by omega) (by omega)]
            omega
          have hxi : ¬ (i : Int) < x := by
            intro hlt'
            have := hk.early hlt'
            rw [List.getElem?_eq_getElem hi1, List.getElem?_eq_getElem hi2] at this
            exact he (Option.some.inj this)
          obtain ⟨g1, g2, g3, g4, g5, g6, g7⟩ : a[i].id = ls[i].id ∧ a[i].cl = ls[i].cl ∧ a[i].to = ls[i].to ∧ a[i].hang = ls[i].hang ∧ a[i].lig = ls[i].lig ∧ a[i].comp = ls[i].comp ∧ a[i].mask = ls[i].mask := by
            refine ⟨?_, ?_, ?_, ?_, ?_, ?_, ?_⟩ <;> (rw [← hb]; rfl)
          simp -implicitDefEqProofs only [he, map_at hi1, map_at hi2, Int.natCast_nonneg, vmp,↓vmd,Env.get,putD,argEnv,List.map,x00,x01,x02,x03,x04,x05,x06,x07,List.take,List.drop,x08,x09,x0a,x0b,List.isEmpty,↓reduceIte,reduceCtorEq,Nat.reduceEqDiff,Nat.reduceAdd,Nat.reduceLeDiff,x0c,Int.reduceNeg,Nat.reduceMul,Nat.reduceSub,x0d,x0e,x0f,x0g,x0h,x0i,x0j,x0k,Int.reduceEq,Int.reduceLT,Int.reduceLE,Int.reduceToNat,Int.cast_ofNat_Int,List.reduceReplicate]
          simp -implicitDefEqProofs only [g1, g2, g3, g4, g5, g6, g7, hxi, Bool.not_true, Bool.true_and, decide_true, Bool.and_self, vmp,↓vmd,Env.get,putD,argEnv,List.map,x00,x01,x02,x03,x04,x05,x06,x07,List.take,List.drop,x08,x09,x0a,x0b,List.isEmpty,↓reduceIte,reduceCtorEq,Nat.reduceEqDiff,Nat.reduceAdd,Nat.reduceLeDiff,x0c,Int.reduceNeg,Nat.reduceMul,Nat.reduceSub,x0d,x0e,x0f,x0g,x0h,x0i,x0j,x0k,Int.reduceEq,Int.reduceLT,Int.reduceLE,Int.reduceToNat,Int.cast_ofNat_Int,List.reduceReplicate]
          refine onBk_to (i + 1) [0, 1] (by simp) rfl (by omega) hi1 (by simp -implicitDefEqProofs only [next_at hi1 (by omega), hcw, kpp,Env.get,x01,x00,x02,x03,List.map,x08,x09,↓reduceIte,reduceCtorEq,Nat.reduceEqDiff,Nat.reduceLeDiff,Nat.reduceLT,Nat.reduceAdd,x0j,x0l,x0m,x0n,x0o,Int.cast_ofNat_Int,x0p,x0i,x07,x06,x0q,x0r,x0s,x0t,x0d,x0u]) (by simp -implicitDefEqProofs only [kpp,Env.get,x01,x00,x02,x03,List.map,x08,x09,↓reduceIte,reduceCtorEq,Nat.reduceEqDiff,Nat.reduceLeDiff,Nat.reduceLT,Nat.reduceAdd,x0j,x0l,x0m,x0n,x0o,Int.cast_ofNat_Int,x0p,x0i,x07,x06,x0q,x0r,x0s,x0t,x0d,x0u])
      · simp -implicitDefEqProofs only [h1, vmp,↓vmd,Env.get,putD,argEnv,List.map,x00,x01,x02,x03,x04,x05,x06,x07,List.take,List.drop,x08,x09,x0a,x0b,List.isEmpty,↓reduceIte,reduceCtorEq,Nat.reduceEqDiff,Nat.reduceAdd,Nat.reduceLeDiff,x0c,Int.reduceNeg,Nat.reduceMul,Nat.reduceSub,x0d,x0e,x0f,x0g,x0h,x0i,x0j,x0k,Int.reduceEq,Int.reduceLT,Int.reduceLE,Int.reduceToNat,Int.cast_ofNat_Int,List.reduceReplicate]
        unfold c19_0
        rcases hk.count i with c | c | ⟨c, k7⟩
        · simp -implicitDefEqProofs only [c, vmp,↓vmd,Env.get,putD,argEnv,List.map,x00,x01,x02,x03,x04,x05,x06,x07,List.take,List.drop,x08,x09,x0a,x0b,List.isEmpty,↓reduceIte,reduceCtorEq,Nat.reduceEqDiff,Nat.reduceAdd,Nat.reduceLeDiff,x0c,Int.reduceNeg,Nat.reduceMul,Nat.reduceSub,x0d,x0e,x0f,x0g,x0h,x0i,x0j,x0k,Int.reduceEq,Int.reduceLT,Int.reduceLE,Int.reduceToNat,Int.cast_ofNat_Int,List.reduceReplicate]
          exact gives_pure
        · simp -implicitDefEqProofs only [c, vmp,↓vmd,Env.get,putD,argEnv,List.map,x00,x01,x02,x03,x04,x05,x06,x07,List.take,List.drop,x08,x09,x0a,x0b,List.isEmpty,↓reduceIte,reduceCtorEq,Nat.reduceEqDiff,Nat.reduceAdd,Nat.reduceLeDiff,x0c,Int.reduceNeg,Nat.reduceMul,Nat.reduceSub,x0d,x0e,x0f,x0g,x0h,x0i,x0j,x0k,Int.reduceEq,Int.reduceLT,Int.reduceLE,Int.reduceToNat,Int.cast_ofNat_Int,List.reduceReplicate]
          exact gives_pure
        · simp -implicitDefEqProofs only [c, k7, vmp,↓vmd,Env.get,putD,argEnv,List.map,x00,x01,x02,x03,x04,x05,x06,x07,List.take,List.drop,x08,x09,x0a,x0b,List.isEmpty,↓reduceIte,reduceCtorEq,Nat.reduceEqDiff,Nat.reduceAdd,Nat.reduceLeDiff,x0c,Int.reduceNeg,Nat.reduceMul,Nat.reduceSub,x0d,x0e,x0f,x0g,x0h,x0i,x0j,x0k,Int.reduceEq,Int.reduceLT,Int.reduceLE,Int.reduceToNat,Int.cast_ofNat_Int,List.reduceReplicate]
          exact gives_pure
  · have hs' : sumsF k ls = false := by simpa using hs
    simp -implicitDefEqProofs only [hs', vmp,↓vmd,Env.get,putD,argEnv,List.map,x00,x01,x02,x03,x04,x05,x06,x07,List.take,List.drop,x08,x09,x0a,x0b,List.isEmpty,↓reduceIte,reduceCtorEq,Nat.reduceEqDiff,Nat.reduceAdd,Nat.reduceLeDiff,x0c,Int.reduceNeg,Nat.reduceMul,Nat.reduceSub,x0d,x0e,x0f,x0g,x0h,x0i,x0j,x0k,Int.reduceEq,Int.reduceLT,Int.reduceLE,Int.reduceToNat,Int.cast_ofNat_Int,List.reduceReplicate]
    exact gives_pure
theorem ak_all (vs : List V) (h : OkTs Try.prog Try.f19.params.toList vs) : FnQ Try.prog 19 vs [.bool true] := by
  rw [Try.params19] at h
  match vs, h with
  | [x, y, z], h =>
    obtain ⟨h1, h2, h3, _⟩ := h
    obtain ⟨f, rfl⟩ := font_of h1
    obtain ⟨k, rfl⟩ := lookup_of' h2
    obtain ⟨l, p, rfl⟩ := place32_of (h3 _ _ _ ty_place32)
    exact ak_law f k l p
end Go.Proofs.Ytjgodncjlffhjaa.W
