/-
  Ligatures that are applied: what is kept. No condition.
-/
import Derived.Test.YtbllbkhkmngclaaLiga5
import Derived.Test.YtbllbkhkmngclaaRight
namespace Go.Proofs.Ytbllbkhkmngclaa.W
open Go Go.Vm Go.Proofs
set_option maxRecDepth 100000
set_option linter.unusedSimpArgs false
set_option maxHeartbeats 4000000
theorem skips_zero {f : Fo} {n g : Int} : skipsF f 0 n g = false := by
  have h1 : andE (max 0 0) 2 = 0 := by decide
  have h2 : andE (max 0 0) 4 = 0 := by decide
  have h3 : andE (max 0 0) 8 = 0 := by decide
  have h4 : andE (max 0 0) 16 = 0 := by decide
  have h5 : clsE (max 0 0) = 0 := by decide
  unfold skipsF marksF
  rw [h1, h2, h3, h4, h5]
  simp
theorem nxF_zero {f : Fo} {k : Lk} {ls : List Gl} (h0 : k.flags = 0) {y : Int} (hy : 0 ≤ y) : nxF f k ls y = -1 ∨ nxF f k ls y = y + 1 := by
  rw [nxF, nextF]
  split
  · exact .inl rfl
  · generalize ls.length - (max y (-1) + 1).toNat = m
    cases m with
    | zero => exact .inl rfl
    | succ m =>
      have : seesF f k.flags k.set ls (max y (-1) + 1).toNat = true := by rw [seesF, h0, skips_zero]; rfl
      rw [upF, if_pos this]
      exact .inr (by omega)
theorem folF_zero {nx : Int → Int} {ls : List Gl} (hnx : ∀ y, 0 ≤ y → nx y = -1 ∨ nx y = y + 1) : ∀ {ps : List Int} {a : Int} {q : List Int}, 0 ≤ a → folF nx ls a ps = some q → ∀ (j : Nat) (z : Int), q[j]? = some z → z = a + 1 + j
  | [], a, q, _, h, j, z, hz => by
    rw [folF] at h
    cases h
    simp at hz
  | p :: r, a, q, ha, h, j, z, hz => by
    rw [folF] at h
    split at h
    · cases h
    · rename_i hc
      cases hq : folF nx ls (nx a) r with
      | none => rw [hq] at h; cases h
      | some q' =>
        rw [hq] at h
        cases h
        have h5 : nx a = a + 1 := (hnx a ha).resolve_left fun e => hc (.inl e)
        cases j with
        | zero => simp at hz; omega
        | succ j =>
          have := folF_zero hnx (by omega) hq j z (by simpa using hz)
          omega
theorem FindIn.flat {f : Fo} {k : Lk} {ls : List Gl} {x : Int} {y : Lg} {ps : List Int} (h : FindIn f k ls x y ps) (h0 : k.flags = 0) {j : Nat} {z : Int} (hz : ps[j]? = some z) : z = x + j := by
  obtain ⟨q, rfl, h1, _⟩ := h.cons
  cases j with
  | zero => simp at hz; omega
  | succ j =>
    have := folF_zero (fun y hy => nxF_zero h0 hy) h.x0 h1 j z (by simpa using hz)
    omega
theorem FindIn.part {f : Fo} {k : Lk} {ls : List Gl} {x : Int} {y : Lg} {ps : List Int} (h : FindIn f k ls x y ps) {j : Nat} {z : Int} (hz : ps[j + 1]? = some z) : y.parts[j]? = some (glAt ls z).id := by
  obtain ⟨q, rfl, _, h1⟩ := h.cons
  rw [← h1, List.getElem?_map, show q[j]? = some z by simpa using hz]
  rfl
/-! how many glyphs there are -/
theorem MidIn.fin {ps : List Int} {m : List Gl} {num : Int} {x e : Nat} {tot : List Gl} (hinc : ps.Pairwise (· < ·)) : ∀ {n i p : Nat} {out : List Gl}, e - i = n → MidIn ps m num x e tot i p out → ∃ p', MidIn ps m num x e tot e p' tot
  | 0, i, p, out, hn, h => by
    have hi := h.hi
    have heq := h.eq
    rw [hn, midL, List.append_nil] at heq
    obtain rfl : i = e := by omega
    subst heq
    exact ⟨p, h⟩
  | n + 1, i, p, out, hn, h => by
    by_cases hc : ps[p + 1]? = some (i : Int)
    · exact MidIn.fin (n := n) hinc (by omega) (h.hit hinc (by omega) hc)
    · exact MidIn.fin (n := n) hinc (by omega) (h.miss (by omega) hc)
theorem headL_len {f : Fo} {k : Lk} {ls m : List Gl} {x e : Nat} {y : Lg} {ps : List Int} {num : Int} (h : FindIn f k ls (x : Int) y ps) (he : lastL ps + 1 = (e : Int)) (hm : m.length = ls.length) : (headL m y ps num x e).length + y.parts.length = e := by
  have hpos := h.pos
  have hcnt := h.cnt
  have hzero := h.zero
  obtain ⟨hla, hlx, hll⟩ := h.last
  have start : MidIn ps m num x e (headL m y ps num x e) (x + 1) 0 (m.take x ++ [ligG y m x num]) := by
    refine ⟨Nat.le_refl _, by omega, hpos, by simp; omega, ⟨_, hzero, by omega⟩, fun a ha => ?_, rfl⟩
    have := h.lt (show 0 < 0 + 1 by omega) hzero ha
    omega
  obtain ⟨p, hp⟩ := MidIn.fin h.incr rfl start
  have h1 := hp.len
  have h2 := hp.par
  have h3 : p + 1 = ps.length := by
    by_cases h4 : p + 1 < ps.length
    · have h5 := hp.nex ps[p + 1] (List.getElem?_eq_getElem h4)
      have h6 : ps[p + 1] ≤ lastL ps := by
        by_cases h7 : p + 1 = ps.length - 1
        · have : ps[p + 1]? = some (lastL ps) := by rw [h7]; exact hla
          rw [List.getElem?_eq_getElem h4] at this
          have := Option.some.inj this
          omega
        · have := h.lt (show p + 1 < ps.length - 1 by omega) (List.getElem?_eq_getElem h4) hla
          omega
      omega
    · omega
  omega
/-! a row of glyphs that is right -/
theorem allR_iff {ls : List Gl} : ∀ {n i : Nat}, allR ls n i = true ↔ ∀ j, i ≤ j → j < i + n → okR ls j = true
  | 0, i => ⟨fun _ j h1 h2 => by omega, fun _ => rfl⟩
  | n + 1, i => by
    rw [allR, Bool.and_eq_true, allR_iff]
    constructor
    · rintro ⟨h1, h2⟩ j h3 h4
      by_cases h5 : j = i
      · rw [h5]; exact h1
      · exact h2 j (by omega) (by omega)
    · intro h
      exact ⟨h i (Nat.le_refl _) (by omega), fun j h1 h2 => h j (by omega) (by omega)⟩
def SortC (ls : List Gl) : Prop := ∀ i j : Nat, i ≤ j → j < ls.length → (glAt ls (i : Int)).cl ≤ (glAt ls (j : Int)).cl
theorem rightF_sort {ls : List Gl} (h : rightF ls = true) : SortC ls := by
  have hk := allR_iff.1 h
  intro i j hij
  induction j with
  | zero =>
    intro _
    rw [show i = 0 by omega]
    exact Int.le_refl _
  | succ j ih =>
    intro hj
    by_cases he : i = j + 1
    · rw [he]; exact Int.le_refl _
    · have h1 := ih (by omega) (by omega)
      have h2 := hk (j + 1) (by omega) (by omega)
      rw [okR, Bool.and_eq_true, Bool.and_eq_true] at h2
      have h3 := h2.1.1
      rw [show ((j + 1 : Nat) : Int) - 1 = (j : Int) by omega] at h3
      have e : ((j + 1 : Nat) : Int) = (j : Int) + 1 := by omega
      rw [e] at h3 ⊢
      simp at h3
      omega
theorem rightF_of {ls : List Gl} (h1 : SortC ls) (h2 : ∀ g ∈ ls, g.to = -1 ∧ g.hang = -1) : rightF ls = true := by
  refine allR_iff.2 fun j _ hj => ?_
  have hjl : j < ls.length := by omega
  obtain ⟨h3, h4⟩ := h2 _ (List.mem_of_getElem? (glAt_nat hjl))
  rw [okR, h3, h4]
  have hp : placeF (-1) ls.length = true := by simp [placeF]; omega
  rw [hp, Bool.and_true, Bool.and_true]
  cases j with
  | zero => simp
  | succ j =>
    have := h1 j (j + 1) (by omega) hjl
    have e : ((j + 1 : Nat) : Int) = (j : Int) + 1 := by omega
    rw [show ((j + 1 : Nat) : Int) - 1 = (j : Int) by omega]
    rw [e] at this ⊢
    simp
    omega
theorem sortC_pair {ls : List Gl} (h : SortC ls) : (ls.map (·.cl)).Pairwise (· ≤ ·) := by
  rw [List.pairwise_iff_getElem]
  intro i j hi hj hij
  rw [List.length_map] at hi hj
  have := h i j (by omega) hj
  have e1 := glAt_nat hi
  have e2 := glAt_nat hj
  rw [List.getElem?_eq_getElem hi] at e1
  rw [List.getElem?_eq_getElem hj] at e2
  simp only [List.getElem_map]
  rw [Option.some.inj e1, Option.some.inj e2]
  exact this
theorem sortC_of {ls : List Gl} (h : (ls.map (·.cl)).Pairwise (· ≤ ·)) : SortC ls := by
  intro i j hij hj
  by_cases he : i = j
  · rw [he]; exact Int.le_refl _
  · have := List.pairwise_iff_getElem.1 h i j (by simp; omega) (by simp; omega) (by omega)
    have e1 := glAt_nat (show i < ls.length by omega)
    have e2 := glAt_nat hj
    rw [List.getElem?_eq_getElem (by omega)] at e1 e2
    simp only [List.getElem_map] at this
    rw [Option.some.inj e1, Option.some.inj e2] at this
    exact this
theorem rngC_at {c : Int} {i : Nat} : ∀ {n a : Nat} {l : List Gl}, (rngC c n a l)[i]? = if a ≤ i ∧ i < a + n then (l[i]?).map (setC c) else l[i]?
  | 0, a, l => by rw [rngC, if_neg (by omega)]
  | n + 1, a, l => by
    rw [rngC, rngC_at, List.getElem?_set]
    by_cases he : a = i
    · subst he
      rw [if_neg (by omega), if_pos rfl]
      have hc : a ≤ a ∧ a < a + (n + 1) := by omega
      by_cases hl : a < l.length
      · rw [if_pos hl, if_pos hc, glAt_nat hl]; rfl
      · rw [if_neg hl, if_pos hc, List.getElem?_eq_none (by omega)]; rfl
    · rw [if_neg he]
      by_cases hc : a + 1 ≤ i ∧ i < a + 1 + n
      · rw [if_pos hc, if_pos (by omega)]
      · rw [if_neg hc, if_neg (by omega)]
theorem minC_id {n : Int} : ∀ {r : List Gl}, (∀ h ∈ r, n ≤ h.cl) → minC n r = n
  | [], _ => rfl
  | g :: r, h => by
    have e : minC n (g :: r) = minC (min n g.cl) r := rfl
    have h1 := h g (by simp)
    rw [e, show min n g.cl = n by omega]
    exact minC_id fun g' hg => h g' (by simp [hg])
theorem mergeF_sort {ls : List Gl} (h : SortC ls) {x y : Int} : SortC (mergeF ls x y) := by
  rw [mergeF]
  split
  · rename_i hc
    obtain ⟨x0, xy, yl⟩ := hc
    obtain ⟨a, rfl⟩ : ∃ a : Nat, x = a := ⟨x.toNat, by omega⟩
    obtain ⟨b, rfl⟩ : ∃ b : Nat, y = b := ⟨y.toNat, by omega⟩
    rw [Int.toNat_natCast, Int.toNat_natCast, mergeN, mergeG]
    have hmin : leastF ((ls.take b).drop a) = (glAt ls (a : Int)).cl := by
      have ha : a < (ls.take b).length := by simp; omega
      have e1 : (ls.take b)[a] = glAt ls (a : Int) := by
        have := glAt_nat (ls := ls) (i := a) (by omega)
        rw [List.getElem?_eq_getElem (by omega)] at this
        rw [List.getElem_take]
        exact Option.some.inj this
      rw [List.drop_eq_getElem_cons ha, leastF, e1]
      refine minC_id fun g hg => ?_
      obtain ⟨i, hi, rfl⟩ := List.getElem_of_mem hg
      simp only [List.length_drop, List.length_take] at hi
      have hil : a + 1 + i < ls.length := by omega
      have := h a (a + 1 + i) (by omega) hil
      have e2 := glAt_nat hil
      rw [List.getElem?_eq_getElem hil] at e2
      rw [List.getElem_drop, List.getElem_take, Option.some.inj e2]
      exact this
    have hd := @dnM_le ls (glAt ls (a : Int)).cl a
    have hu := @upM_in ls (glAt ls ((b : Int) - 1)).cl (ls.length - b) b
    rw [hmin]
    generalize dnM ls (glAt ls (a : Int)).cl a = d at *
    generalize upM ls (glAt ls ((b : Int) - 1)).cl (ls.length - b) b = u at *
    have hcl : ∀ i : Nat, i < ls.length → (glAt (rngC (glAt ls (a : Int)).cl (u - d) d ls) (i : Int)).cl = if d ≤ i ∧ i < u then (glAt ls (a : Int)).cl else (glAt ls (i : Int)).cl := by
      intro i hi
      have e := @rngC_at (glAt ls (a : Int)).cl i (u - d) d ls
      rw [show glAt (rngC (glAt ls (a : Int)).cl (u - d) d ls) (i : Int) = ((rngC (glAt ls (a : Int)).cl (u - d) d ls)[i]?).getD ⟨0, 0, 0, 0, 0, 0, 0, 0, 0, 0⟩ from rfl, e, glAt_nat hi]
      by_cases hc : d ≤ i ∧ i < u
      · rw [if_pos (by omega), if_pos hc]; rfl
      · rw [if_neg (by omega), if_neg hc]; rfl
    intro i j hij hj
    rw [rngC_len] at hj
    rw [hcl i (by omega), hcl j hj]
    by_cases h1 : d ≤ i ∧ i < u
    · rw [if_pos h1]
      by_cases h2 : d ≤ j ∧ j < u
      · rw [if_pos h2]; exact Int.le_refl _
      · rw [if_neg h2]; exact h a j (by omega) hj
    · rw [if_neg h1]
      by_cases h2 : d ≤ j ∧ j < u
      · rw [if_pos h2]; exact h i a (by omega) (by omega)
      · rw [if_neg h2]; exact h i j hij hj
  · exact h
theorem midL_sub {m : List Gl} {ps : List Int} {num : Int} : ∀ {n i p : Nat}, i + n ≤ m.length → ((midL m ps num n i p).map (·.cl)).Sublist (((m.drop i).take n).map (·.cl))
  | 0, i, p, _ => by simp [midL]
  | n + 1, i, p, h => by
    have hi : i < m.length := by omega
    have e : m[i] = glAt m (i : Int) := by
      have := glAt_nat hi
      rw [List.getElem?_eq_getElem hi] at this
      exact Option.some.inj this
    rw [midL, List.drop_eq_getElem_cons hi, List.take_succ_cons, List.map_cons, e]
    split
    · exact (midL_sub (by omega)).cons _
    · exact (midL_sub (by omega)).cons_cons _
theorem midL_all {P : Gl → Prop} {m : List Gl} {ps : List Int} {num : Int} (hm : ∀ g ∈ m, P g) (hP : ∀ g p, P g → P (setL num p g)) : ∀ {n i p : Nat}, i + n ≤ m.length → ∀ g ∈ midL m ps num n i p, P g
  | 0, i, p, _, g, hg => by simp [midL] at hg
  | n + 1, i, p, h, g, hg => by
    rw [midL] at hg
    split at hg
    · exact midL_all hm hP (by omega) g hg
    · rcases List.mem_cons.1 hg with rfl | hg
      · exact hP _ _ (hm _ (List.mem_of_getElem? (glAt_nat (show i < m.length by omega))))
      · exact midL_all hm hP (by omega) g hg
theorem headL_right {m : List Gl} {x e : Nat} {y : Lg} {ps : List Int} {num : Int} (hx : x < e) (he : e ≤ m.length) (hs : SortC m) (hm : ∀ g ∈ m, g.to = -1 ∧ g.hang = -1) : rightF (headL m y ps num x e ++ m.drop e) = true := by
  refine rightF_of (sortC_of ?_) ?_
  · refine List.Pairwise.sublist ?_ (sortC_pair hs)
    have hxm : x < m.length := by omega
    have e1 : m = m.take x ++ (glAt m (x : Int) :: ((m.drop (x + 1)).take (e - (x + 1)) ++ m.drop e)) := by
      have e2 : m[x] = glAt m (x : Int) := by
        have := glAt_nat hxm
        rw [List.getElem?_eq_getElem hxm] at this
        exact Option.some.inj this
      have e3 : (m.drop (x + 1)).take (e - (x + 1)) ++ m.drop e = m.drop (x + 1) := by
        have := List.take_append_drop (e - (x + 1)) (m.drop (x + 1))
        rw [List.drop_drop, show x + 1 + (e - (x + 1)) = e by omega] at this
        exact this
      rw [e3, ← e2, ← List.drop_eq_getElem_cons hxm, List.take_append_drop]
    rw [headL]
    conv => rhs; rw [e1]
    simp only [List.map_append, List.map_cons, List.append_assoc, List.map_nil, List.cons_append, List.nil_append]
    refine (List.Sublist.refl _).append (List.Sublist.cons_cons _ ((midL_sub (by omega)).append (List.Sublist.refl _)))
  · intro g hg
    rw [headL] at hg
    rcases List.mem_append.1 hg with hg | hg
    · rcases List.mem_append.1 hg with hg | hg
      · rcases List.mem_append.1 hg with hg | hg
        · exact hm g (List.mem_of_mem_take hg)
        · rw [List.mem_singleton.1 hg]; exact ⟨rfl, rfl⟩
      · exact midL_all hm (fun g p h => h) (by omega) g hg
    · exact hm g (List.mem_of_mem_drop hg)
theorem mergeF_all {P : Int × Int → Prop} {ls : List Gl} (h : ∀ g ∈ ls, P (g.to, g.hang)) {x y : Int} : ∀ g ∈ mergeF ls x y, P (g.to, g.hang) := by
  intro g hg
  have h1 : (g.to, g.hang) ∈ (mergeF ls x y).map (fun g => (g.to, g.hang)) := List.mem_map.2 ⟨g, hg, rfl⟩
  rw [mergeF_map (fun _ _ => rfl)] at h1
  obtain ⟨g', h2, h3⟩ := List.mem_map.1 h1
  rw [← h3]
  exact h g' h2
end Go.Proofs.Ytbllbkhkmngclaa.W
