/-
  The abstract machine, part 29: contracts with rows: weaker results, rows that are frozen ahead of a call, calls within a larger memory.
-/
import Derived.Test.YtjgodncjlffhjaaVm28
namespace Go.Vm
open Go Go.RowKit

theorem CallA.weak {P : Program} {f : Nat} {args : List S} {H : Heap} {K K2 : S → Heap → Prop} (h : CallA P f args H K)
    (hK : ∀ s H', K s H' → ∃ (l : List Nat) (s2 : S) (H2 : Heap), l.Nodup ∧ l.take H.length = List.range H.length ∧ (s2.inb l.length = true ∧ s2.ren (pick l) = s) ∧ keepH H' l.length (pick l) l H2 ∧ K2 s2 H2) : CallA P f args H K2 := by
  refine ⟨h.1, fun w μ cargs hrep hl ha => (h.2 w μ cargs hrep hl ha).mono ?_⟩
  rintro e w' ⟨v, s, H', μ', rfl, hk, st⟩
  obtain ⟨l, s2, H2, h1, h2, h3, h4, h5⟩ := hK _ _ hk
  obtain ⟨g1, g2⟩ := keepH_get h4
  have hw : Weak H.length [(0, s)] H' [(0, s2)] H2 (pick l) := by
    refine ⟨fun i j hi hj => pick_inj h1 (by omega) (by omega), fun i hi => ?_, fun p hp => ?_, fun b r' hb => ?_⟩
    · have hlen := congrArg List.length h2
      simp only [List.length_take, List.length_range] at hlen
      refine ⟨by omega, ?_⟩
      have := congrArg (fun q : List Nat => q[i]?) h2
      simp only [List.getElem?_take, hi, if_true, List.getElem?_range hi] at this
      simp [pick, List.getD_eq_getElem?_getD, this]
    · simp only [List.mem_singleton] at hp
      subst hp
      rw [← g1]
      exact ⟨h3.1, by rw [h3.2]; rfl⟩
    · have := g2 b r' hb
      rw [← g1]
      cases hg : H'[pick l b]? with
      | none => rw [hg] at this; exact .inl this
      | some r =>
        rw [hg] at this
        exact this.imp id fun h => ⟨r, rfl, h⟩
  obtain ⟨k1, k2⟩ := st.heap.weak hw
  refine ⟨v, s2, H2, μ'.re (pick l) H2.length, rfl, h5, k1, ?_, fun b loc hb => ?_, st.xo, st.fr, fun k hk' => st.own k (k2 k hk')⟩
  · exact st.val.unren (N := H2.length) (fun k hk' => hk'.imp (k2 k) id) (fun b loc hb hloc => by simp [Mu.re, hb, hloc]) _ h3.2.symm (by rw [← g1]; exact h3.1)
  · have hlt := hrep.dom b loc hb
    obtain ⟨h6, h7⟩ := hw.fix b hlt
    simp [Mu.re, h6, h7, st.ext b loc hb]

/-- a result without room gets a row of its own name -/
theorem CallA.virt {P : Program} {f : Nat} {args : List S} {H : Heap} {K : S → Heap → Prop} (size : Nat) (hs : 0 < size) (h : CallA P f args H fun s H' => K s H' ∨ (s = .empty ∧ K (.rsl H'.length 0 0) (H' ++ [⟨[], size, .live⟩]))) : CallA P f args H K := by
  refine ⟨h.1, fun w μ cargs hrep hl ha => (h.2 w μ cargs hrep hl ha).mono ?_⟩
  rintro e w' ⟨v, s, H', μ', rfl, hk | ⟨rfl, hk⟩, st⟩
  · exact ⟨v, s, H', μ', rfl, hk, st⟩
  · obtain ⟨ad, hv, had⟩ := st.val.empty_inv
    obtain ⟨μ2, st2⟩ := virt_step st.heap hs (H1 := H') rfl (fun _ _ h _ => h) had
    refine ⟨v, _, _, μ2, rfl, hk, st2.heap, hv ▸ st2.val, fun b l hb => st2.ext b l (st.ext b l hb), st2.xo.trans st.xo, ?_, fun k hk' => ?_⟩
    · refine ⟨st2.fr.os.trans st.fr.os, st2.fr.tape.trans st.fr.tape, st2.fr.output.trans st.fr.output, Nat.le_trans st.fr.size st2.fr.size, fun k hk' hx => ?_⟩
      rw [st2.fr.keep k (Nat.lt_of_lt_of_le hk' st.fr.size) (fun ho => by rcases st.own k ho with h1 | h1; exact hx h1; omega)]
      exact st.fr.keep k hk' hx
    · rcases st2.own k hk' with h1 | h1
      · exact st.own k h1
      · exact .inr (Nat.le_trans st.fr.size h1)

/-! rows that are written no more -/
def frz1 (b : Nat) (H : Heap) : Heap := H.mapIdx fun i r => if i = b ∧ r.st = .live then ⟨r.es, r.size, .frozen⟩ else r
theorem frz1_get {b : Nat} {H : Heap} {i : Nat} {r : Row} (h : (frz1 b H)[i]? = some r) : ∃ r0, H[i]? = some r0 ∧ r.es = r0.es ∧ r.size = r0.size ∧ (r.st = .live → r = r0) ∧ (r.st = .frozen → r0.st = .frozen ∨ r0.st = .live) ∧ (r.st = .dead ↔ r0.st = .dead) := by
  simp only [frz1, List.getElem?_mapIdx] at h
  obtain ⟨r0, h1, rfl⟩ := Option.map_eq_some_iff.1 h
  refine ⟨r0, h1, ?_⟩
  split
  · rename_i hc; simp [hc.2]
  · simp; intro h; exact .inl h
theorem owned_frz1 {μ : Mu} {b : Nat} {H : Heap} {k : Nat} (h : owned μ (frz1 b H) k) : owned μ H k := by
  obtain ⟨i, r, l, hb, hst, hl, hv, rfl⟩ := h
  obtain ⟨r0, h1, _, _, h4, _⟩ := frz1_get hb
  obtain rfl := h4 hst
  exact ⟨i, r, l, h1, hst, hl, hv, rfl⟩
theorem HRep.frz1 {w : World} {μ : Mu} {H : Heap} {b : Nat} (h : HRep w μ H) : HRep w μ (frz1 b H) := by
  have hX : ∀ k, excl μ (Vm.frz1 b H) k → excl μ H k := fun k hk => hk.imp owned_frz1 id
  refine ⟨fun i l hl => by have := h.dom i l hl; simpa [Vm.frz1] using this, fun k hk => ⟨(h.xo k hk).1, fun h2 => (h.xo k hk).2 (owned_frz1 h2)⟩, ?_, ?_⟩
  · intro i r l hb hd hl
    obtain ⟨r0, h1, h2, h3, h4, h5, h6⟩ := frz1_get hb
    have hd0 : r0.st ≠ .dead := fun e => hd (h6.2 e)
    have rr := h.row i r0 l h1 hd0 hl
    refine ⟨by rw [h3, rr.size], rr.pos, fun hv => by rw [h2]; exact rr.virt hv, fun e he => rr.lens e (by rw [← h2]; exact he), fun e he => rr.cellOk e (by rw [← h2]; exact he), fun hv => by rw [h2]; exact rr.fits hv, fun hv i j hi hj => ?_, fun hv hst => ?_, fun hv hst hne hx => ?_⟩
    · rw [h2] at hi ⊢
      obtain ⟨v, g1, g2⟩ := rr.cells hv i j hi hj
      exact ⟨v, g1, g2.keeps (fun _ _ _ => rfl) (fun k hk => .inl (hX k hk)) (fun _ _ h => h)⟩
    · obtain rfl := h4 hst
      exact rr.live hv hst
    · rcases h5 hst with h7 | h7
      · exact rr.frozen hv h7 (by rw [← h2]; exact hne) (hX _ hx)
      · -- the row was live: its block is no more among those that are written
        rcases hx with ⟨i', r', l', g1, g2, g3, g4, g5⟩ | hx
        · obtain ⟨r0', k1, _, _, k4, _⟩ := frz1_get g1
          obtain rfl := k4 g2
          have := h.inj i' i r' r0 l' l k1 h1 g2 h7 g3 hl g4 hv g5
          subst this
          rw [hb] at g1
          cases g1
          rw [hst] at g2; cases g2
        · exact (h.xo _ hx).2 ⟨i, r0, l, h1, h7, hl, hv, rfl⟩
  · intro i i' r r' l l' hb hb' hst hst'
    obtain ⟨r0, h1, _, _, h4, _⟩ := frz1_get hb
    obtain ⟨r0', h1', _, _, h4', _⟩ := frz1_get hb'
    obtain rfl := h4 hst
    obtain rfl := h4' hst'
    exact h.inj i i' r r' l l' h1 h1' hst hst'
theorem CallA.frz {P : Program} {f : Nat} {args : List S} {H : Heap} {K : S → Heap → Prop} (b : Nat) (h : CallA P f args (frz1 b H) K) : CallA P f args H K := by
  refine ⟨h.1, fun w μ cargs hrep hl ha => (h.2 w μ cargs hrep.frz1 hl (fun i hi => (ha i hi).keeps (fun _ _ _ => rfl) (fun k hk => .inl (hk.imp owned_frz1 id)) (fun _ _ h => h))).mono ?_⟩
  rintro e w' ⟨v, s, H', μ', rfl, hk, st⟩
  exact ⟨v, s, H', μ', rfl, hk, st.heap, st.val, st.ext, st.xo, ⟨st.fr.os, st.fr.tape, st.fr.output, st.fr.size, fun k hk hx => st.fr.keep k hk fun ho => hx (owned_frz1 ho)⟩, fun k hk => (st.own k hk).imp owned_frz1 id⟩
theorem onC_frz {P : Program} {f : Nat} {args : List S} {H : Heap} {K : S → Heap → Prop} (b : Nat) (h : @onC P f args (frz1 b H) ⟨K⟩) : @onC P f args H ⟨K⟩ := CallA.frz b h
theorem frz1_nil {b : Nat} : frz1 b [] = [] := rfl
theorem frz1_zero {r : Row} {H : Heap} : frz1 0 (r :: H) = (if r.st = .live then ⟨r.es, r.size, .frozen⟩ else r) :: H := by
  simp only [frz1, List.mapIdx_cons, true_and, Nat.add_eq_zero_iff, Nat.one_ne_zero, and_false, false_and, if_false]
  congr 1
  apply List.ext_getElem?
  intro i
  simp
theorem frz1_succ {b : Nat} {r : Row} {H : Heap} : frz1 (b + 1) (r :: H) = r :: frz1 b H := by
  simp only [frz1, List.mapIdx_cons, Nat.add_right_cancel_iff]
  simp

/-! a call within a larger memory -/
theorem onC_fr {P : Program} {f : Nat} {args0 : List S} {H0 : Heap} {s0 : S} {H0' : Heap} (h : CallA P f args0 H0 fun s H' => s = s0 ∧ H' = H0') {H : Heap} {args : List S} {K : S → Heap → Prop} (l : List Nat) (hl : l.Nodup)
    (hH : sameH H l.length (pick l) l H0) (hargs : args = args0.map (S.ren (pick l))) (hin : args0.all (S.inb l.length) = true) (hle : l.length ≤ H0'.length)
    (hK : K (s0.ren (ext l H.length)) (emb l H H0')) : @onC P f args H ⟨K⟩ :=
  h.frame l hl hH hargs (fun a ha => List.all_eq_true.1 hin a ha) (by rintro _ _ ⟨rfl, rfl⟩; exact ⟨hle, hK⟩)
theorem ext_eq {l : List Nat} {N i : Nat} : ext l N i = if i < l.length then pick l i else N + (i - l.length) := rfl
theorem emb_eq {l : List Nat} {H H' : Heap} : emb l H H' = setAll (ext l H.length) H l H' ++ (H'.drop l.length).map (embRow (ext l H.length)) := rfl
theorem setAll_nil {ρ : Nat → Nat} {H H' : Heap} : setAll ρ H [] H' = H := by cases H' <;> rfl
theorem setAll_cons {ρ : Nat → Nat} {H : Heap} {k : Nat} {l : List Nat} {r : Row} {q : Heap} : setAll ρ H (k :: l) (r :: q) = (setAll ρ H l q).set k (embRow ρ r) := rfl
theorem embRow_eq {ρ : Nat → Nat} {es : List S} {m : Nat} {st : RowSt} : embRow ρ ⟨es, m, st⟩ = ⟨es.map (S.ren ρ), m, st⟩ := rfl
end Go.Vm
