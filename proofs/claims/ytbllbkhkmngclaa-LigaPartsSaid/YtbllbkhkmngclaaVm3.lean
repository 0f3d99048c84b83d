/-
  The abstract machine, part 3: lemmas on memory: a step of the machine keeps the relation.
-/
import Derived.Test.YtbllbkhkmngclaaVm2
namespace Go.Vm
open Go Go.RowKit

theorem PRep.one {w : World} {X : Nat → Prop} {v : Value} {d : V} (h : PRep w X v d) (hd : d.isCell = true) : v.cells = #[v] ∧ d.cells = [d] ∧ v.oneCell' = true := by
  cases h <;> simp_all [Value.cells, V.isCell, V.cells, Value.oneCell']
theorem Rep.one {w : World} {X : Nat → Prop} {μ : Mu} {v : Value} {s : S} (h : Rep w X μ v s) (hs : s.isCell = true) : v.cells = #[v] ∧ s.cells = [s] ∧ v.oneCell' = true := by
  cases h with
  | pure v d h =>
    obtain ⟨h1, h2, h3⟩ := h.one (by simpa [S.isCell] using hs)
    exact ⟨h1, by simp [S.cells, h2], h3⟩
  | _ => simp_all [S.isCell, S.cells, Value.cells, Value.oneCell']

theorem Rep.cells {w : World} {X : Nat → Prop} {μ : Mu} {v : Value} {s : S} (h : Rep w X μ v s) (hs : s.okv = true) :
    v.cells.size = s.cells.length ∧ ∀ i, i < s.cells.length → Rep w X μ (v.cells.getD i undef) (s.cells.getD i .dead) := by
  by_cases hc : s.isCell = true
  · obtain ⟨h1, h2, _⟩ := h.one hc
    rw [h1, h2]
    refine ⟨rfl, fun i hi => ?_⟩
    obtain rfl : i = 0 := by simpa using hi
    exact h
  · cases h with
    | dead => simp [S.okv] at hs
    | tup => simp [S.okv] at hs
    | agg cs ss hl hc h => exact ⟨hl, h⟩
    | pure v d h =>
      cases h with
      | agg cs vs hl hc h =>
        refine ⟨by simp [Value.cells, S.cells, V.cells, hl], fun i hi => ?_⟩
        have hi' : i < vs.length := by simpa [S.cells, V.cells] using hi
        have := h i hi'
        simp only [Value.cells, S.cells, V.cells]
        rw [List.getD_eq_getElem?_getD, List.getElem?_map]
        rw [List.getD_eq_getElem?_getD] at this
        rw [List.getElem?_eq_getElem hi'] at this ⊢
        exact .pure _ _ (by simpa using this)
      | _ => simp [S.isCell, V.isCell] at hc
    | _ => simp [S.isCell] at hc

/-- the cells of a value that is no dead one are each one cell -/
theorem Rep.cellsOk {w : World} {X : Nat → Prop} {μ : Mu} {v : Value} {s : S} (h : Rep w X μ v s) (hs : s.okv = true) : ∀ c ∈ s.cells, c.isCell = true := by
  by_cases hc : s.isCell = true
  · obtain ⟨_, h2, _⟩ := h.one hc
    rw [h2]
    simp [hc]
  · cases h with
    | dead => simp [S.okv] at hs
    | tup => simp [S.okv] at hs
    | agg cs ss hl hc' h => exact hc'
    | pure v d h =>
      cases h with
      | agg cs vs hl hc' h =>
        intro c hcm
        simp only [S.cells, V.cells, List.mem_map] at hcm
        obtain ⟨x, hx, rfl⟩ := hcm
        exact hc' x hx
      | _ => simp [S.isCell, V.isCell] at hc
    | _ => simp [S.isCell] at hc
theorem S.okv_pos {s : S} (h : s.okv = true) : 0 < s.cells.length := by
  cases s <;> simp_all [S.okv, S.cells, List.length_pos_iff]

theorem Keeps.excl {μ : Mu} {H : Heap} {w w' : World} (h : Keeps (owned μ H) w w') : Keeps (excl μ H) w w' := fun k hk hx => h k hk (fun ho => hx (.inl ho))
theorem excl_of {μ μ' : Mu} {H H' : Heap} {n : Nat} (ho : ∀ k, owned μ' H' k → owned μ H k ∨ n ≤ k) (hxo : μ'.xo = μ.xo) : ∀ k, excl μ' H' k → excl μ H k ∨ n ≤ k := by
  rintro k (h | h)
  · exact (ho k h).imp .inl id
  · exact .inl (.inr (by rw [← hxo]; exact h))

/-- The general step on own rows: each row that is not dead is either told anew, or untouched. -/
theorem HRep.alter {w w' : World} {μ μ' : Mu} {H H' : Heap} (h : HRep w μ H) (hk : Keeps (owned μ H) w w') (ho : ∀ k, owned μ' H' k → owned μ H k ∨ w.heap.size ≤ k)
    (hμ : ∀ (b : Nat) (l : Loc), μ b = some l → μ' b = some l) (hxo : μ'.xo = μ.xo) (hgrow : w.heap.size ≤ w'.heap.size) (hlen : ∀ (b : Nat) (l : Loc), μ' b = some l → b < H'.length)
    (hrow : ∀ (b : Nat) (r : Row) (l : Loc), H'[b]? = some r → r.st ≠ .dead → μ' b = some l → RowRep w' (excl μ' H') μ' l r ∨ (H[b]? = some r ∧ μ b = some l ∧ (r.st = .live → l.virt = false → w'.heap[l.blk]? = w.heap[l.blk]?)))
    (hinj : ∀ (b b' : Nat) (r r' : Row) (l l' : Loc), H'[b]? = some r → H'[b']? = some r' → r.st = .live → r'.st = .live → μ' b = some l → μ' b' = some l' → l.virt = false → l'.virt = false → l.blk = l'.blk → b = b') :
    HRep w' μ' H' := by
  refine ⟨hlen, fun k hk' => ?_, fun b r l hb hd hl => ?_, hinj⟩
  · rw [hxo] at hk'
    obtain ⟨h1, h2⟩ := h.xo k hk'
    exact ⟨by omega, fun h3 => by rcases ho k h3 with h4 | h4; exact h2 h4; omega⟩
  rcases hrow b r l hb hd hl with hr | ⟨hb0, hl0, hlive⟩
  · exact hr
  · have old := h.row b r l hb0 hd hl0
    have hfz : l.virt = false → r.st = .frozen → r.es ≠ [] → ¬ excl μ' H' l.blk := by
      intro hv hst hne hx
      rcases excl_of ho hxo _ hx with h1 | h1
      · exact old.frozen hv hst hne h1
      · have h0 : 0 < r.es.length := List.length_pos_iff.2 hne
        obtain ⟨v, hc, _⟩ := old.cells hv 0 0 h0 old.pos
        have := World.block_lt_of_cell? w _ hc
        simp at this
        omega
    refine ⟨old.size, old.pos, old.virt, old.lens, old.cellOk, old.fits, ?_, ?_, hfz⟩
    · intro hv i j hi hj
      obtain ⟨v, hc, hr⟩ := old.cells hv i j hi hj
      refine ⟨v, ?_, hr.keeps hk.excl (excl_of ho hxo) hμ⟩
      cases hst : r.st with
      | dead => exact absurd hst hd
      | live => rw [World.cell?_of_block (w := w) (hlive hst hv)]; exact hc
      | frozen => exact hk.excl.cell (old.frozen hv hst (by intro e; rw [e] at hi; simp at hi)) hc
    · intro hv hst
      obtain ⟨c, t, hc, hs⟩ := old.live hv hst
      exact ⟨c, t, by rw [hlive hst hv]; exact hc, hs⟩

theorem live_lt {w : World} {μ : Mu} {H : Heap} (h : HRep w μ H) {b : Nat} {r : Row} {l : Loc} (hb : H[b]? = some r) (hst : r.st = .live) (hl : μ b = some l) (hv : l.virt = false) : l.blk < w.heap.size := by
  obtain ⟨c, t, hc, _⟩ := (h.row b r l hb (by rw [hst]; decide) hl).live hv hst
  exact (Array.getElem?_eq_some_iff.1 hc).1
theorem owned_lt {w : World} {μ : Mu} {H : Heap} (h : HRep w μ H) {k : Nat} (hk : owned μ H k) : k < w.heap.size := by
  obtain ⟨b, r, l, hb, hst, hl, hv, rfl⟩ := hk
  exact live_lt h hb hst hl hv

theorem get_push {α : Type} {l : List α} {x y : α} {b : Nat} (h : (l ++ [x])[b]? = some y) : l[b]? = some y ∨ (b = l.length ∧ y = x) := by
  rw [List.getElem?_append] at h
  split at h
  · exact .inl h
  · rename_i hb
    right
    have : b - l.length = 0 := by
      rcases Nat.eq_zero_or_pos (b - l.length) with h0 | h0
      · exact h0
      · rw [List.getElem?_cons] at h; simp [show b - l.length ≠ 0 by omega] at h
    rw [this] at h
    simp at h
    exact ⟨by omega, h.symm⟩
theorem get_push_old {α : Type} {l : List α} {x y : α} {b : Nat} (h : l[b]? = some y) : (l ++ [x])[b]? = some y := by
  rw [List.getElem?_append_left (List.getElem?_eq_some_iff.1 h).1]; exact h

theorem Keeps.alloc (X : Nat → Prop) (w : World) (o : Obj) : Keeps X w (w.alloc o) := fun k hk _ => Below.heap_alloc w o k hk
theorem Fr.alloc (X : Nat → Prop) (w : World) (o : Obj) : Fr X w (w.alloc o) := ⟨rfl, rfl, rfl, by simp, Keeps.alloc X w o⟩

/-- one place more -/
def Mu.add (μ : Mu) (b : Nat) (l : Loc) : Mu := ⟨fun k => if k = b then some l else μ k, μ.xo⟩
theorem Mu.add_self (μ : Mu) (b : Nat) (l : Loc) : μ.add b l b = some l := by simp [Mu.add]
theorem Mu.add_ne {μ : Mu} {b k : Nat} {l : Loc} (h : k ≠ b) : μ.add b l k = μ k := by simp [Mu.add, h]

/-- A new row, under a name that has no place yet. -/
theorem HRep.push {w : World} {μ : Mu} {H : Heap} (h : HRep w μ H) {H1 : Heap} {nb : Nat} (hnb : μ nb = none)
    (c : Array Value) (t : TypeId) (es : List S) (size : Nat) (hN : H1[nb]? = some ⟨es, size, .live⟩) (hl1 : H.length ≤ H1.length) (h1 : ∀ (b : Nat) (r : Row), b ≠ nb → H1[b]? = some r → r.st ≠ .dead → H[b]? = some r)
    (hpos : 0 < size) (hlen : ∀ e ∈ es, e.cells.length = size) (hok : ∀ e ∈ es, ∀ s ∈ e.cells, s.isCell = true)
    (hsz : es.length * size ≤ c.size) (hrep : ∀ i j, i < es.length → j < size → Rep w (excl μ H) μ (c.getD (i * size + j) undef) ((es.getD i .dead).cells.getD j .dead)) :
    HRep (w.alloc (.cells c t)) (μ.add nb ⟨w.heap.size, 0, size, c.size, false⟩) H1 ∧
    (∀ k, owned (μ.add nb ⟨w.heap.size, 0, size, c.size, false⟩) H1 k → owned μ H k ∨ w.heap.size ≤ k) ∧
    (∀ (b : Nat) (l : Loc), μ b = some l → (μ.add nb ⟨w.heap.size, 0, size, c.size, false⟩) b = some l) := by
  have hμ : ∀ (b : Nat) (l : Loc), μ b = some l → (μ.add nb (⟨w.heap.size, 0, size, c.size, false⟩ : Loc)) b = some l := by
    intro b l hb
    rw [Mu.add_ne (by rintro rfl; rw [hnb] at hb; cases hb)]
    exact hb
  have hlocOf : ∀ (b : Nat) (l : Loc), (μ.add nb (⟨w.heap.size, 0, size, c.size, false⟩ : Loc)) b = some l → b ≠ nb → μ b = some l := by
    intro b l hb hne
    rw [Mu.add_ne hne] at hb
    exact hb
  have hlocNew : ∀ (l : Loc), (μ.add nb (⟨w.heap.size, 0, size, c.size, false⟩ : Loc)) nb = some l → l = ⟨w.heap.size, 0, size, c.size, false⟩ := by
    intro l hb
    rw [Mu.add_self] at hb
    exact (Option.some.inj hb).symm
  have ho : ∀ k, owned (μ.add nb (⟨w.heap.size, 0, size, c.size, false⟩ : Loc)) H1 k → owned μ H k ∨ w.heap.size ≤ k := by
    rintro k ⟨b, r, l, hb, hst, hl, hv, rfl⟩
    by_cases hne : b = nb
    · subst hne
      rw [hlocNew l hl]; exact .inr (Nat.le_refl _)
    · exact .inl ⟨b, r, l, h1 b r hne hb (by rw [hst]; decide), hst, hlocOf b l hl hne, hv, rfl⟩
  refine ⟨h.alter (Keeps.alloc _ w _) ho hμ rfl (by simp) ?_ ?_ ?_, ho, hμ⟩
  · intro b l hb
    by_cases hne : b = nb
    · subst hne; exact (List.getElem?_eq_some_iff.1 hN).1
    · exact Nat.lt_of_lt_of_le (h.dom b l (hlocOf b l hb hne)) hl1
  · intro b r l hb hd hl
    by_cases hne : b = nb
    · subst hne
      rw [hN] at hb
      cases hb
      rw [hlocNew l hl]
      refine .inl ⟨rfl, hpos, fun hv => by simp at hv, hlen, hok, fun _ => by simpa using hsz, ?_, ?_, ?_⟩
      · intro _ i j hi hj
        have hi : i < es.length := hi
        have hj : j < size := hj
        have hlt : i * size + j < c.size := by
          have : (i + 1) * size ≤ es.length * size := Nat.mul_le_mul_right _ hi
          rw [Nat.add_mul] at this
          omega
        refine ⟨c.getD (i * size + j) undef, ?_, (hrep i j hi hj).keeps (Keeps.alloc _ w _) (excl_of ho rfl) hμ⟩
        simp only [Nat.zero_add]
        rw [World.cell?_alloc_new]
        simp [Array.getD_eq_getD_getElem?, Array.getElem?_eq_getElem hlt]
      · intro _ _
        exact ⟨c, t, heap_alloc_new w _, rfl⟩
      · intro _ hst
        simp at hst
    · have hb0 := h1 b r hne hb hd
      refine .inr ⟨hb0, hlocOf b l hl hne, fun hst hv => ?_⟩
      exact Below.heap_alloc w _ _ (live_lt h hb0 hst (hlocOf b l hl hne) hv)
  · intro b b' r r' l l' hb hb' hst hst' hl hl' hv hv' heq
    by_cases hne : b = nb <;> by_cases hne' : b' = nb
    · rw [hne, hne']
    · subst hne
      have := live_lt h (h1 b' r' hne' hb' (by rw [hst']; decide)) hst' (hlocOf b' l' hl' hne') hv'
      rw [hlocNew l hl] at heq
      simp at heq
      omega
    · subst hne'
      have := live_lt h (h1 b r hne hb (by rw [hst]; decide)) hst (hlocOf b l hl hne) hv
      rw [hlocNew l' hl'] at heq
      simp at heq
      omega
    · exact h.inj b b' r r' l l' (h1 b r hne hb (by rw [hst]; decide)) (h1 b' r' hne' hb' (by rw [hst']; decide)) hst hst' (hlocOf b l hl hne) (hlocOf b' l' hl' hne') hv hv' heq

theorem HRep.fresh {w : World} {μ : Mu} {H : Heap} (h : HRep w μ H) : μ H.length = none := by
  cases hb : μ H.length with
  | none => rfl
  | some l => exact absurd (h.dom _ l hb) (Nat.lt_irrefl _)

theorem Rel.step {w0 : World} {X0 : Nat → Prop} {μ0 : Mu} {n : Nat} {env : Env} {H H' : Heap} {a : Act} {w w' : World} {μ μ' : Mu} {v : Value} {s : S}
    (h : Rel w0 X0 μ0 n env H a w μ) (st : Step w μ H w' μ' H' v s) (d : Nat) (hd : d < n) : Rel w0 X0 μ0 n ((d, s) :: env) H' (a.put (some d) v) w' μ' := by
  refine ⟨by simp [Act.put, h.tmps], h.defers, fun d' => ?_, st.heap, ?_, ?_, fun b l hb => st.ext b l (h.pre b l hb), st.xo.trans h.xo⟩
  · simp only [Act.put, Env.get_cons]
    by_cases hdd : d = d'
    · subst hdd
      rw [if_pos rfl]
      have : (a.tmps.setIfInBounds d v).getD d undef = v := by simp [Array.getD_eq_getD_getElem?, h.tmps, hd]
      rw [this]
      exact st.val
    · rw [if_neg hdd]
      have : (a.tmps.setIfInBounds d v).getD d' undef = a.tmps.getD d' undef := by simp [Array.getD_eq_getD_getElem?, Array.getElem?_setIfInBounds_ne hdd]
      rw [this]
      exact (h.env d').keeps st.fr.keep.excl (excl_of st.own st.xo) st.ext
  · refine ⟨st.fr.os.trans h.fr.os, st.fr.tape.trans h.fr.tape, st.fr.output.trans h.fr.output, Nat.le_trans h.fr.size st.fr.size, fun k hk hx => ?_⟩
    rw [st.fr.keep k (Nat.lt_of_lt_of_le hk h.fr.size) (fun ho => by rcases h.own k ho with h1 | h1; exact hx h1; omega)]
    exact h.fr.keep k hk hx
  · intro k hk
    rcases st.own k hk with h1 | h1
    · exact h.own k h1
    · exact .inr (Nat.le_trans h.fr.size h1)
theorem Rel.step_none {w0 : World} {X0 : Nat → Prop} {μ0 : Mu} {n : Nat} {env : Env} {H H' : Heap} {a : Act} {w w' : World} {μ μ' : Mu} {v : Value} {s : S}
    (h : Rel w0 X0 μ0 n env H a w μ) (st : Step w μ H w' μ' H' v s) : Rel w0 X0 μ0 n env H' a w' μ' := by
  refine ⟨h.tmps, h.defers, fun d' => (h.env d').keeps st.fr.keep.excl (excl_of st.own st.xo) st.ext, st.heap, ?_, ?_, fun b l hb => st.ext b l (h.pre b l hb), st.xo.trans h.xo⟩
  · refine ⟨st.fr.os.trans h.fr.os, st.fr.tape.trans h.fr.tape, st.fr.output.trans h.fr.output, Nat.le_trans h.fr.size st.fr.size, fun k hk hx => ?_⟩
    rw [st.fr.keep k (Nat.lt_of_lt_of_le hk h.fr.size) (fun ho => by rcases h.own k ho with h1 | h1; exact hx h1; omega)]
    exact h.fr.keep k hk hx
  · intro k hk
    rcases st.own k hk with h1 | h1
    · exact h.own k h1
    · exact .inr (Nat.le_trans h.fr.size h1)

theorem Step.same {w : World} {μ : Mu} {H : Heap} (h : HRep w μ H) {v : Value} {s : S} (hv : Rep w (excl μ H) μ v s) : Step w μ H w μ H v s :=
  ⟨h, hv, fun _ _ h => h, rfl, Fr.refl _ _, fun _ h => .inl h⟩

end Go.Vm
