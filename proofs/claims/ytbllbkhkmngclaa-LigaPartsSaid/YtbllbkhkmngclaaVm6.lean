/-
  The abstract machine, part 6: values that are built; operations that write memory or make it.
-/
import Derived.Test.YtbllbkhkmngclaaVm5
namespace Go.Vm
open Go Go.RowKit

/-- pointwise representation of a row of cells -/
structure Cells (w : World) (X : Nat → Prop) (μ : Mu) (cs : Array Value) (ss : List S) : Prop where
  len : cs.size = ss.length
  ok : ∀ s ∈ ss, s.isCell = true
  rep : ∀ i, i < ss.length → Rep w X μ (cs.getD i undef) (ss.getD i .dead)

theorem Rep.toCells {w : World} {X : Nat → Prop} {μ : Mu} {v : Value} {s : S} (h : Rep w X μ v s) (hs : s.okv = true) : Cells w X μ v.cells s.cells :=
  ⟨(h.cells hs).1, h.cellsOk hs, (h.cells hs).2⟩
theorem Cells.mkAgg {w : World} {X : Nat → Prop} {μ : Mu} {cs : Array Value} {ss : List S} (h : Cells w X μ cs ss) : Rep w X μ (.agg cs) (S.mkAgg ss) := Rep.mkAgg h.len h.ok h.rep
theorem Cells.one {w : World} {X : Nat → Prop} {μ : Mu} {cs : Array Value} {ss : List S} (h : Cells w X μ cs ss) : ∀ v ∈ cs.toList, v.oneCell' = true := by
  intro v hv
  obtain ⟨i, hi, rfl⟩ := List.mem_iff_getElem.1 hv
  have hi' : i < cs.size := by simpa using hi
  have h1 := h.rep i (by rw [← h.len]; exact hi')
  have h2 : ss.getD i .dead ∈ ss := by
    rw [List.getD_eq_getElem?_getD, List.getElem?_eq_getElem (by rw [← h.len]; exact hi')]
    exact List.getElem_mem _
  have h3 := (h1.one (h.ok _ h2)).2.2
  rw [Array.getD_eq_getD_getElem?, Array.getElem?_eq_getElem hi'] at h3
  simpa using h3
theorem List.getD_append_cases {α : Type} (a b : List α) (i : Nat) (d : α) : (a ++ b).getD i d = if i < a.length then a.getD i d else b.getD (i - a.length) d := by
  simp only [List.getD_eq_getElem?_getD, List.getElem?_append]
  split <;> rfl
theorem Array.getD_toArray' (l : List Value) (i : Nat) (d : Value) : l.toArray.getD i d = l.getD i d := by
  simp [Array.getD_eq_getD_getElem?, List.getD_eq_getElem?_getD]
theorem Array.getD_toList' (l : Array Value) (i : Nat) (d : Value) : l.toList.getD i d = l.getD i d := by
  simp [Array.getD_eq_getD_getElem?, List.getD_eq_getElem?_getD]

/-- 'cs' with the cells of 'a' from cell 'off' on -/
theorem Cells.splice {w : World} {X : Nat → Prop} {μ : Mu} {cs a : Array Value} {ss sa : List S} (h : Cells w X μ cs ss) (ha : Cells w X μ a sa) (off : Nat) (hle : off + sa.length ≤ ss.length) :
    Cells w X μ (cs.toList.take off ++ a.toList ++ cs.toList.drop (off + a.size)).toArray (ss.take off ++ sa ++ ss.drop (off + sa.length)) := by
  have e1 := h.len
  have e2 := ha.len
  refine ⟨by simp; omega, fun s hs => ?_, fun i hi => ?_⟩
  · rcases List.mem_append.1 hs with hs | hs
    · rcases List.mem_append.1 hs with hs | hs
      · exact h.ok s (List.mem_of_mem_take hs)
      · exact ha.ok s hs
    · exact h.ok s (List.mem_of_mem_drop hs)
  · rw [Array.getD_toArray', List.getD_append_cases, List.getD_append_cases, List.getD_append_cases, List.getD_append_cases]
    have l1 : (cs.toList.take off).length = off := by simp; omega
    have l2 : (ss.take off).length = off := by simp; omega
    have l3 : (cs.toList.take off ++ a.toList).length = off + sa.length := by simp; omega
    have l4 : (ss.take off ++ sa).length = off + sa.length := by simp; omega
    rw [l1, l2, l3, l4]
    split
    · split
      · rename_i h1
        have := h.rep i (by omega)
        simp only [List.getD_eq_getElem?_getD, List.getElem?_take_of_lt h1] at this ⊢
        rw [Array.getD_eq_getD_getElem?] at this
        rw [Array.getElem?_toList]
        exact this
      · rename_i h0 h1
        have := ha.rep (i - off) (by omega)
        rw [Array.getD_toList']
        exact this
    · rename_i h0
      have hi' : i < ss.length := by simp at hi; omega
      have := h.rep i hi'
      rw [e2]
      simp only [List.getD_eq_getElem?_getD, List.getElem?_drop] at this ⊢
      rw [show off + sa.length + (i - (off + sa.length)) = i by omega]
      rw [Array.getD_eq_getD_getElem?] at this
      rw [Array.getElem?_toList]
      exact this

theorem foldl_set (off : Nat) : ∀ (l : List Value) (k : Nat) (cs : Array Value), off + k + l.length ≤ cs.size →
    (l.zipIdx k).foldl (fun cs (p : Value × Nat) => cs.setIfInBounds (off + p.2) p.1) cs = (cs.toList.take (off + k) ++ l ++ cs.toList.drop (off + k + l.length)).toArray
  | [], k, cs, _ => by simp
  | v :: r, k, cs, h => by
    have hk : off + k < cs.size := by simp at h; omega
    simp only [List.zipIdx_cons, List.foldl_cons]
    rw [foldl_set off r (k + 1) _ (by simp at h ⊢; omega)]
    congr 1
    rw [Array.toList_setIfInBounds]
    apply List.ext_getElem?
    intro j
    simp only [List.append_assoc, List.getElem?_append, List.length_take, List.length_set, Array.length_toList, List.getElem?_take, List.getElem?_drop, List.getElem?_set, List.length_cons, List.getElem?_cons]
    rw [show min (off + (k + 1)) cs.size = off + k + 1 by omega, show min (off + k) cs.size = off + k by omega]
    by_cases h1 : j < off + k
    · simp [h1, show j < off + k + 1 by omega, show off + k ≠ j by omega, show j < off + (k + 1) by omega]
    · by_cases h2 : j = off + k
      · subst h2
        simp [show off + k < off + (k + 1) by omega, hk]
      · have h3 : ¬ j < off + k + 1 := by omega
        by_cases h4 : j - (off + k + 1) < r.length
        · simp [h1, h3, h4, show j - (off + k) < r.length + 1 by omega, show j - (off + k) ≠ 0 by omega, show j - (off + k) - 1 = j - (off + k + 1) by omega]
        · simp [h1, h3, h4, show ¬ j - (off + k) < r.length + 1 by omega]
          rw [show off + (k + 1) + r.length + (j - (off + k + 1) - r.length) = j by omega, show off + k + (r.length + 1) + (j - (off + k) - (r.length + 1)) = j by omega]
          rw [if_neg (by omega)]

theorem fill_step (v : Value) (off : Nat) (cs : Array Value) (h : off + v.cells.size ≤ cs.size) :
    v.cells.zipIdx.foldl (fun cs (c, j) => cs.setIfInBounds (off + j) c) cs = (cs.toList.take off ++ v.cells.toList ++ cs.toList.drop (off + v.cells.size)).toArray := by
  rw [← Array.foldl_toList, Array.toList_zipIdx]
  have := foldl_set off v.cells.toList 0 cs (by simpa using h)
  simpa using this

/-- the parts of a value, as the model has them and as the abstract machine has them -/
inductive Parts (w : World) (X : Nat → Prop) (μ : Mu) (env : Env) (place : Nat → Option (Nat × Nat)) : List (Nat × Value) → List (Nat × Nat × O) → Prop where
  | nil : Parts w X μ env place [] []
  | cons (i : Nat) (v : Value) (off n : Nat) (o : O) (r : List (Nat × Value)) (q : List (Nat × Nat × O)) (hp : place i = some (off, n)) (hv : Rep w X μ v (o.ev env)) (h : Parts w X μ env place r q) :
      Parts w X μ env place ((i, v) :: r) ((off, n, o) :: q)

theorem fill_sound {w : World} {X : Nat → Prop} {μ : Mu} {env : Env} {place : Nat → Option (Nat × Nat)} {l : List (Nat × Value)} {q : List (Nat × Nat × O)} (hp : Parts w X μ env place l q) :
    ∀ {cs : Array Value} {ss ss' : List S}, Cells w X μ cs ss → fillA env ss q = some ss' → ∃ cs', Instr.fill place cs l = some cs' ∧ Cells w X μ cs' ss' := by
  induction hp with
  | nil => intro cs ss ss' hc h; simp [fillA] at h; subst h; exact ⟨cs, rfl, hc⟩
  | cons i v off n o r q hpl hv _ ih =>
    intro cs ss ss' hc h
    simp only [fillA] at h
    split at h
    · rename_i hcnd
      obtain ⟨h1, h2, h3⟩ := hcnd
      have hcv := hv.toCells h1
      have e1 := hcv.len
      have e2 := hc.len
      have hsp := hc.splice hcv off (by omega)
      rw [h2] at hsp
      obtain ⟨cs', h4, h5⟩ := ih hsp h
      refine ⟨cs', ?_, h5⟩
      simp only [Instr.fill, hpl]
      rw [if_neg (by simp; omega)]
      rw [fill_step v off cs (by omega)]
      exact h4
    · cases h

theorem Step.of_pushN {w : World} {μ : Mu} {H : Heap} (h : HRep w μ H) (c : Array Value) (t : TypeId) (es : List S) (size : Nat) (hpos : 0 < size) (hlen : ∀ e ∈ es, e.cells.length = size) (hok : ∀ e ∈ es, ∀ s ∈ e.cells, s.isCell = true)
    (hsz : es.length * size ≤ c.size) (hrep : ∀ i j, i < es.length → j < size → Rep w (excl μ H) μ (c.getD (i * size + j) undef) ((es.getD i .dead).cells.getD j .dead))
    {v : Value} {s : S} {H1 : Heap} {nb : Nat} (hnb : μ nb = none) (hN : H1[nb]? = some ⟨es, size, .live⟩) (hl1 : H.length ≤ H1.length) (h1 : ∀ (b : Nat) (r : Row), b ≠ nb → H1[b]? = some r → r.st ≠ .dead → H[b]? = some r)
    (hv : ∀ μ', μ' nb = some ⟨w.heap.size, 0, size, c.size, false⟩ → Rep (w.alloc (.cells c t)) (excl μ' H1) μ' v s) :
    ∃ μ', Step w μ H (w.alloc (.cells c t)) μ' H1 v s ∧ ∀ b, b ≠ nb → μ' b = μ b := by
  obtain ⟨p1, p2, p3⟩ := h.push hnb c t es size hN hl1 h1 hpos hlen hok hsz hrep
  exact ⟨_, ⟨p1, hv _ (Mu.add_self _ _ _), p3, rfl, Fr.alloc _ w _, p2⟩, fun b hb => Mu.add_ne hb⟩

theorem push_rows {H H1 : Heap} {r0 : Row} (hl1 : H1.length = H.length) (h1 : ∀ (b : Nat) (r : Row), H1[b]? = some r → r.st ≠ .dead → H[b]? = some r) :
    (H1 ++ [r0])[H.length]? = some r0 ∧ H.length ≤ (H1 ++ [r0]).length ∧ ∀ (b : Nat) (r : Row), b ≠ H.length → (H1 ++ [r0])[b]? = some r → r.st ≠ .dead → H[b]? = some r := by
  refine ⟨by rw [← hl1]; simp, by simp; omega, fun b r hne hb hd => ?_⟩
  rcases get_push hb with hb | ⟨hb, _⟩
  · exact h1 b r hb hd
  · omega

theorem Step.of_push {w : World} {μ : Mu} {H : Heap} (h : HRep w μ H) (c : Array Value) (t : TypeId) (es : List S) (size : Nat) (hpos : 0 < size) (hlen : ∀ e ∈ es, e.cells.length = size) (hok : ∀ e ∈ es, ∀ s ∈ e.cells, s.isCell = true)
    (hsz : es.length * size ≤ c.size) (hrep : ∀ i j, i < es.length → j < size → Rep w (excl μ H) μ (c.getD (i * size + j) undef) ((es.getD i .dead).cells.getD j .dead))
    {v : Value} {s : S} {H1 : Heap} (hl1 : H1.length = H.length) (h1 : ∀ (b : Nat) (r : Row), H1[b]? = some r → r.st ≠ .dead → H[b]? = some r)
    (hv : ∀ μ', μ' H.length = some ⟨w.heap.size, 0, size, c.size, false⟩ → Rep (w.alloc (.cells c t)) (excl μ' (H1 ++ [⟨es, size, .live⟩])) μ' v s) :
    ∃ μ', Step w μ H (w.alloc (.cells c t)) μ' (H1 ++ [⟨es, size, .live⟩]) v s := by
  obtain ⟨p1, p2, p3⟩ := push_rows (r0 := ⟨es, size, .live⟩) hl1 h1
  obtain ⟨μ', h2, _⟩ := Step.of_pushN h c t es size hpos hlen hok hsz hrep h.fresh p1 p2 p3 hv
  exact ⟨μ', h2⟩

theorem box_soundN {P : Program} {w : World} {μ : Mu} {H : Heap} (hrep : HRep w μ H) {elem : TypeId} {xv : Value} {s : S} (hx : Rep w (excl μ H) μ xv s) (hok : s.okv = true)
    {H1 : Heap} {nb : Nat} (hnb : μ nb = none) (hN : H1[nb]? = some ⟨[s], s.cells.length, .live⟩) (hl1 : H.length ≤ H1.length) (h1 : ∀ (b : Nat) (r : Row), b ≠ nb → H1[b]? = some r → r.st ≠ .dead → H[b]? = some r) :
    ∃ v w' μ', (Instr.box elem xv).run P w = .ok v w' ∧ Step w μ H w' μ' H1 v (.ptr nb 0 0) ∧ ∀ b, b ≠ nb → μ' b = μ b := by
  have hc := hx.toCells hok
  obtain ⟨μ', hst⟩ := Step.of_pushN hrep xv.cells elem [s] s.cells.length (S.okv_pos hok) (by simp) (by simpa using hc.ok) (by simp [hc.len]) (fun i j hi hj => by
    obtain rfl : i = 0 := by simpa using hi
    simpa using hc.rep j hj) (v := .pointer (some ⟨w.heap.size, 0, none⟩)) (s := .ptr nb 0 0) hnb hN hl1 h1 (fun μ' hl => by
      have := Rep.ptr (w := w.alloc (.cells xv.cells elem)) (X := excl μ' H1) (μ := μ') nb 0 0 _ hl rfl
      simpa using this)
  exact ⟨_, _, μ', by simp [Instr.box, newVar, newRow], hst⟩
theorem box_sound {P : Program} {w : World} {μ : Mu} {H : Heap} (hrep : HRep w μ H) {elem : TypeId} {xv : Value} {s : S} (hx : Rep w (excl μ H) μ xv s) (hok : s.okv = true) :
    ∃ v w' μ', (Instr.box elem xv).run P w = .ok v w' ∧ Step w μ H w' μ' (H ++ [⟨[s], s.cells.length, .live⟩]) v (.ptr H.length 0 0) := by
  obtain ⟨p1, p2, p3⟩ := push_rows (r0 := ⟨[s], s.cells.length, .live⟩) (H := H) rfl (fun _ _ h _ => h)
  obtain ⟨v, w', μ', h1, h2, _⟩ := box_soundN (P := P) (elem := elem) hrep hx hok hrep.fresh p1 p2 p3
  exact ⟨v, w', μ', h1, h2⟩

theorem take_splice (cur : Array Value) (o : Nat) (vs : List Value) (h : o + vs.length ≤ cur.size) : (cur.toList.take o ++ vs ++ cur.toList.drop (o + vs.length)).toArray.size = cur.size := by
  simp; omega
theorem getD_splice (cur : Array Value) (o : Nat) (vs : List Value) (h : o + vs.length ≤ cur.size) (i : Nat) :
    (cur.toList.take o ++ vs ++ cur.toList.drop (o + vs.length)).toArray.getD i undef = if o ≤ i ∧ i < o + vs.length then vs.getD (i - o) undef else cur.getD i undef := by
  rw [Array.getD_toArray', List.getD_append_cases, List.getD_append_cases]
  have l1 : (cur.toList.take o).length = o := by simp; omega
  have l2 : (cur.toList.take o ++ vs).length = o + vs.length := by simp; omega
  rw [l1, l2]
  by_cases h1 : i < o
  · rw [if_pos (by omega), if_pos h1, if_neg (by omega)]
    simp only [List.getD_eq_getElem?_getD, List.getElem?_take_of_lt h1, Array.getD_eq_getD_getElem?, Array.getElem?_toList]
  · by_cases h2 : i < o + vs.length
    · rw [if_pos h2, if_neg h1, if_pos ⟨by omega, h2⟩]
    · rw [if_neg h2, if_neg (by omega)]
      simp only [List.getD_eq_getElem?_getD, List.getElem?_drop, Array.getD_eq_getD_getElem?, Array.getElem?_toList]
      rw [show o + vs.length + (i - (o + vs.length)) = i by omega]

theorem cell_getD {w : World} {g j : Nat} {c : Array Value} {t : TypeId} (hg : w.heap[g]? = some (.cells c t (0, 0))) (hj : j < c.size) : w.cell? ⟨g, j, none⟩ = some (c.getD j undef) := by
  rw [cell_of_row w g j c t (0, 0) hg, Array.getD_eq_getD_getElem?, Array.getElem?_eq_getElem hj]
  rfl
theorem getD_cell {w : World} {g j : Nat} {c : Array Value} {t : TypeId} {v : Value} (hg : w.heap[g]? = some (.cells c t (0, 0))) (h : w.cell? ⟨g, j, none⟩ = some v) : j < c.size ∧ c.getD j undef = v := by
  rw [cell_of_row w g j c t (0, 0) hg] at h
  have := (Array.getElem?_eq_some_iff.1 h).1
  exact ⟨this, by rw [Array.getD_eq_getD_getElem?, h]; rfl⟩

theorem Keeps.setRow {X : Nat → Prop} {w : World} {g : Nat} {cs : Array Value} (hg : X g) : Keeps X w (w.setRow g cs) := fun k _ hk => setRow_other w g k cs (fun e => hk (e ▸ hg))
theorem Fr.setRow {X : Nat → Prop} {w : World} {g : Nat} {cs : Array Value} (hg : X g) : Fr X w (w.setRow g cs) := ⟨rfl, rfl, rfl, by simp, Keeps.setRow hg⟩


theorem S.put_cells {e s : S} {off : Nat} (he : ∀ c ∈ e.cells, c.isCell = true) (hs : ∀ c ∈ s.cells, c.isCell = true) (hz : 0 < s.cells.length) (hle : off + s.cells.length ≤ e.cells.length) :
    (e.put off s).cells = e.cells.take off ++ s.cells ++ e.cells.drop (off + s.cells.length) := by
  unfold S.put
  split
  · rename_i hc
    have h1 : e.cells = [e] := by
      cases e <;> simp_all [S.isCell, S.cells, V.cells]
      rename_i v; cases v <;> simp_all [V.isCell]
    rw [h1] at hle ⊢
    have h2 : off = 0 ∧ s.cells.length = 1 := by simp at hle; omega
    obtain ⟨rfl, h3⟩ := h2
    obtain ⟨c, hc'⟩ := List.length_eq_one_iff.1 h3
    have hcc : c.isCell = true := hs c (by rw [hc']; simp)
    rw [hc']
    have h4 : c.cells = [c] := by
      cases c <;> simp_all [S.isCell, S.cells, V.cells]
      rename_i v; cases v <;> simp_all [V.isCell]
    simp [h4]
  · split
    · rename_i h
      obtain ⟨rfl, _, h2⟩ := h
      simp [h2]
    · generalize hl : e.cells.take off ++ s.cells ++ e.cells.drop (off + s.cells.length) = l
      unfold S.mkAgg
      split
      · rename_i vs hvs
        rw [S.allPure_eq hvs]
        simp [S.cells, V.cells]
      · simp [S.cells]

theorem store_sound {P : Program} {w : World} {μ : Mu} {H : Heap} (hrep : HRep w μ H) {t : TypeId} {n : Nat} (hn : sizeT P t = some n) {av xv : Value} {b i off : Nat} {x e : S} {r : Row}
    (ha : Rep w (excl μ H) μ av (.ptr b i off)) (hx : Rep w (excl μ H) μ xv x) (hb : H[b]? = some r) (hst : r.st = .live) (he : r.es[i]? = some e)
    (hok : x.okv = true) (hxn : x.cells.length = n) (hle : off + n ≤ e.cells.length) :
    ∃ w' μ', (Instr.storeAt t av xv).run P w = .ok () w' ∧ Step w μ H w' μ' (H.set b ⟨r.es.set i (e.put off x), r.size, .live⟩) undef .dead := by
  obtain ⟨l, hl, hv, rfl⟩ := ha.ptr_inv
  have rr := hrep.row b r l hb (by rw [hst]; decide) hl
  obtain ⟨c, ct, hheap, hroom⟩ := rr.live hv hst
  obtain ⟨hlt, hei⟩ := List.getElem?_eq_some_iff.1 he
  have hmem : e ∈ r.es := List.mem_of_getElem? he
  have hel : e.cells.length = l.size := rr.lens e hmem
  have hxc := hx.toCells hok
  have e1 := hxc.len
  have hX : owned μ H l.blk := ⟨b, r, l, hb, hst, hl, hv, rfl⟩
  have hfit : l.base + i * l.size + off + xv.cells.toList.length ≤ c.size := by
    have h1 := rr.fits hv
    have h2 : (i + 1) * l.size ≤ r.es.length * l.size := Nat.mul_le_mul_right _ hlt
    rw [Nat.add_mul] at h2
    have h3 : xv.cells.toList.length = n := by rw [Array.length_toList, e1, hxn]
    omega
  have hrun := run_storeCells_at P l.blk (l.base + i * l.size + off) ct xv.cells.toList 0 c w hheap (by simpa using hfit) hxc.one
  simp only [Nat.add_zero] at hrun
  generalize hc' : (c.toList.take (l.base + i * l.size + off) ++ xv.cells.toList ++ c.toList.drop (l.base + i * l.size + off + xv.cells.toList.length)).toArray = c' at hrun
  have hsz' : c'.size = c.size := by rw [← hc']; exact take_splice c _ _ hfit
  have hget : ∀ k, c'.getD k undef = if l.base + i * l.size + off ≤ k ∧ k < l.base + i * l.size + off + xv.cells.toList.length then xv.cells.toList.getD (k - (l.base + i * l.size + off)) undef else c.getD k undef := by
    intro k; rw [← hc']; exact getD_splice c _ _ hfit k
  have hheap' : (w.setRow l.blk c').heap[l.blk]? = some (.cells c' ct (0, 0)) := setRow_heap w l.blk c c' ct (0, 0) hheap
  have hk : Keeps (owned μ H) w (w.setRow l.blk c') := Keeps.setRow hX
  have hput : (e.put off x).cells = e.cells.take off ++ x.cells ++ e.cells.drop (off + x.cells.length) :=
    S.put_cells (rr.cellOk e hmem) hxc.ok (S.okv_pos hok) (by omega)
  have hblt : b < H.length := (List.getElem?_eq_some_iff.1 hb).1
  have hHset : ∀ (b' : Nat) (r' : Row), (H.set b ⟨r.es.set i (e.put off x), r.size, .live⟩)[b']? = some r' → (b' = b ∧ r' = ⟨r.es.set i (e.put off x), r.size, .live⟩) ∨ (b' ≠ b ∧ H[b']? = some r') := by
    intro b' r' h
    by_cases hbb : b' = b
    · subst hbb
      rw [List.getElem?_set_self hblt] at h
      exact .inl ⟨rfl, (Option.some.inj h).symm⟩
    · rw [List.getElem?_set_ne (Ne.symm hbb)] at h
      exact .inr ⟨hbb, h⟩
  have ho : ∀ k, owned μ (H.set b ⟨r.es.set i (e.put off x), r.size, .live⟩) k → owned μ H k := by
    rintro k ⟨b', r', l', h1, h2, h3, h4, rfl⟩
    rcases hHset b' r' h1 with ⟨rfl, rfl⟩ | ⟨_, h1'⟩
    · exact ⟨b', r, l', hb, hst, h3, h4, rfl⟩
    · exact ⟨b', r', l', h1', h2, h3, h4, rfl⟩
  have hmono : ∀ {v : Value} {s : S}, Rep w (excl μ H) μ v s → Rep (w.setRow l.blk c') (excl μ (H.set b ⟨r.es.set i (e.put off x), r.size, .live⟩)) μ v s :=
    fun h => h.keeps hk.excl (excl_of (fun k hk' => .inl (ho k hk')) rfl) (fun _ _ h => h)
  refine ⟨w.setRow l.blk c', μ, ?_, hrep.alter hk (fun k hk' => .inl (ho k hk')) (fun _ _ h => h) rfl (by simp) (fun b' l' h => by rw [List.length_set]; exact hrep.dom b' l' h) ?_ ?_, .dead _, fun _ _ h => h, rfl, Fr.setRow hX, fun k hk' => .inl (ho k hk')⟩
  · simp only [Instr.storeAt, Instr.sureAddr, storeVar]
    simp [run_sizeT hn, e1, hxn]
    exact hrun
  · intro b' r' l' h1 hd h3
    rcases hHset b' r' h1 with ⟨rfl, rfl⟩ | ⟨hne, h1'⟩
    · rw [hl] at h3
      cases h3
      refine .inl ⟨rr.size, rr.pos, (fun h => by rw [hv] at h; cases h), ?_, ?_, (fun _ => by simpa using rr.fits hv), ?_, (fun _ _ => ⟨c', ct, hheap', by rw [hsz', hroom]⟩), (fun _ h => by cases h)⟩
      · intro e' he'
        rcases List.mem_or_eq_of_mem_set he' with h | rfl
        · exact rr.lens e' h
        · rw [hput]; simp; omega
      · intro e' he'
        rcases List.mem_or_eq_of_mem_set he' with h | rfl
        · exact rr.cellOk e' h
        · rw [hput]
          intro s hs
          rcases List.mem_append.1 hs with hs | hs
          · rcases List.mem_append.1 hs with hs | hs
            · exact rr.cellOk e hmem s (List.mem_of_mem_take hs)
            · exact hxc.ok s hs
          · exact rr.cellOk e hmem s (List.mem_of_mem_drop hs)
      · intro _ i' j hi' hj
        have hi'' : i' < r.es.length := by simpa using hi'
        obtain ⟨v0, h5, h6⟩ := rr.cells hv i' j hi'' hj
        obtain ⟨h7, h8⟩ := getD_cell hheap h5
        refine ⟨c'.getD (l.base + i' * l.size + j) undef, cell_getD hheap' (by omega), ?_⟩
        rw [hget]
        have hxl : xv.cells.toList.length = n := by rw [Array.length_toList, e1, hxn]
        rw [hxl]
        by_cases hii : i' = i
        · subst hii
          simp only [List.getD_eq_getElem?_getD, List.getElem?_set_self hlt, Option.getD_some]
          rw [hput]
          simp only [← List.getD_eq_getElem?_getD]
          rw [List.getD_append_cases, List.getD_append_cases]
          have l1 : (e.cells.take off).length = off := by simp; omega
          have l2 : (e.cells.take off ++ x.cells).length = off + n := by simp; omega
          rw [l1, l2]
          by_cases c1 : j < off
          · rw [if_neg (by omega), if_pos (by omega), if_pos c1, h8]
            have : (List.take off e.cells).getD j .dead = (r.es.getD i' .dead).cells.getD j .dead := by
              rw [show r.es.getD i' .dead = e by simp [List.getD_eq_getElem?_getD, he]]
              simp only [List.getD_eq_getElem?_getD, List.getElem?_take_of_lt c1]
            rw [this]
            exact hmono h6
          · by_cases c2 : j < off + n
            · rw [if_pos (by omega), if_pos c2, if_neg c1]
              have := hxc.rep (j - off) (by omega)
              rw [show l.base + i' * l.size + j - (l.base + i' * l.size + off) = j - off by omega, Array.getD_toList']
              exact hmono this
            · rw [if_neg (by omega), if_neg c2, h8]
              have : (e.cells.drop (off + x.cells.length)).getD (j - (off + n)) .dead = (r.es.getD i' .dead).cells.getD j .dead := by
                rw [show r.es.getD i' .dead = e by simp [List.getD_eq_getElem?_getD, he]]
                simp only [List.getD_eq_getElem?_getD, List.getElem?_drop]
                rw [hxn, show off + n + (j - (off + n)) = j by omega]
              rw [this]
              exact hmono h6
        · have hno : ¬ (l.base + i * l.size + off ≤ l.base + i' * l.size + j ∧ l.base + i' * l.size + j < l.base + i * l.size + off + n) := by
            rintro ⟨g1, g2⟩
            rcases Nat.lt_or_ge i' i with h | h
            · have : (i' + 1) * l.size ≤ i * l.size := Nat.mul_le_mul_right _ h
              rw [Nat.add_mul] at this
              omega
            · have : (i + 1) * l.size ≤ i' * l.size := Nat.mul_le_mul_right _ (by omega)
              rw [Nat.add_mul] at this
              omega
          rw [if_neg hno, h8]
          simp only [List.getD_eq_getElem?_getD] at h6 ⊢
          rw [List.getElem?_set_ne (Ne.symm hii)]
          exact hmono h6
    · refine .inr ⟨h1', h3, fun hst' hv' => ?_⟩
      refine setRow_other w l.blk l'.blk c' (fun heq => hne ?_)
      exact hrep.inj b' b r' r l' l h1' hb hst' hst h3 hl hv' hv heq
  · intro b1 b2 r1 r2 l1 l2 h1 h2 hs1 hs2 hl1 hl2 hv1 hv2 heq
    have f1 : ∃ r1', H[b1]? = some r1' ∧ r1'.st = .live := by
      rcases hHset b1 r1 h1 with ⟨rfl, _⟩ | ⟨_, h⟩
      · exact ⟨r, hb, hst⟩
      · exact ⟨r1, h, hs1⟩
    have f2 : ∃ r2', H[b2]? = some r2' ∧ r2'.st = .live := by
      rcases hHset b2 r2 h2 with ⟨rfl, _⟩ | ⟨_, h⟩
      · exact ⟨r, hb, hst⟩
      · exact ⟨r2, h, hs2⟩
    obtain ⟨r1', g1, g2⟩ := f1
    obtain ⟨r2', g3, g4⟩ := f2
    exact hrep.inj b1 b2 r1' r2' l1 l2 g1 g3 g2 g4 hl1 hl2 hv1 hv2 heq

end Go.Vm
