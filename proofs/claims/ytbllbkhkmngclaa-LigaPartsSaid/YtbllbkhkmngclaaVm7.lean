/-
  The abstract machine, part 7: append; slices written out.
-/
import Derived.Test.YtbllbkhkmngclaaVm6
namespace Go.Vm
open Go Go.RowKit

structure SrcOk (P : Program) (w : World) (X : Nat → Prop) (μ : Mu) (size : Nat) (yv : Value) (ys : List S) (news : List Value) : Prop where
  len : news.length = ys.length * size
  runLen : ∀ w1 : World, (Builtin.lenOf yv).run P w1 = .ok ys.length w1
  runCells : ∀ w1 : World, w1.heap = w.heap → (Builtin.firstCells size ys.length yv).run P w1 = .ok news.toArray w1
  rep : ∀ i j, i < ys.length → j < size → Rep w X μ (news.getD (i * size + j) undef) ((ys.getD i .dead).cells.getD j .dead)
  lens : ∀ e ∈ ys, e.cells.length = size
  ok : ∀ e ∈ ys, ∀ s ∈ e.cells, s.isCell = true

theorem cell?_heap {w w1 : World} (h : w1.heap = w.heap) (a : Addr) : w1.cell? a = w.cell? a := by simp [World.cell?, h]

theorem flat_src {P : Program} {w : World} {X : Nat → Prop} {μ : Mu} {size blk o cap : Nat} {ys : List S} (hpos : 0 < size)
    (h : ∀ i j, i < ys.length → j < size → ∃ v, w.cell? ⟨blk, o + i * size + j, none⟩ = some v ∧ Rep w X μ v ((ys.getD i .dead).cells.getD j .dead)) (lens : ∀ e ∈ ys, e.cells.length = size)
    (ok : ∀ e ∈ ys, ∀ s ∈ e.cells, s.isCell = true) : ∃ news, SrcOk P w X μ size (.slice (some ⟨blk, o, none⟩) ys.length cap) ys news := by
  have hf : ∀ i j, i < ys.length → j < size → w.cell? ⟨blk, o + (i * size + j), none⟩ = some ((w.cell? ⟨blk, o + (i * size + j), none⟩).getD undef) := by
    intro i j hi hj
    obtain ⟨v, h1, _⟩ := h i j hi hj
    rw [Nat.add_assoc] at h1
    rw [h1]; rfl
  have hflat : ∀ k, k < ys.length * size → w.cell? ⟨blk, o + k, none⟩ = some ((w.cell? ⟨blk, o + k, none⟩).getD undef) := by
    intro k hk
    have h1 : k / size < ys.length := by rw [Nat.div_lt_iff_lt_mul hpos]; exact hk
    have h2 := hf (k / size) (k % size) h1 (Nat.mod_lt _ hpos)
    have h3 : k / size * size + k % size = k := by rw [Nat.mul_comm]; exact Nat.div_add_mod k size
    rw [h3] at h2
    exact h2
  refine ⟨(List.range (ys.length * size)).map fun k => (w.cell? ⟨blk, o + k, none⟩).getD undef, by simp, fun w1 => by simp [Builtin.lenOf], fun w1 hw1 => ?_, fun i j hi hj => ?_, lens, ok⟩
  · simp only [Builtin.firstCells]
    exact run_loadCells w1 ⟨blk, o, none⟩ (ys.length * size) _ (fun j hj => by rw [addr_add, cell?_heap hw1]; exact hflat j hj)
  · have hk : i * size + j < ys.length * size := by
      have : (i + 1) * size ≤ ys.length * size := Nat.mul_le_mul_right _ hi
      rw [Nat.add_mul] at this
      omega
    obtain ⟨v, h1, h2⟩ := h i j hi hj
    rw [Nat.add_assoc] at h1
    simp only [List.getD_eq_getElem?_getD, List.getElem?_map, List.getElem?_range hk, Option.map_some, Option.getD_some]
    rw [h1]
    simpa [List.getD_eq_getElem?_getD] using h2

theorem src_sound {P : Program} {w : World} {μ : Mu} {H : Heap} (hrep : HRep w μ H) {size : Nat} (hpos : 0 < size) {yv : Value} {y : S} {ys : List S} (hy : Rep w (excl μ H) μ yv y) (h : srcOf H size y = some ys)
    (hlens : ∀ e ∈ ys, e.cells.length = size) : ∃ news, SrcOk P w (excl μ H) μ size yv ys news := by
  have nil : ∀ a : Option Addr, ys = [] → yv = .slice a 0 0 → ∃ news, SrcOk P w (excl μ H) μ size yv ys news := by
    rintro a rfl rfl
    refine ⟨[], by simp, fun w1 => by simp [Builtin.lenOf], fun w1 _ => ?_, (fun i j hi => by simp at hi), (fun _ h => by cases h), (fun _ h => by cases h)⟩
    cases a <;> simp [Builtin.firstCells, loadCells, loadCellsFrom]
  cases y with
  | empty =>
    obtain ⟨a, rfl, _⟩ := hy.empty_inv
    simp [srcOf] at h
    exact nil a h rfl
  | pure d =>
    cases d with
    | sl es =>
      simp [srcOf] at h
      subst h
      cases hy.pure_inv with
      | nils => exact nil _ rfl rfl
      | sl blk off len cap size' _ f hz hl hc hm hx hs hcell hw hr =>
        by_cases hne : es = []
        · subst hne
          simp at hl
          subst hl
          refine ⟨[], by simp, fun w1 => by simp [Builtin.lenOf], fun w1 _ => ?_, (fun i j hi => by simp at hi), (fun _ h => by cases h), (fun _ h => by cases h)⟩
          simp [Builtin.firstCells, loadCells, loadCellsFrom]
        · obtain ⟨e0, he0⟩ := List.exists_mem_of_ne_nil _ hne
          have : size' = size := by
            have h1 := hs e0 he0
            have h2 := hlens (.pure e0) (List.mem_map_of_mem he0)
            simp [S.cells] at h2
            omega
          subst this
          have := flat_src (P := P) (w := w) (X := excl μ H) (μ := μ) (size := size') (blk := blk) (o := off) (cap := cap) (ys := es.map .pure) hpos (fun i j hi hj => by
            have hi' : i < es.length := by simpa using hi
            refine ⟨_, hw i j hi' hj, ?_⟩
            have h3 := hr i j hi' hj
            have h4 : (es.getD i default).cells.length = size' := by
              rw [List.getD_eq_getElem?_getD, List.getElem?_eq_getElem hi']
              exact hs _ (List.getElem_mem _)
            simp only [List.getD_eq_getElem?_getD, List.getElem?_map, List.getElem?_eq_getElem hi', Option.map_some, Option.getD_some, S.cells] at h3 h4 ⊢
            rw [List.getElem?_eq_getElem (by omega)] at h3 ⊢
            exact .pure _ _ h3) hlens (fun e he s hs' => by
              obtain ⟨e', he', rfl⟩ := List.mem_map.1 he
              simp only [S.cells, List.mem_map] at hs'
              obtain ⟨v, hv, rfl⟩ := hs'
              exact hcell e' he' v hv)
          simpa [hl] using this
    | _ => simp [srcOf] at h
  | rsl b off len =>
    simp only [srcOf] at h
    split at h
    · rename_i r hrow
      split at h
      · rename_i hsz
        simp only [Option.some.injEq] at h
        cases hy with
        | rslz a ha _ _ l hl =>
          subst h
          exact nil a (by simp) rfl
        | rsl _ _ _ cap l hl hv hc hm hr =>
          obtain ⟨hb, hd⟩ := rowAt_inv hrow
          have rr := hrep.row b r l hb hd hl
          have hsz' : l.size = size := by rw [← rr.size, hsz.1]
          obtain ⟨hsz0, hlen⟩ := hsz
          have hyl : ys.length = len := by rw [← h]; simp; omega
          have := flat_src (P := P) (w := w) (X := excl μ H) (μ := μ) (size := size) (blk := l.blk) (o := l.base + off * l.size) (cap := cap) (ys := ys) hpos (fun i j hi hj => by
            obtain ⟨v, h1, h2⟩ := rr.cells hv (off + i) j (by omega) (by omega)
            refine ⟨v, ?_, ?_⟩
            · rw [Nat.add_mul, hsz'] at h1
              rw [hsz', show l.base + off * size + i * size + j = l.base + (off * size + i * size) + j by omega]
              exact h1
            · have : ys.getD i .dead = r.es.getD (off + i) .dead := by
                rw [← h]
                simp only [List.getD_eq_getElem?_getD]
                rw [List.getElem?_take_of_lt (by omega), List.getElem?_drop]
              rw [this]
              exact h2) hlens (fun e he s hs' => rr.cellOk e (by rw [← h] at he; exact List.mem_of_mem_drop (List.mem_of_mem_take he)) s hs')
          simpa [hyl] using this
      · cases h
    · cases h
  | _ => simp [srcOf] at h

section app
variable {P : Program} {w : World} {μ : Mu} {H : Heap}

theorem SrcOk.one {X : Nat → Prop} {size : Nat} (hpos : 0 < size) {yv : Value} {ys : List S} {news : List Value} (h : SrcOk P w X μ size yv ys news) : ∀ v ∈ news, v.oneCell' = true := by
  intro v hv
  obtain ⟨k, hk, rfl⟩ := List.mem_iff_getElem.1 hv
  rw [h.len] at hk
  have h1 : k / size < ys.length := by rw [Nat.div_lt_iff_lt_mul hpos]; exact hk
  have h2 := h.rep (k / size) (k % size) h1 (Nat.mod_lt _ hpos)
  have h3 : k / size * size + k % size = k := by rw [Nat.mul_comm]; exact Nat.div_add_mod k size
  rw [h3] at h2
  have h4 : ys.getD (k / size) .dead ∈ ys := by
    rw [List.getD_eq_getElem?_getD, List.getElem?_eq_getElem h1]
    exact List.getElem_mem _
  have h5 : (ys.getD (k / size) .dead).cells.getD (k % size) .dead ∈ (ys.getD (k / size) .dead).cells := by
    have := h.lens _ h4
    rw [List.getD_eq_getElem?_getD (l := (ys.getD (k / size) .dead).cells), List.getElem?_eq_getElem (by rw [this]; exact Nat.mod_lt _ hpos)]
    exact List.getElem_mem _
  have h6 := (h2.one (h.ok _ h4 _ h5)).2.2
  rw [List.getD_eq_getElem?_getD, List.getElem?_eq_getElem (by rw [h.len]; exact hk)] at h6
  simpa using h6

/-- append where there is no room: a new row -/
theorem run_app_grow {t u e ty : TypeId} {i : TypeInfo} {z : Value} (ht : P.underlying t = some (.slice e)) (hu : (∃ e', P.underlying u = some (.slice e')) ∨ P.underlying u = some .string) (hi : P.info? e = some i) (hz : i.zero = some z)
    {a : Option Addr} {len cap m : Nat} {yv : Value} {olds news : List Value}
    (holds : ∀ w1 : World, w1.heap = w.heap → (Builtin.firstCells i.size len (.slice a len cap)).run P w1 = .ok olds.toArray w1)
    (hlen : ∀ w1 : World, (Builtin.lenOf yv).run P w1 = .ok m w1) (hnews : ∀ w1 : World, w1.heap = w.heap → (Builtin.firstCells i.size m yv).run P w1 = .ok news.toArray w1)
    (hg : cap < len + m) (h63 : len + m ≤ maxLen) (hbytes : (len + m) * i.bytes ≤ 140737488355328) :
    (Builtin.append_ #[t, u] ty #[.slice a len cap, yv]).run P w = .ok (.slice (some ⟨w.heap.size, 0, none⟩) (len + m) (grownCap w (len + m) cap e))
      (w.drew.alloc (.cells (olds.toArray ++ news.toArray ++ Builtin.zeroCells z.cells (grownCap w (len + m) cap e - (len + m))) e)) := by
  have hn : ¬ (len + m ≤ cap) := by omega
  have hfit := growslice_fits hg hbytes
  have h63' : ¬ (9223372036854775807 < ((len : Int) + (m : Int))) := by simp only [maxLen] at h63; omega
  have h48' : ¬ (281474976710656 < Builtin.nextslicecap (len + m) cap * i.bytes) := by omega
  have h1 := hnews w.drew rfl
  have h2 := holds w.drew rfl
  rcases hu with ⟨e', hu⟩ | hu <;>
    (simp [Builtin.append_, run_underlying ht, run_underlying hu, sizeOf, typeInfo, zeroValue, hi, hz, hlen, hn, h63', h48', Question.forced, h1, h2, newRow, grownCap]
     congr 2
     apply Array.ext'
     simp [List.append_assoc])

/-- append where there is room: the cells behind are written -/
theorem run_app_room {t u e ty : TypeId} {i : TypeInfo} (ht : P.underlying t = some (.slice e)) (hu : (∃ e', P.underlying u = some (.slice e')) ∨ P.underlying u = some .string) (hi : P.info? e = some i)
    {blk o len cap m : Nat} {yv : Value} {news : List Value} {c : Array Value} {ct : TypeId} (hheap : w.heap[blk]? = some (.cells c ct (0, 0)))
    (hlen : ∀ w1 : World, (Builtin.lenOf yv).run P w1 = .ok m w1) (hnews : ∀ w1 : World, w1.heap = w.heap → (Builtin.firstCells i.size m yv).run P w1 = .ok news.toArray w1)
    (h1 : ∀ v ∈ news, v.oneCell' = true) (hroom : len + m ≤ cap) (hfit : o + len * i.size + news.length ≤ c.size) :
    (Builtin.append_ #[t, u] ty #[.slice (some ⟨blk, o, none⟩) len cap, yv]).run P w = .ok (.slice (some ⟨blk, o, none⟩) (len + m) cap)
      (w.setRow blk (c.toList.take (o + len * i.size) ++ news ++ c.toList.drop (o + len * i.size + news.length)).toArray) := by
  have hst := run_storeCells_at P blk (o + len * i.size) ct news 0 c w hheap (by simpa using hfit) h1
  simp only [Nat.add_zero] at hst
  have h2 := hnews w rfl
  rcases hu with ⟨e', hu⟩ | hu <;>
    simp [Builtin.append_, run_underlying ht, run_underlying hu, sizeOf, typeInfo, hi, hlen, hroom, h2, addr_add, hst]

theorem run_app_nothing {t u e ty : TypeId} {i : TypeInfo} (ht : P.underlying t = some (.slice e)) (hu : (∃ e', P.underlying u = some (.slice e')) ∨ P.underlying u = some .string) (hi : P.info? e = some i)
    {a : Option Addr} {yv : Value} (hlen : ∀ w1 : World, (Builtin.lenOf yv).run P w1 = .ok 0 w1) (hnews : ∀ w1 : World, w1.heap = w.heap → (Builtin.firstCells i.size 0 yv).run P w1 = .ok ([] : List Value).toArray w1) :
    (Builtin.append_ #[t, u] ty #[.slice a 0 0, yv]).run P w = .ok (.slice a 0 0) w := by
  have h2 := hnews w rfl
  rcases hu with ⟨e', hu⟩ | hu <;>
    (cases a <;> simp [Builtin.append_, run_underlying ht, run_underlying hu, sizeOf, typeInfo, hi, hlen, h2, storeCells])

theorem drew_step {w' : World} {μ' : Mu} {H' : Heap} {v : Value} {s : S} (h : Step w.drew μ H w' μ' H' v s) : Step w μ H w' μ' H' v s :=
  ⟨h.heap, h.val, h.ext, h.xo, ⟨h.fr.os, h.fr.tape, h.fr.output, h.fr.size, h.fr.keep⟩, h.own⟩
theorem Keeps.drew (X : Nat → Prop) (w : World) : Keeps X w w.drew := fun _ _ _ => rfl
theorem HRep.drew (h : HRep w μ H) : HRep w.drew μ H := by
  refine ⟨h.dom, h.xo, fun b r l hb hd hl => ?_, h.inj⟩
  have rr := h.row b r l hb hd hl
  exact ⟨rr.size, rr.pos, rr.virt, rr.lens, rr.cellOk, rr.fits, (fun hv i j hi hj => by
    obtain ⟨v, h1, h2⟩ := rr.cells hv i j hi hj
    exact ⟨v, h1, h2.keeps (Keeps.drew _ w) (fun _ h => .inl h) (fun _ _ h => h)⟩), rr.live, rr.frozen⟩
theorem Rep.drew {X : Nat → Prop} {v : Value} {s : S} (h : Rep w X μ v s) : Rep w.drew X μ v s := h.keeps (Keeps.drew _ w) (fun _ h => .inl h) (fun _ _ h => h)

/-- what the append needs of its destination: the elements that it has -/
theorem app_grow_step (hrep : HRep w μ H) {size : Nat} (hpos : 0 < size) {cap m len : Nat} {xs ys : List S} {olds news : List Value} {z : Value} {e : TypeId} (hzs : z.cells.size = size)
    (hl1 : xs.length = len) (hl2 : ys.length = m) (ho : olds.length = len * size) (hn : news.length = m * size)
    (rx : ∀ i j, i < len → j < size → Rep w (excl μ H) μ (olds.getD (i * size + j) undef) ((xs.getD i .dead).cells.getD j .dead)) (ry : ∀ i j, i < m → j < size → Rep w (excl μ H) μ (news.getD (i * size + j) undef) ((ys.getD i .dead).cells.getD j .dead))
    (lx : ∀ e ∈ xs, e.cells.length = size) (ly : ∀ e ∈ ys, e.cells.length = size) (okx : ∀ e ∈ xs, ∀ s ∈ e.cells, s.isCell = true) (oky : ∀ e ∈ ys, ∀ s ∈ e.cells, s.isCell = true)
    (h63 : len + m ≤ maxLen) {H1 : Heap} (hH1 : H1.length = H.length) (hH2 : ∀ (b : Nat) (r : Row), H1[b]? = some r → r.st ≠ .dead → H[b]? = some r) :
    ∃ μ', Step w μ H (w.drew.alloc (.cells (olds.toArray ++ news.toArray ++ Builtin.zeroCells z.cells (grownCap w (len + m) cap e - (len + m))) e)) μ' (H1 ++ [⟨xs ++ ys, size, .live⟩])
      (.slice (some ⟨w.heap.size, 0, none⟩) (len + m) (grownCap w (len + m) cap e)) (.rsl H.length 0 (len + m)) := by
  have hge := grownCap_ge w (len + m) cap e
  have hcm := grownCap_le_maxLen w (len + m) cap e h63
  generalize grownCap w (len + m) cap e = nc at *
  have hsz : (olds.toArray ++ news.toArray ++ Builtin.zeroCells z.cells (nc - (len + m))).size = nc * size := by
    simp only [Array.size_append, List.size_toArray, size_zeroCells, hzs, ho, hn, ← Nat.add_mul]
    congr 1
    omega
  have hget : ∀ k, k < (len + m) * size → (olds.toArray ++ news.toArray ++ Builtin.zeroCells z.cells (nc - (len + m))).getD k undef = if k < len * size then olds.getD k undef else news.getD (k - len * size) undef := by
    intro k hk
    rw [Nat.add_mul] at hk
    simp only [Array.getD_eq_getD_getElem?, List.getD_eq_getElem?_getD]
    rw [Array.getElem?_append_left (by simp; omega), Array.getElem?_append]
    simp only [List.size_toArray, ho]
    split <;> simp
  obtain ⟨μ', hst⟩ := Step.of_push (w := w.drew) hrep.drew (olds.toArray ++ news.toArray ++ Builtin.zeroCells z.cells (nc - (len + m))) e (xs ++ ys) size hpos
    (fun e he => by rcases List.mem_append.1 he with h | h; exact lx e h; exact ly e h) (fun e he => by rcases List.mem_append.1 he with h | h; exact okx e h; exact oky e h)
    (by rw [hsz, List.length_append, hl1, hl2]; exact Nat.mul_le_mul_right _ hge)
    (fun i j hi hj => by
      have hi' : i < len + m := by rw [List.length_append] at hi; omega
      have hk : i * size + j < (len + m) * size := by
        have : (i + 1) * size ≤ (len + m) * size := Nat.mul_le_mul_right _ hi'
        rw [Nat.add_mul] at this
        omega
      rw [hget _ hk, List.getD_append_cases, hl1]
      by_cases hc : i < len
      · have : i * size + j < len * size := by
          have : (i + 1) * size ≤ len * size := Nat.mul_le_mul_right _ hc
          rw [Nat.add_mul] at this
          omega
        rw [if_pos this, if_pos hc]
        exact (rx i j hc hj).drew
      · have h5 : len * size ≤ i * size := Nat.mul_le_mul_right _ (by omega)
        rw [if_neg (by omega), if_neg hc]
        have h6 : i * size + j - len * size = (i - len) * size + j := by rw [Nat.sub_mul]; omega
        rw [h6]
        exact (ry (i - len) j (by omega) hj).drew) (v := .slice (some ⟨w.heap.size, 0, none⟩) (len + m) nc) (s := .rsl H.length 0 (len + m)) hH1 hH2 (fun μ' hl => by
      have := Rep.rsl (w := w.drew.alloc (.cells (olds.toArray ++ news.toArray ++ Builtin.zeroCells z.cells (nc - (len + m))) e)) (X := excl μ' (H1 ++ [⟨xs ++ ys, size, .live⟩])) (μ := μ') H.length 0 (len + m) nc _ hl rfl hge hcm (by simp only [hsz, Nat.zero_add]; omega)
      simpa using this)
  exact ⟨μ', drew_step hst⟩
end app
end Go.Vm
