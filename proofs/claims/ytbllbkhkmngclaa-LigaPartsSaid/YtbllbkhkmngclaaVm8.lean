/-
  The abstract machine, part 8: append, whole.
-/
import Derived.Test.YtbllbkhkmngclaaVm7
namespace Go.Vm
open Go Go.RowKit
section app
variable {P : Program} {w : World} {μ : Mu} {H : Heap}

/-- a slice without room gets a row of its own name -/
theorem virt_step (hrep : HRep w μ H) {size : Nat} (hpos : 0 < size) {H1 : Heap} (hH1 : H1.length = H.length) (hH2 : ∀ (b : Nat) (r : Row), H1[b]? = some r → r.st ≠ .dead → H[b]? = some r)
    {a : Option Addr} (ha : ∀ x, a = some x → True) : ∃ μ', Step w μ H w μ' (H1 ++ [⟨[], size, .live⟩]) (.slice a 0 0) (.rsl H.length 0 0) := by
  have hμ : ∀ (b : Nat) (l : Loc), μ b = some l → (μ.add H.length ⟨0, 0, size, 0, true⟩) b = some l := by
    intro b l hb
    rw [Mu.add_ne (by rintro rfl; rw [hrep.fresh] at hb; cases hb)]
    exact hb
  have old : ∀ (b : Nat) (r : Row) (l : Loc), (H1 ++ [(⟨[], size, .live⟩ : Row)])[b]? = some r → r.st ≠ .dead → (μ.add H.length ⟨0, 0, size, 0, true⟩) b = some l → (H[b]? = some r ∧ μ b = some l) ∨ (b = H.length ∧ r = ⟨[], size, .live⟩ ∧ l = ⟨0, 0, size, 0, true⟩) := by
    intro b r l hb hd hl
    rcases get_push hb with hb | ⟨hb, hr⟩
    · have h0 := hH2 b r hb hd
      have hlt := (List.getElem?_eq_some_iff.1 h0).1
      rw [Mu.add_ne (by omega)] at hl
      exact .inl ⟨h0, hl⟩
    · rw [hH1] at hb
      subst hb
      rw [Mu.add_self] at hl
      exact .inr ⟨rfl, hr, (Option.some.inj hl).symm⟩
  have ho : ∀ k, owned (μ.add H.length ⟨0, 0, size, 0, true⟩) (H1 ++ [⟨[], size, .live⟩]) k → owned μ H k ∨ w.heap.size ≤ k := by
    rintro k ⟨b, r, l, hb, hst, hl, hv, rfl⟩
    rcases old b r l hb (by rw [hst]; decide) hl with ⟨h1, h2⟩ | ⟨_, _, rfl⟩
    · exact .inl ⟨b, r, l, h1, hst, h2, hv, rfl⟩
    · cases hv
  refine ⟨μ.add H.length ⟨0, 0, size, 0, true⟩, hrep.alter (fun _ _ _ => rfl) ho hμ rfl (Nat.le_refl _) ?_ ?_ ?_, .rslz a ha H.length 0 _ (Mu.add_self _ _ _), hμ, rfl, Fr.refl _ _, ho⟩
  · intro b l hb
    rw [List.length_append, hH1]
    by_cases h : b = H.length
    · subst h; simp
    · rw [Mu.add_ne h] at hb
      have := hrep.dom b l hb
      omega
  · intro b r l hb hd hl
    rcases old b r l hb hd hl with ⟨h1, h2⟩ | ⟨_, rfl, rfl⟩
    · exact .inr ⟨h1, h2, fun _ _ => rfl⟩
    · exact .inl ⟨rfl, hpos, fun _ => rfl, (fun _ h => by cases h), (fun _ h => by cases h), (fun h => by cases h), (fun h => by cases h), (fun h => by cases h), (fun h => by cases h)⟩
  · intro b b' r r' l l' hb hb' hst hst' hl hl' hv hv' heq
    rcases old b r l hb (by rw [hst]; decide) hl with ⟨h1, h2⟩ | ⟨_, _, rfl⟩
    · rcases old b' r' l' hb' (by rw [hst']; decide) hl' with ⟨h3, h4⟩ | ⟨_, _, rfl⟩
      · exact hrep.inj b b' r r' l l' h1 h3 hst hst' h2 h4 hv hv' heq
      · cases hv'
    · cases hv

structure AppT (P : Program) (t u e : TypeId) (i : TypeInfo) (z : Value) : Prop where
  ht : P.underlying t = some (.slice e)
  hu : (∃ e', P.underlying u = some (.slice e')) ∨ P.underlying u = some .string
  hi : P.info? e = some i
  hz : i.zero = some z
  hzs : z.cells.size = i.size
  hpos : 0 < i.size

/-- an append to a slice that has no room -/
theorem app_empty (hrep : HRep w μ H) {t u e ty : TypeId} {i : TypeInfo} {z : Value} (T : AppT P t u e i z) {a : Option Addr} (ha : ∀ x, a = some x → True) {yv : Value} {ys : List S} {news : List Value}
    (hs : SrcOk P w (excl μ H) μ i.size yv ys news) (hbytes : ys.length * i.bytes ≤ 140737488355328) (h63 : ys.length ≤ maxLen) {H1 : Heap} (hH1 : H1.length = H.length) (hH2 : ∀ (b : Nat) (r : Row), H1[b]? = some r → r.st ≠ .dead → H[b]? = some r) :
    ∃ v w' μ', (Builtin.append_ #[t, u] ty #[.slice a 0 0, yv]).run P w = .ok v w' ∧ Step w μ H w' μ' (H1 ++ [⟨ys, i.size, .live⟩]) v (.rsl H.length 0 ys.length) := by
  by_cases h0 : ys = []
  · subst h0
    have hn : news = [] := List.eq_nil_of_length_eq_zero (by simpa using hs.len)
    subst hn
    obtain ⟨μ', hst⟩ := virt_step hrep T.hpos hH1 hH2 ha
    exact ⟨_, _, μ', run_app_nothing T.ht T.hu T.hi hs.runLen hs.runCells, hst⟩
  · have h1 : 0 < ys.length := List.length_pos_iff.2 h0
    have hrun := run_app_grow (P := P) (ty := ty) T.ht T.hu T.hi T.hz (a := a) (len := 0) (cap := 0) (olds := []) (fun w1 _ => by cases a <;> simp [Builtin.firstCells, loadCells, loadCellsFrom]) hs.runLen hs.runCells (by omega) (by omega) (by simpa using hbytes)
    obtain ⟨μ', hst⟩ := app_grow_step hrep T.hpos (cap := 0) (xs := []) (olds := []) T.hzs rfl rfl (by simp) hs.len (fun i j hi => by simp at hi) hs.rep (fun _ h => by cases h) hs.lens (fun _ h => by cases h) hs.ok (by simpa using h63) hH1 hH2
    refine ⟨_, _, μ', hrun, ?_⟩
    simpa using hst

theorem set_len (H : Heap) (b : Nat) (r : Row) : (H.set b r).length = H.length := by simp
theorem set_dead {H : Heap} {b : Nat} {n : Nat} : ∀ (b' : Nat) (r' : Row), (H.set b ⟨[], n, .dead⟩)[b']? = some r' → r'.st ≠ .dead → H[b']? = some r' := by
  intro b' r' h hd
  by_cases hb : b' = b
  · subst hb
    rw [List.getElem?_set] at h
    simp only [if_true] at h
    split at h
    · cases h; exact absurd rfl hd
    · cases h
  · rwa [List.getElem?_set_ne (Ne.symm hb)] at h
theorem set_dead_ne {H : Heap} {b : Nat} {n : Nat} : ∀ (b' : Nat) (r' : Row), (H.set b ⟨[], n, .dead⟩)[b']? = some r' → r'.st ≠ .dead → b' ≠ b := by
  intro b' r' h hd hb
  subst hb
  rw [List.getElem?_set] at h
  simp only [if_true] at h
  split at h
  · cases h; exact absurd rfl hd
  · cases h

/-- an append within the room -/
theorem app_room_step (hrep : HRep w μ H) {b off len cap m : Nat} {r : Row} {l : Loc} {ys : List S} {news : List Value} {yv : Value} (hb : H[b]? = some r) (hst : r.st = .live) (hl : μ b = some l) (hv : l.virt = false)
    (hlen : off + len ≤ r.es.length) (hr : l.base + (off + cap) * l.size ≤ l.room) (hs : SrcOk P w (excl μ H) μ l.size yv ys news) (hm : ys.length = m) (hroom : len + m ≤ cap) (hcap : cap ≤ maxLen)
    {c : Array Value} {ct : TypeId} (hheap : w.heap[l.blk]? = some (.cells c ct (0, 0))) (hcs : c.size = l.room) :
    ∃ μ', Step w μ H (w.setRow l.blk (c.toList.take (l.base + off * l.size + len * l.size) ++ news ++ c.toList.drop (l.base + off * l.size + len * l.size + news.length)).toArray) μ'
      (H.set b ⟨[], r.size, .dead⟩ ++ [⟨(r.es.drop off).take len ++ ys, l.size, .live⟩]) (.slice (some ⟨l.blk, l.base + off * l.size, none⟩) (len + m) cap) (.rsl H.length 0 (len + m)) := by
  have rr := hrep.row b r l hb (by rw [hst]; decide) hl
  have hX : owned μ H l.blk := ⟨b, r, l, hb, hst, hl, hv, rfl⟩
  have hnl : news.length = m * l.size := by rw [hs.len, hm]
  have hcapm : (off + (len + m)) * l.size ≤ (off + cap) * l.size := Nat.mul_le_mul_right _ (by omega)
  rw [Nat.add_mul, Nat.add_mul, Nat.add_mul] at hcapm
  have hr2 : l.base + off * l.size + cap * l.size ≤ l.room := by rw [Nat.add_mul] at hr; omega
  have hfit : l.base + off * l.size + len * l.size + news.length ≤ c.size := by omega
  have hget := getD_splice c (l.base + off * l.size + len * l.size) news hfit
  have hsz' := take_splice c (l.base + off * l.size + len * l.size) news hfit
  generalize (c.toList.take (l.base + off * l.size + len * l.size) ++ news ++ c.toList.drop (l.base + off * l.size + len * l.size + news.length)).toArray = c' at *
  have hheap' : (w.setRow l.blk c').heap[l.blk]? = some (.cells c' ct (0, 0)) := setRow_heap w l.blk c c' ct (0, 0) hheap
  have hk : Keeps (owned μ H) w (w.setRow l.blk c') := Keeps.setRow hX
  have hμ : ∀ (b' : Nat) (l' : Loc), μ b' = some l' → (μ.add H.length ⟨l.blk, l.base + off * l.size, l.size, l.room, false⟩) b' = some l' := by
    intro b' l' hb'
    rw [Mu.add_ne (by rintro rfl; rw [hrep.fresh] at hb'; cases hb')]
    exact hb'
  have old : ∀ (b' : Nat) (r' : Row) (l' : Loc), (H.set b ⟨[], r.size, .dead⟩ ++ [(⟨(r.es.drop off).take len ++ ys, l.size, .live⟩ : Row)])[b']? = some r' → r'.st ≠ .dead → (μ.add H.length ⟨l.blk, l.base + off * l.size, l.size, l.room, false⟩) b' = some l' →
      (H[b']? = some r' ∧ μ b' = some l' ∧ b' ≠ b) ∨ (b' = H.length ∧ r' = ⟨(r.es.drop off).take len ++ ys, l.size, .live⟩ ∧ l' = ⟨l.blk, l.base + off * l.size, l.size, l.room, false⟩) := by
    intro b' r' l' hb' hd hl'
    rcases get_push hb' with hb' | ⟨hb', hr'⟩
    · have h0 := set_dead b' r' hb' hd
      have hlt := (List.getElem?_eq_some_iff.1 h0).1
      rw [Mu.add_ne (by omega)] at hl'
      exact .inl ⟨h0, hl', set_dead_ne b' r' hb' hd⟩
    · rw [set_len] at hb'
      subst hb'
      rw [Mu.add_self] at hl'
      exact .inr ⟨rfl, hr', (Option.some.inj hl').symm⟩
  have ho : ∀ k, owned (μ.add H.length ⟨l.blk, l.base + off * l.size, l.size, l.room, false⟩) (H.set b ⟨[], r.size, .dead⟩ ++ [⟨(r.es.drop off).take len ++ ys, l.size, .live⟩]) k → owned μ H k ∨ w.heap.size ≤ k := by
    rintro k ⟨b', r', l', hb', hst', hl', hv', rfl⟩
    rcases old b' r' l' hb' (by rw [hst']; decide) hl' with ⟨h1, h2, _⟩ | ⟨_, _, rfl⟩
    · exact .inl ⟨b', r', l', h1, hst', h2, hv', rfl⟩
    · exact .inl hX
  have hmono : ∀ {v : Value} {s : S}, Rep w (excl μ H) μ v s → Rep (w.setRow l.blk c') (excl (μ.add H.length ⟨l.blk, l.base + off * l.size, l.size, l.room, false⟩) (H.set b ⟨[], r.size, .dead⟩ ++ [⟨(r.es.drop off).take len ++ ys, l.size, .live⟩])) (μ.add H.length ⟨l.blk, l.base + off * l.size, l.size, l.room, false⟩) v s :=
    fun h => h.keeps hk.excl (excl_of ho rfl) hμ
  have hxl : ((r.es.drop off).take len).length = len := by simp; omega
  refine ⟨μ.add H.length ⟨l.blk, l.base + off * l.size, l.size, l.room, false⟩, hrep.alter hk ho hμ rfl (by simp) ?_ ?_ ?_, ?_, hμ, rfl, Fr.setRow hX, ho⟩
  · intro b' l' hb'
    rw [List.length_append, set_len]
    by_cases h : b' = H.length
    · subst h; simp
    · rw [Mu.add_ne h] at hb'
      have := hrep.dom b' l' hb'
      omega
  · intro b' r' l' hb' hd hl'
    rcases old b' r' l' hb' hd hl' with ⟨h1, h2, hne⟩ | ⟨_, rfl, rfl⟩
    · refine .inr ⟨h1, h2, fun hst' hv' => setRow_other w l.blk l'.blk c' (fun heq => hne (hrep.inj b' b r' r l' l h1 hb hst' hst h2 hl hv' hv heq))⟩
    · refine .inl ⟨rfl, rr.pos, (fun h => by cases h), ?_, ?_, ?_, ?_, (fun _ _ => ⟨c', ct, hheap', by rw [hsz', hcs]⟩), (fun _ h => by cases h)⟩
      · intro e he
        rcases List.mem_append.1 he with h | h
        · exact rr.lens e (List.mem_of_mem_drop (List.mem_of_mem_take h))
        · exact hs.lens e h
      · intro e he
        rcases List.mem_append.1 he with h | h
        · exact rr.cellOk e (List.mem_of_mem_drop (List.mem_of_mem_take h))
        · exact hs.ok e h
      · intro _
        show l.base + off * l.size + ((r.es.drop off).take len ++ ys).length * l.size ≤ l.room
        rw [List.length_append, hxl, hm, Nat.add_mul]
        omega
      · intro _ i j hi hj
        simp only [List.length_append, hxl, hm] at hi
        have hj : j < l.size := hj
        show ∃ v, (w.setRow l.blk c').cell? ⟨l.blk, l.base + off * l.size + i * l.size + j, none⟩ = some v ∧ _
        have hk2 : i * l.size + j < (len + m) * l.size := by
          have : (i + 1) * l.size ≤ (len + m) * l.size := Nat.mul_le_mul_right _ hi
          rw [Nat.add_mul] at this
          omega
        rw [Nat.add_mul] at hk2
        refine ⟨c'.getD (l.base + off * l.size + i * l.size + j) undef, cell_getD hheap' (by rw [hsz', hcs]; omega), ?_⟩
        rw [hget, List.getD_append_cases, hxl]
        by_cases hc : i < len
        · have h5 : i * l.size + j < len * l.size := by
            have : (i + 1) * l.size ≤ len * l.size := Nat.mul_le_mul_right _ hc
            rw [Nat.add_mul] at this
            omega
          rw [if_neg (by omega), if_pos hc]
          obtain ⟨v0, h6, h7⟩ := rr.cells hv (off + i) j (by omega) hj
          rw [Nat.add_mul] at h6
          have h8 := (getD_cell hheap h6).2
          rw [show l.base + off * l.size + i * l.size + j = l.base + (off * l.size + i * l.size) + j by omega, h8]
          have : ((r.es.drop off).take len).getD i .dead = r.es.getD (off + i) .dead := by
            simp only [List.getD_eq_getElem?_getD]
            rw [List.getElem?_take_of_lt hc, List.getElem?_drop]
          rw [this]
          exact hmono h7
        · have h5 : len * l.size ≤ i * l.size := Nat.mul_le_mul_right _ (by omega)
          rw [if_pos ⟨by omega, by omega⟩, if_neg hc]
          have h6 : l.base + off * l.size + i * l.size + j - (l.base + off * l.size + len * l.size) = (i - len) * l.size + j := by rw [Nat.sub_mul]; omega
          rw [h6]
          exact hmono (hs.rep (i - len) j (by omega) hj)
  · intro b1 b2 r1 r2 l1 l2 h1 h2 hs1 hs2 hl1 hl2 hv1 hv2 heq
    rcases old b1 r1 l1 h1 (by rw [hs1]; decide) hl1 with ⟨g1, g2, g3⟩ | ⟨rfl, _, rfl⟩ <;> rcases old b2 r2 l2 h2 (by rw [hs2]; decide) hl2 with ⟨k1, k2, k3⟩ | ⟨rfl, _, rfl⟩
    · exact hrep.inj b1 b2 r1 r2 l1 l2 g1 k1 hs1 hs2 g2 k2 hv1 hv2 heq
    · exact absurd (hrep.inj b1 b r1 r l1 l g1 hb hs1 hst g2 hl hv1 hv heq) g3
    · exact absurd (hrep.inj b2 b r2 r l2 l k1 hb hs2 hst k2 hl hv2 hv heq.symm) k3
    · rfl
  · have := Rep.rsl (w := w.setRow l.blk c') (X := excl (μ.add H.length ⟨l.blk, l.base + off * l.size, l.size, l.room, false⟩) (H.set b ⟨[], r.size, .dead⟩ ++ [⟨(r.es.drop off).take len ++ ys, l.size, .live⟩])) (μ := μ.add H.length ⟨l.blk, l.base + off * l.size, l.size, l.room, false⟩) H.length 0 (len + m) cap _ (Mu.add_self _ _ _) rfl hroom hcap (by simp only [Nat.zero_add]; omega)
    simpa using this

theorem app_rsl (hrep : HRep w μ H) {t u e ty : TypeId} {i : TypeInfo} {z : Value} (T : AppT P t u e i z) {xv yv : Value} {b off len : Nat} {r : Row} (hx : Rep w (excl μ H) μ xv (.rsl b off len)) (hb : H[b]? = some r) (hst : r.st = .live) (hsz : r.size = i.size)
    (hlen : off + len ≤ r.es.length) {ys : List S} {news : List Value} (hs : SrcOk P w (excl μ H) μ i.size yv ys news) (hbytes : (len + ys.length) * i.bytes ≤ 140737488355328) (h63 : len + ys.length ≤ maxLen) :
    ∃ v w' μ', (Builtin.append_ #[t, u] ty #[xv, yv]).run P w = .ok v w' ∧ Step w μ H w' μ' (H.set b ⟨[], r.size, .dead⟩ ++ [⟨(r.es.drop off).take len ++ ys, i.size, .live⟩]) v (.rsl H.length 0 (len + ys.length)) := by
  cases hx with
  | rslz a ha _ _ l hl =>
    obtain ⟨v, w', μ', h1, h2⟩ := app_empty hrep (ty := ty) T ha hs (by simpa using hbytes) (by omega) (set_len H b ⟨[], r.size, .dead⟩) set_dead
    exact ⟨v, w', μ', h1, by simpa using h2⟩
  | rsl _ _ _ cap l hl hv hc hm hr =>
    have rr := hrep.row b r l hb (by rw [hst]; decide) hl
    have hls : l.size = i.size := by rw [← rr.size, hsz]
    obtain ⟨c, ct, hheap, hcs⟩ := rr.live hv hst
    by_cases hroom : len + ys.length ≤ cap
    · rw [← hls] at hs
      obtain ⟨μ', hstep⟩ := app_room_step hrep hb hst hl hv hlen hr hs rfl hroom hm hheap hcs
      rw [hls] at hs
      have hfit : l.base + off * l.size + len * i.size + news.length ≤ c.size := by
        have := hs.len
        have h4 : (off + (len + ys.length)) * l.size ≤ (off + cap) * l.size := Nat.mul_le_mul_right _ (by omega)
        rw [Nat.add_mul, Nat.add_mul] at h4
        rw [hls] at h4 hr ⊢
        omega
      have hrun := run_app_room (P := P) (ty := ty) T.ht T.hu T.hi (o := l.base + off * l.size) (len := len) hheap hs.runLen hs.runCells (hs.one T.hpos) hroom hfit
      refine ⟨_, _, μ', hrun, ?_⟩
      rw [← hls]
      exact hstep
    · have hrow : rowAt H b = some r := by simp [rowAt, hb, hst]
      obtain ⟨olds, ho⟩ := src_sound (P := P) hrep T.hpos (Rep.rsl (w := w) (X := excl μ H) b off len cap l hl hv hc hm hr) (show srcOf H i.size (.rsl b off len) = some ((r.es.drop off).take len) by simp [srcOf, hrow, hsz, hlen])
        (fun e he => by rw [rr.lens e (List.mem_of_mem_drop (List.mem_of_mem_take he)), hls])
      have hxl : ((r.es.drop off).take len).length = len := by simp; omega
      have hrun := run_app_grow (P := P) (ty := ty) T.ht T.hu T.hi T.hz (a := some ⟨l.blk, l.base + off * l.size, none⟩) (len := len) (cap := cap) (fun w1 h1 => by have := ho.runCells w1 h1; rw [hxl] at this; exact this) hs.runLen hs.runCells (by omega) h63 hbytes
      obtain ⟨μ', hstep⟩ := app_grow_step hrep T.hpos (cap := cap) (e := e) T.hzs hxl rfl (by rw [ho.len, hxl]) hs.len (fun i j hi hj => ho.rep i j (by omega) hj) hs.rep ho.lens hs.lens ho.ok hs.ok h63 (set_len H b ⟨[], r.size, .dead⟩) set_dead
      exact ⟨_, _, μ', hrun, hstep⟩
end app
end Go.Vm
