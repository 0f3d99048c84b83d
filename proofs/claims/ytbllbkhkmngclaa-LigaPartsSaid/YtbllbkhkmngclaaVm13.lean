/-
  The abstract machine, part 13: weakening a state; regions in the order of the text; code.
-/
import Derived.Test.YtbllbkhkmngclaaVm12
namespace Go.Vm
open Go Go.RowKit

mutual
def S.ren (ρ : Nat → Nat) : S → S
  | .pure v => .pure v
  | .empty => .empty
  | .rsl b off len => .rsl (ρ b) off len
  | .ptr b i off => .ptr (ρ b) i off
  | .pptr v off => .pptr v off
  | .agg cs => .agg (S.rens ρ cs)
  | .func fn f c => .func fn (S.rens ρ f) (S.rens ρ c)
  | .iface t s => .iface t (S.ren ρ s)
  | .tup ss => .tup (S.rens ρ ss)
  | .dead => .dead
def S.rens (ρ : Nat → Nat) : List S → List S
  | [] => []
  | s :: r => S.ren ρ s :: S.rens ρ r
end
mutual
def S.inb (n : Nat) : S → Bool
  | .pure _ | .empty | .pptr _ _ | .dead => true
  | .rsl b _ _ => decide (b < n)
  | .ptr b _ _ => decide (b < n)
  | .agg cs => S.inbs n cs
  | .func _ f c => S.inbs n f && S.inbs n c
  | .iface _ s => S.inb n s
  | .tup ss => S.inbs n ss
def S.inbs (n : Nat) : List S → Bool
  | [] => true
  | s :: r => S.inb n s && S.inbs n r
end
theorem S.rens_eq (ρ : Nat → Nat) (l : List S) : S.rens ρ l = l.map (S.ren ρ) := by
  induction l with
  | nil => rfl
  | cons s r ih => simp [S.rens, ih]
theorem S.inbs_eq (n : Nat) (l : List S) : S.inbs n l = true ↔ ∀ s ∈ l, s.inb n = true := by
  induction l with
  | nil => simp [S.inbs]
  | cons s r ih => simp [S.inbs, ih]
theorem S.ren_isCell (ρ : Nat → Nat) (s : S) : (s.ren ρ).isCell = s.isCell := by cases s <;> simp [S.ren, S.isCell]
theorem S.ren_cells (ρ : Nat → Nat) (s : S) : (s.ren ρ).cells = s.cells.map (S.ren ρ) := by
  cases s <;> simp [S.ren, S.cells, S.rens_eq]

theorem Rep.unren {w : World} {X X' : Nat → Prop} {μ μ' : Mu} {ρ : Nat → Nat} {N : Nat} (hX : ∀ k, X' k → X k) (hμ : ∀ b l, b < N → μ (ρ b) = some l → μ' b = some l) {v : Value} {t : S} (h : Rep w X μ v t) :
    ∀ s, t = s.ren ρ → s.inb N = true → Rep w X' μ' v s := by
  induction h with
  | pure v d h =>
    intro s hs hb
    cases s <;> simp [S.ren] at hs
    subst hs
    exact .pure _ _ (h.less hX)
  | empty a ha =>
    intro s hs hb
    cases s <;> simp [S.ren] at hs
    exact .empty a ha
  | rsl b off len cap l hl hv hc hm hr =>
    intro s hs hb
    cases s <;> simp [S.ren] at hs
    obtain ⟨rfl, rfl, rfl⟩ := hs
    exact .rsl _ _ _ cap l (hμ _ _ (by simpa [S.inb] using hb) hl) hv hc hm hr
  | rslz a ha b off l hl =>
    intro s hs hb
    cases s <;> simp [S.ren] at hs
    obtain ⟨rfl, rfl, h3⟩ := hs
    subst h3
    exact .rslz a ha _ _ l (hμ _ _ (by simpa [S.inb] using hb) hl)
  | ptr b i off l hl hv =>
    intro s hs hb
    cases s <;> simp [S.ren] at hs
    obtain ⟨rfl, rfl, rfl⟩ := hs
    exact .ptr _ _ _ l (hμ _ _ (by simpa [S.inb] using hb) hl) hv
  | pptr blk o d off f hz hx hcell hw hr =>
    intro s hs hb
    cases s <;> simp [S.ren] at hs
    obtain ⟨rfl, rfl⟩ := hs
    exact .pptr blk o _ _ f hz (fun h => hx (hX _ h)) hcell hw (fun j hj => (hr j hj).less hX)
  | agg cs ss hl hc _ ih =>
    intro s hs hb
    cases s <;> simp [S.ren, S.rens_eq] at hs
    rename_i q
    subst hs
    simp only [S.inb] at hb
    rw [S.inbs_eq] at hb
    refine .agg cs q (by simpa using hl) (fun s hs => by have := hc (s.ren ρ) (List.mem_map_of_mem hs); rwa [S.ren_isCell] at this) fun i hi => ?_
    refine ih i (by simpa using hi) _ ?_ (hb _ (by rw [List.getD_eq_getElem?_getD, List.getElem?_eq_getElem hi]; exact List.getElem_mem _))
    simp [List.getD_eq_getElem?_getD, List.getElem?_map, List.getElem?_eq_getElem hi]
  | func fn f c fs cs h1 h2 _ _ ih1 ih2 =>
    intro s hs hb
    cases s <;> simp [S.ren, S.rens_eq] at hs
    rename_i q r
    obtain ⟨rfl, rfl, rfl⟩ := hs
    simp only [S.inb, Bool.and_eq_true] at hb
    rw [S.inbs_eq, S.inbs_eq] at hb
    refine .func _ f c q r (by simpa using h1) (by simpa using h2) (fun i hi => ?_) (fun i hi => ?_)
    · refine ih1 i (by simpa using hi) _ ?_ (hb.1 _ (by rw [List.getD_eq_getElem?_getD, List.getElem?_eq_getElem hi]; exact List.getElem_mem _))
      simp [List.getD_eq_getElem?_getD, List.getElem?_map, List.getElem?_eq_getElem hi]
    · refine ih2 i (by simpa using hi) _ ?_ (hb.2 _ (by rw [List.getD_eq_getElem?_getD, List.getElem?_eq_getElem hi]; exact List.getElem_mem _))
      simp [List.getD_eq_getElem?_getD, List.getElem?_map, List.getElem?_eq_getElem hi]
  | iface t v s0 _ ih =>
    intro s hs hb
    cases s <;> simp [S.ren] at hs
    obtain ⟨rfl, rfl⟩ := hs
    exact .iface _ _ _ (ih _ rfl (by simpa [S.inb] using hb))
  | tup vs ss hl _ ih =>
    intro s hs hb
    cases s <;> simp [S.ren, S.rens_eq] at hs
    rename_i q
    subst hs
    simp only [S.inb] at hb
    rw [S.inbs_eq] at hb
    refine .tup vs q (by simpa using hl) fun i hi => ?_
    refine ih i (by simpa using hi) _ ?_ (hb _ (by rw [List.getD_eq_getElem?_getD, List.getElem?_eq_getElem hi]; exact List.getElem_mem _))
    simp [List.getD_eq_getElem?_getD, List.getElem?_map, List.getElem?_eq_getElem hi]
  | dead v =>
    intro s hs hb
    cases s <;> simp [S.ren] at hs
    exact .dead v

/-- A state that says less: under a renaming of rows, with rows dropped or frozen, slots forgotten. -/
structure Weak (kp : Nat) (env : Env) (H : Heap) (E : Env) (HE : Heap) (ρ : Nat → Nat) : Prop where
  inj : ∀ i j, i < HE.length → j < HE.length → ρ i = ρ j → i = j
  fix : ∀ i, i < kp → i < HE.length ∧ ρ i = i
  env : ∀ p ∈ E, p.2.inb HE.length = true ∧ p.2.ren ρ = env.get p.1
  row : ∀ (b : Nat) (r' : Row), HE[b]? = some r' → r'.st = .dead ∨ ∃ r, H[ρ b]? = some r ∧ r.st ≠ .dead ∧ (r'.st = r.st ∨ r'.st = .frozen) ∧ r'.size = r.size ∧ r.es = r'.es.map (S.ren ρ) ∧ ∀ e ∈ r'.es, e.inb HE.length = true

theorem Env.get_mem {E : Env} {d : Nat} : E.get d = .dead ∨ (d, E.get d) ∈ E := by
  induction E with
  | nil => exact .inl rfl
  | cons p r ih =>
    obtain ⟨k, s⟩ := p
    rw [Env.get_cons]
    by_cases h : k = d
    · rw [if_pos h]; subst h; exact .inr (by simp)
    · rw [if_neg h]
      exact ih.imp id (fun h => by simp [h])

def Mu.re (μ : Mu) (ρ : Nat → Nat) (N : Nat) : Mu := ⟨fun b => if b < N then μ (ρ b) else none, μ.xo⟩

theorem S.inb_cells {n : Nat} {e : S} (h : e.inb n = true) : ∀ s ∈ e.cells, s.inb n = true := by
  intro s hs
  cases e with
  | pure v =>
    simp only [S.cells, List.mem_map] at hs
    obtain ⟨v', _, rfl⟩ := hs
    rfl
  | agg cs =>
    simp only [S.inb] at h
    rw [S.inbs_eq] at h
    exact h s hs
  | _ => simp [S.cells] at hs; subst hs; exact h

theorem HRep.weak {w : World} {μ : Mu} {kp : Nat} {env E : Env} {H HE : Heap} {ρ : Nat → Nat} (h : HRep w μ H) (hw : Weak kp env H E HE ρ) :
    HRep w (μ.re ρ HE.length) HE ∧ (∀ k, owned (μ.re ρ HE.length) HE k → owned μ H k) := by
  have hμ : ∀ b l, b < HE.length → μ (ρ b) = some l → (μ.re ρ HE.length) b = some l := fun b l hb hl => by simp [Mu.re, hb, hl]
  have hμ' : ∀ b l, (μ.re ρ HE.length) b = some l → b < HE.length ∧ μ (ρ b) = some l := by
    intro b l hl
    simp only [Mu.re] at hl
    split at hl
    · exact ⟨by assumption, hl⟩
    · cases hl
  have liveOf : ∀ (b : Nat) (r' : Row), HE[b]? = some r' → r'.st = .live → ∃ r, H[ρ b]? = some r ∧ r.st = .live := by
    intro b r' hb hst
    rcases hw.row b r' hb with h1 | ⟨r, h1, h2, h3, _⟩
    · rw [hst] at h1; cases h1
    · rcases h3 with h3 | h3
      · exact ⟨r, h1, by rw [← h3, hst]⟩
      · rw [hst] at h3; cases h3
  have ho : ∀ k, owned (μ.re ρ HE.length) HE k → owned μ H k := by
    rintro k ⟨b, r', l, hb, hst, hl, hv, rfl⟩
    obtain ⟨r, h1, h2⟩ := liveOf b r' hb hst
    exact ⟨ρ b, r, l, h1, h2, (hμ' b l hl).2, hv, rfl⟩
  have hX : ∀ k, excl (μ.re ρ HE.length) HE k → excl μ H k := fun k hk => hk.imp (ho k) id
  refine ⟨⟨fun b l hl => (hμ' b l hl).1, fun k hk => ⟨(h.xo k hk).1, fun h1 => (h.xo k hk).2 (ho k h1)⟩, ?_, ?_⟩, ho⟩
  · intro b r' l hb hd hl
    rcases hw.row b r' hb with h1 | ⟨r, h1, h2, h3, h4, h5, h6⟩
    · exact absurd h1 hd
    · obtain ⟨hbl, hl'⟩ := hμ' b l hl
      have rr := h.row (ρ b) r l h1 h2 hl'
      have hlen : r.es.length = r'.es.length := by rw [h5]; simp
      refine ⟨by rw [h4, rr.size], rr.pos, (fun hv => ?_), (fun e he => ?_), (fun e he s hs => ?_), (fun hv => by rw [← hlen]; exact rr.fits hv), (fun hv i j hi hj => ?_), (fun hv hst => ?_), (fun hv hst hne hx => ?_)⟩
      · have := rr.virt hv
        rw [h5] at this
        exact List.map_eq_nil_iff.1 this
      · have := rr.lens (e.ren ρ) (by rw [h5]; exact List.mem_map_of_mem he)
        rw [S.ren_cells] at this
        simpa using this
      · have := rr.cellOk (e.ren ρ) (by rw [h5]; exact List.mem_map_of_mem he) (s.ren ρ) (by rw [S.ren_cells]; exact List.mem_map_of_mem hs)
        rwa [S.ren_isCell] at this
      · obtain ⟨v, h7, h8⟩ := rr.cells hv i j (by omega) hj
        have hi' : i < r'.es.length := hi
        have hm : r'.es[i] ∈ r'.es := List.getElem_mem _
        have he : r'.es.getD i .dead = r'.es[i] := by rw [List.getD_eq_getElem?_getD, List.getElem?_eq_getElem hi']; rfl
        have hcl : (r'.es[i]).cells.length = l.size := by
          have := rr.lens ((r'.es[i]).ren ρ) (by rw [h5]; exact List.mem_map_of_mem hm)
          rw [S.ren_cells] at this
          simpa using this
        refine ⟨v, h7, h8.unren hX hμ _ ?_ ?_⟩
        · rw [h5, he]
          simp only [List.getD_eq_getElem?_getD, List.getElem?_map, List.getElem?_eq_getElem hi', Option.map_some, Option.getD_some, S.ren_cells]
          rw [List.getElem?_eq_getElem (by omega)]
          rfl
        · rw [he]
          refine S.inb_cells (h6 _ hm) _ ?_
          rw [List.getD_eq_getElem?_getD, List.getElem?_eq_getElem (by omega)]
          exact List.getElem_mem _
      · rcases h3 with h3 | h3
        · exact rr.live hv (by rw [← h3, hst])
        · rw [hst] at h3; cases h3
      · have hne' : r.es ≠ [] := by rw [h5]; simpa using hne
        cases hrs : r.st with
        | dead => exact h2 hrs
        | frozen => exact rr.frozen hv hrs hne' (hX _ hx)
        | live =>
          rcases hx with ⟨b', r2', l2, g1, g2, g3, g4, g5⟩ | hx
          · obtain ⟨r2, g6, g7⟩ := liveOf b' r2' g1 g2
            have := h.inj (ρ b') (ρ b) r2 r l2 l g6 h1 g7 hrs (hμ' b' l2 g3).2 hl' g4 hv g5
            have hbb := hw.inj b' b (hμ' b' l2 g3).1 hbl this
            subst hbb
            rw [hb] at g1
            cases g1
            rw [hst] at g2; cases g2
          · exact (h.xo _ hx).2 ⟨ρ b, r, l, h1, hrs, hl', hv, rfl⟩
  · intro b b' r r' l l' hb hb' hst hst' hl hl' hv hv' heq
    obtain ⟨r1, g1, g2⟩ := liveOf b r hb hst
    obtain ⟨r2, g3, g4⟩ := liveOf b' r' hb' hst'
    exact hw.inj b b' (hμ' b l hl).1 (hμ' b' l' hl').1 (h.inj (ρ b) (ρ b') r1 r2 l l' g1 g3 g2 g4 (hμ' b l hl).2 (hμ' b' l' hl').2 hv hv' heq)

theorem Rel.weak {w0 : World} {X0 : Nat → Prop} {μ0 : Mu} {n kp : Nat} {env E : Env} {H HE : Heap} {a : Act} {w : World} {μ : Mu} {ρ : Nat → Nat} (h : Rel w0 X0 μ0 n env H a w μ) (hk : ∀ (b : Nat) (l : Loc), μ0 b = some l → b < kp) (hw : Weak kp env H E HE ρ) :
    Rel w0 X0 μ0 n E HE a w (μ.re ρ HE.length) := by
  obtain ⟨h1, h2⟩ := h.heap.weak hw
  refine ⟨h.tmps, h.defers, fun d => ?_, h1, h.fr, fun k hk' => h.own k (h2 k hk'), fun b l hb => ?_, h.xo⟩
  · rcases Env.get_mem (E := E) (d := d) with hd | hd
    · rw [hd]; exact .dead _
    · obtain ⟨h3, h4⟩ := hw.env _ hd
      exact (h.env d).unren (fun k hk' => hk'.imp (h2 k) id) (fun b l hb hl => by simp [Mu.re, hb, hl]) _ h4.symm h3
  · obtain ⟨h3, h4⟩ := hw.fix b (hk b l hb)
    simp [Mu.re, h3, h4, h.pre b l hb]

/-- A slice that has no room gets a row of its own name. -/
theorem Rel.virt {w0 : World} {X0 : Nat → Prop} {μ0 : Mu} {n : Nat} {env : Env} {H : Heap} {a : Act} {w : World} {μ : Mu} (h : Rel w0 X0 μ0 n env H a w μ) {d : Nat} (hd : env.get d = .empty) (size : Nat) (hs : 0 < size) :
    ∃ μ', Rel w0 X0 μ0 n ((d, .rsl H.length 0 0) :: env) (H ++ [⟨[], size, .live⟩]) a w μ' := by
  have he := h.env d
  rw [hd] at he
  obtain ⟨ad, hv, had⟩ := he.empty_inv
  obtain ⟨μ', hst⟩ := virt_step h.heap hs (H1 := H) rfl (fun _ _ h _ => h) had
  have h2 := h.step_none hst
  refine ⟨μ', h2.tmps, h2.defers, fun d' => ?_, h2.heap, h2.fr, h2.own, h2.pre, h2.xo⟩
  rw [Env.get_cons]
  by_cases hdd : d = d'
  · subst hdd
    rw [if_pos rfl, hv]
    exact hst.val
  · rw [if_neg hdd]
    exact h2.env d'

/-! rows that are written no more -/
def frz1 (b : Nat) (H : Heap) : Heap := H.mapIdx fun i r => if i = b ∧ r.st = .live then ⟨r.es, r.size, .frozen⟩ else r
theorem frz1_get {b : Nat} {H : Heap} {i : Nat} {r : Row} (h : (frz1 b H)[i]? = some r) : ∃ r0, H[i]? = some r0 ∧ r.es = r0.es ∧ r.size = r0.size ∧ (r.st = .live → r = r0) ∧ (r.st = .frozen → r0.st = .frozen ∨ r0.st = .live) ∧ (r.st = .dead ↔ r0.st = .dead) := by
  simp only [frz1, List.getElem?_mapIdx] at h
  obtain ⟨r0, h1, rfl⟩ := Option.map_eq_some_iff.1 h
  refine ⟨r0, h1, ?_⟩
  split
  · rename_i hc; simp [hc.2]
  · simp; intro h; exact .inl h
theorem owned_frz1 {μ : Mu} {b : Nat} {H : Heap} {k : Nat} (h : owned μ (frz1 b H) k) : owned μ H k := by
  obtain ⟨i, r, l, hb, hst, hl, hv, rfl⟩ := h
  obtain ⟨r0, h1, _, _, h4, _⟩ := frz1_get hb
  obtain rfl := h4 hst
  exact ⟨i, r, l, h1, hst, hl, hv, rfl⟩
theorem HRep.frz1 {w : World} {μ : Mu} {H : Heap} {b : Nat} (h : HRep w μ H) : HRep w μ (frz1 b H) := by
  have hX : ∀ k, excl μ (Vm.frz1 b H) k → excl μ H k := fun k hk => hk.imp owned_frz1 id
  refine ⟨fun i l hl => by have := h.dom i l hl; simpa [Vm.frz1] using this, fun k hk => ⟨(h.xo k hk).1, fun h2 => (h.xo k hk).2 (owned_frz1 h2)⟩, ?_, ?_⟩
  · intro i r l hb hd hl
    obtain ⟨r0, h1, h2, h3, h4, h5, h6⟩ := frz1_get hb
    have hd0 : r0.st ≠ .dead := fun e => hd (h6.2 e)
    have rr := h.row i r0 l h1 hd0 hl
    refine ⟨by rw [h3, rr.size], rr.pos, fun hv => by rw [h2]; exact rr.virt hv, fun e he => rr.lens e (by rw [← h2]; exact he), fun e he => rr.cellOk e (by rw [← h2]; exact he), fun hv => by rw [h2]; exact rr.fits hv, fun hv i j hi hj => ?_, fun hv hst => ?_, fun hv hst hne hx => ?_⟩
    · rw [h2] at hi ⊢
      obtain ⟨v, g1, g2⟩ := rr.cells hv i j hi hj
      exact ⟨v, g1, g2.keeps (fun _ _ _ => rfl) (fun k hk => .inl (hX k hk)) (fun _ _ h => h)⟩
    · obtain rfl := h4 hst
      exact rr.live hv hst
    · rcases h5 hst with h7 | h7
      · exact rr.frozen hv h7 (by rw [← h2]; exact hne) (hX _ hx)
      · -- the row was live: its block is no more among those that are written
        rcases hx with ⟨i', r', l', g1, g2, g3, g4, g5⟩ | hx
        · obtain ⟨r0', k1, _, _, k4, _⟩ := frz1_get g1
          obtain rfl := k4 g2
          have := h.inj i' i r' r0 l' l k1 h1 g2 h7 g3 hl g4 hv g5
          subst this
          rw [hb] at g1
          cases g1
          rw [hst] at g2; cases g2
        · exact (h.xo _ hx).2 ⟨i, r0, l, h1, h7, hl, hv, rfl⟩
  · intro i i' r r' l l' hb hb' hst hst'
    obtain ⟨r0, h1, _, _, h4, _⟩ := frz1_get hb
    obtain ⟨r0', h1', _, _, h4', _⟩ := frz1_get hb'
    obtain rfl := h4 hst
    obtain rfl := h4' hst'
    exact h.inj i i' r r' l l' h1 h1' hst hst'
theorem Rel.frz1 {w0 : World} {X0 : Nat → Prop} {μ0 : Mu} {n : Nat} {env : Env} {H : Heap} {a : Act} {w : World} {μ : Mu} (b : Nat) (h : Rel w0 X0 μ0 n env H a w μ) : Rel w0 X0 μ0 n env (Vm.frz1 b H) a w μ :=
  ⟨h.tmps, h.defers, fun d => (h.env d).keeps (fun _ _ _ => rfl) (fun _ hk => .inl (hk.imp owned_frz1 id)) (fun _ _ h => h), h.heap.frz1, h.fr, fun k hk => h.own k (owned_frz1 hk), h.pre, h.xo⟩

/-- a cell that holds an empty slice holds one of a row of its own -/
theorem HRep.recell {w : World} {μ : Mu} {H : Heap} (h : HRep w μ H) {b i nb : Nat} {r : Row} {e e' : S} {l0 : Loc} (hb : H[b]? = some r) (he : r.es[i]? = some e) (hlen : e'.cells.length = e.cells.length)
    (hc : ∀ j, e'.cells.getD j .dead = e.cells.getD j .dead ∨ (e.cells.getD j .dead = .empty ∧ e'.cells.getD j .dead = .rsl nb 0 0)) (hnb : μ nb = some l0) : HRep w μ (H.set b ⟨r.es.set i e', r.size, r.st⟩) := by
  have hblt := (List.getElem?_eq_some_iff.1 hb).1
  have get : ∀ (b' : Nat) (r' : Row), (H.set b ⟨r.es.set i e', r.size, r.st⟩)[b']? = some r' → (b' = b ∧ r' = ⟨r.es.set i e', r.size, r.st⟩) ∨ (b' ≠ b ∧ H[b']? = some r') := by
    intro b' r' hg
    by_cases hbb : b = b'
    · subst hbb
      rw [List.getElem?_set_self hblt] at hg
      exact .inl ⟨rfl, (Option.some.inj hg).symm⟩
    · rw [List.getElem?_set_ne hbb] at hg
      exact .inr ⟨Ne.symm hbb, hg⟩
  have old : ∀ (b' : Nat) (r' : Row), (H.set b ⟨r.es.set i e', r.size, r.st⟩)[b']? = some r' → ∃ r0, H[b']? = some r0 ∧ r0.st = r'.st := by
    intro b' r' hg
    rcases get b' r' hg with ⟨rfl, rfl⟩ | ⟨_, hg⟩
    · exact ⟨r, hb, rfl⟩
    · exact ⟨r', hg, rfl⟩
  have ho : ∀ k, owned μ (H.set b ⟨r.es.set i e', r.size, r.st⟩) k → owned μ H k := by
    rintro k ⟨b', r', l, h1, h2, h3, h4, rfl⟩
    obtain ⟨r0, g1, g2⟩ := old b' r' h1
    exact ⟨b', r0, l, g1, by rw [g2, h2], h3, h4, rfl⟩
  have hX : ∀ k, excl μ (H.set b ⟨r.es.set i e', r.size, r.st⟩) k → excl μ H k := fun k hk => hk.imp (ho k) id
  have hlow : ∀ {v : Value} {s : S}, Rep w (excl μ H) μ v s → Rep w (excl μ (H.set b ⟨r.es.set i e', r.size, r.st⟩)) μ v s := fun hr => hr.keeps (fun _ _ _ => rfl) (fun k hk => .inl (hX k hk)) (fun _ _ h => h)
  have hilt := (List.getElem?_eq_some_iff.1 he).1
  have hmem : e ∈ r.es := List.mem_of_getElem? he
  have hes : ∀ k, k < r.es.length → (r.es.set i e').getD k .dead = if k = i then e' else r.es.getD k .dead := by
    intro k hk
    simp only [List.getD_eq_getElem?_getD]
    by_cases hki : k = i
    · subst hki; simp [hk]
    · rw [List.getElem?_set_ne (Ne.symm hki), if_neg hki]
  refine ⟨fun b' l hl => by have := h.dom b' l hl; simpa using this, fun k hk => ⟨(h.xo k hk).1, fun h2 => (h.xo k hk).2 (ho k h2)⟩, ?_, ?_⟩
  · intro b' r' l hg hd hl
    rcases get b' r' hg with ⟨rfl, rfl⟩ | ⟨_, hg⟩
    · have rr := h.row b' r l hb hd hl
      refine ⟨rr.size, rr.pos, fun hv => ?_, fun x hx => ?_, fun x hx s hs => ?_, fun hv => ?_, fun hv k j hk hj => ?_, fun hv hst => rr.live hv hst, fun hv hst hne hx => ?_⟩
      · have := rr.virt hv
        rw [this] at hilt
        simp at hilt
      · rcases List.mem_or_eq_of_mem_set hx with hx | rfl
        · exact rr.lens x hx
        · rw [hlen]; exact rr.lens e hmem
      · rcases List.mem_or_eq_of_mem_set hx with hx | rfl
        · exact rr.cellOk x hx s hs
        · obtain ⟨j, hj, rfl⟩ := List.mem_iff_getElem.1 hs
          have hget : x.cells.getD j .dead = x.cells[j] := by rw [List.getD_eq_getElem?_getD, List.getElem?_eq_getElem hj]; rfl
          rcases hc j with h1 | ⟨_, h1⟩
          · rw [← hget, h1, List.getD_eq_getElem?_getD, List.getElem?_eq_getElem (by omega)]
            exact rr.cellOk e hmem _ (List.getElem_mem _)
          · rw [← hget, h1]; rfl
      · have := rr.fits hv
        simpa using this
      · have hk' : k < r.es.length := by simpa using hk
        obtain ⟨v, g1, g2⟩ := rr.cells hv k j hk' hj
        refine ⟨v, g1, ?_⟩
        rw [hes k hk']
        by_cases hki : k = i
        · subst hki
          rw [if_pos rfl]
          rw [show r.es.getD k .dead = e by rw [List.getD_eq_getElem?_getD, he]; rfl] at g2
          rcases hc j with h1 | ⟨h1, h2⟩
          · rw [h1]; exact hlow g2
          · rw [h1] at g2
            rw [h2]
            obtain ⟨ad, rfl, had⟩ := g2.empty_inv
            exact .rslz ad had _ _ l0 hnb
        · rw [if_neg hki]; exact hlow g2
      · exact rr.frozen hv hst (by intro e0; apply hne; rw [e0]; rfl) (hX _ hx)
    · have rr := h.row b' r' l hg hd hl
      exact ⟨rr.size, rr.pos, rr.virt, rr.lens, rr.cellOk, rr.fits, fun hv k j hk hj => by obtain ⟨v, g1, g2⟩ := rr.cells hv k j hk hj; exact ⟨v, g1, hlow g2⟩, rr.live, fun hv hst hne hx => rr.frozen hv hst hne (hX _ hx)⟩
  · intro b1 b2 r1 r2 l1 l2 h1 h2 h3 h4
    obtain ⟨q1, g1, g2⟩ := old b1 r1 h1
    obtain ⟨q2, g3, g4⟩ := old b2 r2 h2
    exact h.inj b1 b2 q1 q2 l1 l2 g1 g3 (by rw [g2, h3]) (by rw [g4, h4])
theorem Rel.virtc {w0 : World} {X0 : Nat → Prop} {μ0 : Mu} {n : Nat} {env : Env} {H : Heap} {a : Act} {w : World} {μ : Mu} (h : Rel w0 X0 μ0 n env H a w μ) {b i : Nat} {r : Row} {e e' : S} (size : Nat) (hs : 0 < size) (hb : H[b]? = some r) (he : r.es[i]? = some e)
    (hlen : e'.cells.length = e.cells.length) (hc : ∀ j, e'.cells.getD j .dead = e.cells.getD j .dead ∨ (e.cells.getD j .dead = .empty ∧ e'.cells.getD j .dead = .rsl H.length 0 0)) :
    ∃ μ', Rel w0 X0 μ0 n env (H.set b ⟨r.es.set i e', r.size, r.st⟩ ++ [⟨[], size, .live⟩]) a w μ' := by
  obtain ⟨μ', hst⟩ := virt_step h.heap hs (H1 := H) rfl (fun _ _ h _ => h) (a := none) (fun _ h => by cases h)
  have h2 := h.step_none hst
  obtain ⟨l0, hl0⟩ : ∃ l0, μ' H.length = some l0 := by
    cases hst.val with
    | rslz _ _ _ _ l hl => exact ⟨l, hl⟩
  have hblt := (List.getElem?_eq_some_iff.1 hb).1
  have hb' : (H ++ [(⟨[], size, .live⟩ : Row)])[b]? = some r := by rw [List.getElem?_append_left hblt]; exact hb
  have hset : (H ++ [(⟨[], size, .live⟩ : Row)]).set b ⟨r.es.set i e', r.size, r.st⟩ = H.set b ⟨r.es.set i e', r.size, r.st⟩ ++ [⟨[], size, .live⟩] := by rw [List.set_append_left _ _ hblt]
  have h3 := h2.heap.recell (i := i) hb' he hlen hc hl0
  rw [hset] at h3
  have ho : ∀ k, owned μ' (H.set b ⟨r.es.set i e', r.size, r.st⟩ ++ [⟨[], size, .live⟩]) k → owned μ' (H ++ [⟨[], size, .live⟩]) k := by
    rw [← hset]
    rintro k ⟨b', r', l, g1, g2, g3, g4, rfl⟩
    by_cases hbb : b = b'
    · subst hbb
      rw [List.getElem?_set_self (by simp; omega)] at g1
      cases g1
      exact ⟨b, r, l, hb', g2, g3, g4, rfl⟩
    · rw [List.getElem?_set_ne hbb] at g1
      exact ⟨b', r', l, g1, g2, g3, g4, rfl⟩
  exact ⟨μ', h2.tmps, h2.defers, fun d => (h2.env d).keeps (fun _ _ _ => rfl) (fun k hk => .inl (hk.imp (ho k) id)) (fun _ _ h => h), h3, h2.fr, fun k hk => h2.own k (ho k hk), h2.pre, h2.xo⟩

/-- steps that touch no memory -/
inductive Up (kp : Nat) (K : Env → Heap → Prop) : Env → Heap → Prop where
  | here {env : Env} {H : Heap} (h : K env H) : Up kp K env H
  | weak {env : Env} {H : Heap} (E : Env) (HE : Heap) (ρ : Nat → Nat) (hw : Weak kp env H E HE ρ) (h : Up kp K E HE) : Up kp K env H
  | virt {env : Env} {H : Heap} (d size : Nat) (hd : env.get d = .empty) (hs : 0 < size) (h : Up kp K ((d, .rsl H.length 0 0) :: env) (H ++ [⟨[], size, .live⟩])) : Up kp K env H
  | virtc {env : Env} {H : Heap} (b i size : Nat) (r : Row) (e e' : S) (hs : 0 < size) (hb : H[b]? = some r) (he : r.es[i]? = some e) (hlen : e'.cells.length = e.cells.length)
      (hc : ∀ j, e'.cells.getD j .dead = e.cells.getD j .dead ∨ (e.cells.getD j .dead = .empty ∧ e'.cells.getD j .dead = .rsl H.length 0 0)) (h : Up kp K env (H.set b ⟨r.es.set i e', r.size, r.st⟩ ++ [⟨[], size, .live⟩])) : Up kp K env H
  | frz {env : Env} {H : Heap} (b : Nat) (h : Up kp K env (Vm.frz1 b H)) : Up kp K env H

theorem Up.rel {kp : Nat} {K : Env → Heap → Prop} {env : Env} {H : Heap} (hu : Up kp K env H) {w0 : World} {X0 : Nat → Prop} {μ0 : Mu} {n : Nat} (hk : ∀ (b : Nat) (l : Loc), μ0 b = some l → b < kp) {a : Act} {w : World} :
    ∀ {μ : Mu}, Rel w0 X0 μ0 n env H a w μ → ∃ E HE μ', K E HE ∧ Rel w0 X0 μ0 n E HE a w μ' := by
  induction hu with
  | here h => exact fun hr => ⟨_, _, _, h, hr⟩
  | weak E HE ρ hw _ ih => exact fun hr => ih (hr.weak hk hw)
  | virt d size hd hs _ ih =>
    intro μ hr
    obtain ⟨μ', hr'⟩ := hr.virt hd size hs
    exact ih hr'
  | virtc b i size r e e' hs hb he hlen hc _ ih =>
    intro μ hr
    obtain ⟨μ', hr'⟩ := hr.virtc size hs hb he hlen hc
    exact ih hr'
  | frz b _ ih => exact fun hr => ih (hr.frz1 b)
theorem Up.mono {kp : Nat} {K K' : Env → Heap → Prop} (hK : ∀ e h, K e h → K' e h) {env : Env} {H : Heap} (hu : Up kp K env H) : Up kp K' env H := by
  induction hu with
  | here h => exact .here (hK _ _ h)
  | weak E HE ρ hw _ ih => exact .weak E HE ρ hw ih
  | virt d size hd hs _ ih => exact .virt d size hd hs ih
  | virtc b i size r e e' hs hb he hlen hc _ ih => exact .virtc b i size r e e' hs hb he hlen hc ih
  | frz b _ ih => exact .frz b ih
end Go.Vm
