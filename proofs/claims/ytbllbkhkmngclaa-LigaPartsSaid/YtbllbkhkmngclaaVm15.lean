/-
  The abstract machine, part 15: functions: from the code to the contract, and the contract at a call.
-/
import Derived.Test.YtbllbkhkmngclaaVm14
namespace Go.Vm
open Go Go.RowKit

/-! ### slots that are data -/
def toV0 (lv : Bool) (H : Heap) : S → Option V
  | .pure v => some v
  | .empty => some (.sl [])
  | .rsl b off len => match H[b]? with
    | some r => if (r.st = .frozen ∨ (lv = true ∧ r.st = .live)) ∧ off + len ≤ r.es.length then (match S.allPure ((r.es.drop off).take len) with
      | some vs => some (.sl vs)
      | none => none) else none
    | none => none
  | _ => none
def toVs0 (lv : Bool) (H : Heap) : List S → Option (List V)
  | [] => some []
  | s :: r => match toV0 lv H s, toVs0 lv H r with
    | some v, some q => some (v :: q)
    | _, _ => none
def toVo (lv : Bool) (H : Heap) : S → Option V
  | .agg cs => match toVs0 lv H cs with
    | some vs => some (.agg vs)
    | none => none
  | .func fn f c => match toVs0 lv H f, toVs0 lv H c with
    | some a, some b => some (.func fn a b)
    | _, _ => none
  | s => toV0 lv H s
def mapO (f : S → Option V) : List S → Option (List V)
  | [] => some []
  | s :: r => match f s, mapO f r with
    | some v, some q => some (v :: q)
    | _, _ => none
/-- slots that are data, to a depth -/
def toVn (lv : Bool) (H : Heap) : Nat → S → Option V
  | 0, _ => none
  | d + 1, s => match s with
    | .pure v => some v
    | .empty => some (.sl [])
    | .rsl b off len => match H[b]? with
      | some r => if (r.st = .frozen ∨ (lv = true ∧ r.st = .live)) ∧ off + len ≤ r.es.length then (match mapO (toVn lv H d) ((r.es.drop off).take len) with
        | some vs => some (.sl vs)
        | none => none) else none
      | none => none
    | .agg cs => match mapO (toVn lv H d) cs with
      | some vs => some (.agg vs)
      | none => none
    | _ => none
def toV (lv : Bool) (H : Heap) (s : S) : Option V := match toVo lv H s with
  | some v => some v
  | none => toVn lv H 8 s
def toVs (lv : Bool) (H : Heap) : List S → Option (List V)
  | [] => some []
  | s :: r => match toV lv H s, toVs lv H r with
    | some v, some q => some (v :: q)
    | _, _ => none

section
variable {w : World} {μ : Mu} {H HF : Heap} {lv : Bool} {X : Nat → Prop}

theorem PRep.empty (a : Option Addr) (_ : ∀ x, a = some x → True) : PRep w X (.slice a 0 0) (.sl []) := .nils a

theorem toV0_sound (hrep : HRep w μ H) (hF : ∀ (b : Nat) (l : Loc), μ b = some l → HF[b]? = H[b]?) (hX : ∀ k, X k → excl μ H k) (hlv : lv = true → ∀ k, ¬ X k) {v : Value} {s : S} {d : V} (hr : Rep w (excl μ H) μ v s) (h : toV0 lv HF s = some d) : PRep w X v d := by
  cases s with
  | pure v' => simp [toV0] at h; subst h; exact hr.pure_inv.less hX
  | empty =>
    simp [toV0] at h
    subst h
    obtain ⟨a, rfl, ha⟩ := hr.empty_inv
    exact .empty a ha
  | rsl b off len =>
    simp only [toV0] at h
    split at h
    · rename_i r hb
      split at h
      · rename_i hc
        obtain ⟨hst, hlen⟩ := hc
        split at h
        · rename_i vs hvs
          simp only [Option.some.injEq] at h
          subst h
          have hes := S.allPure_eq hvs
          have hvl : vs.length = len := by
            have := congrArg List.length hes
            simp at this
            omega
          cases hr with
          | rslz a ha _ _ l hl =>
            have : vs = [] := List.eq_nil_of_length_eq_zero hvl
            subst this
            exact .empty a ha
          | rsl _ _ _ cap l hl hv hcap hm hroom =>
            have hnd : r.st ≠ .dead := by
              rcases hst with h | ⟨_, h⟩ <;> rw [h] <;> decide
            rw [hF b l hl] at hb
            have rr := hrep.row b r l hb hnd hl
            have hcell : ∀ i j, i < vs.length → j < l.size → ∃ u, w.cell? ⟨l.blk, l.base + (off + i) * l.size + j, none⟩ = some u ∧ PRep w X u ((vs.getD i default).cells.getD j default) ∧ (vs.getD i default).cells.length = l.size := by
              intro i j hi hj
              obtain ⟨u, h1, h2⟩ := rr.cells hv (off + i) j (by omega) hj
              have he : r.es.getD (off + i) .dead = .pure (vs.getD i default) := by
                have : ((r.es.drop off).take len)[i]? = some (.pure (vs.getD i default)) := by
                  rw [hes, List.getElem?_map, List.getElem?_eq_getElem hi]
                  simp [List.getD_eq_getElem?_getD, List.getElem?_eq_getElem hi]
                rw [List.getElem?_take_of_lt (by omega), List.getElem?_drop] at this
                rw [List.getD_eq_getElem?_getD, this]
                rfl
              have hm' : S.pure (vs.getD i default) ∈ r.es := by
                rw [← he, List.getD_eq_getElem?_getD, List.getElem?_eq_getElem (by omega)]
                exact List.getElem_mem _
              have hl' := rr.lens _ hm'
              simp [S.cells] at hl'
              rw [he] at h2
              simp only [S.cells] at h2
              rw [List.getD_eq_getElem?_getD, List.getElem?_map, List.getElem?_eq_getElem (by rw [List.getD_eq_getElem?_getD]; omega)] at h2
              refine ⟨u, h1, ?_, by rw [List.getD_eq_getElem?_getD]; exact hl'⟩
              rw [List.getD_eq_getElem?_getD (l := (vs.getD i default).cells), List.getElem?_eq_getElem (by rw [List.getD_eq_getElem?_getD]; omega)]
              exact (Rep.pure_inv h2).less hX
            have hmem : ∀ e ∈ vs, S.pure e ∈ r.es := by
              intro e he
              have : S.pure e ∈ (r.es.drop off).take len := by rw [hes]; exact List.mem_map_of_mem he
              exact List.mem_of_mem_drop (List.mem_of_mem_take this)
            refine .sl l.blk (l.base + off * l.size) len cap l.size vs (fun k => (w.cell? ⟨l.blk, l.base + off * l.size + k, none⟩).getD undef) rr.pos hvl hcap hm ?_ ?_ ?_ ?_ ?_
            · intro hne hx
              rcases hst with hst | ⟨hl1, hst⟩
              · refine rr.frozen hv hst ?_ (hX _ hx)
                intro e
                rw [e] at hlen
                have : 0 < vs.length := List.length_pos_iff.2 hne
                simp at hlen
                omega
              · exact hlv hl1 _ hx
            · intro e he
              have := rr.lens _ (hmem e he)
              simpa [S.cells] using this
            · intro e he c hc
              have := rr.cellOk _ (hmem e he) (.pure c) (by simp only [S.cells]; exact List.mem_map_of_mem hc)
              exact this
            · intro i j hi hj
              obtain ⟨u, h1, _, _⟩ := hcell i j hi hj
              rw [Nat.add_mul] at h1
              rw [show l.base + off * l.size + i * l.size + j = l.base + (off * l.size + i * l.size) + j by omega, h1]
              rw [show l.base + off * l.size + (i * l.size + j) = l.base + (off * l.size + i * l.size) + j by omega, h1]
              rfl
            · intro i j hi hj
              obtain ⟨u, h1, h2, _⟩ := hcell i j hi hj
              rw [Nat.add_mul] at h1
              rw [show l.base + off * l.size + (i * l.size + j) = l.base + (off * l.size + i * l.size) + j by omega, h1]
              exact h2
        · cases h
      · cases h
    · cases h
  | _ => simp [toV0] at h

theorem toVs0_sound (hrep : HRep w μ H) (hF : ∀ (b : Nat) (l : Loc), μ b = some l → HF[b]? = H[b]?) (hX : ∀ k, X k → excl μ H k) (hlv : lv = true → ∀ k, ¬ X k) : ∀ {ss : List S} {ds : List V}, toVs0 lv HF ss = some ds → ss.length = ds.length ∧ ∀ {cs : Array Value}, cs.size = ss.length → (∀ i, i < ss.length → Rep w (excl μ H) μ (cs.getD i undef) (ss.getD i .dead)) →
    ∀ i, i < ds.length → PRep w X (cs.getD i undef) (ds.getD i default) := by
  intro ss
  induction ss with
  | nil => intro ds h; simp [toVs0] at h; subst h; exact ⟨rfl, fun _ _ i hi => by simp at hi⟩
  | cons s r ih =>
    intro ds h
    simp only [toVs0] at h
    split at h
    · rename_i v q hv hq
      cases h
      obtain ⟨h1, h2⟩ := ih hq
      refine ⟨by simp [h1], fun {cs} hl hrep' i hi => ?_⟩
      cases i with
      | zero => exact toV0_sound hrep hF hX hlv (by simpa using hrep' 0 (by simp)) hv
      | succ i =>
        have := h2 (cs := cs.extract 1 cs.size) (by simp at hl ⊢; omega) (fun k hk => by
          have := hrep' (k + 1) (by simp; omega)
          simp only [Array.getD_eq_getD_getElem?, List.getD_eq_getElem?_getD] at this ⊢
          rw [Array.getElem?_extract, if_pos (by simp at hl; omega), Nat.add_comm 1 k]
          simpa using this) i (by simpa using hi)
        simp only [Array.getD_eq_getD_getElem?] at this ⊢
        rw [Array.getElem?_extract, if_pos (by simp at hl hi; omega), Nat.add_comm 1 i] at this
        simpa using this
    · cases h

theorem isCell_of_toV0 {s : S} {d : V} (h : toV0 lv H s = some d) (hs : s.isCell = true) : d.isCell = true := by
  cases s with
  | pure v => simp [toV0] at h; subst h; exact hs
  | empty => simp [toV0] at h; subst h; rfl
  | rsl b off len =>
    simp only [toV0] at h
    split at h
    · split at h
      · split at h
        · cases h; rfl
        · cases h
      · cases h
    · cases h
  | _ => simp [toV0] at h
theorem isCells_of_toVs0 : ∀ {ss : List S} {ds : List V}, toVs0 lv H ss = some ds → (∀ s ∈ ss, s.isCell = true) → ∀ d ∈ ds, d.isCell = true
  | [], ds, h, _ => by simp [toVs0] at h; subst h; simp
  | s :: r, ds, h, hs => by
    simp only [toVs0] at h
    split at h
    · rename_i v q hv hq
      cases h
      intro d hd
      rcases List.mem_cons.1 hd with rfl | hd
      · exact isCell_of_toV0 hv (hs s (by simp))
      · exact isCells_of_toVs0 hq (fun s h => hs s (by simp [h])) d hd
    · cases h

theorem toVo_sound (hrep : HRep w μ H) (hF : ∀ (b : Nat) (l : Loc), μ b = some l → HF[b]? = H[b]?) (hX : ∀ k, X k → excl μ H k) (hlv : lv = true → ∀ k, ¬ X k) {v : Value} {s : S} {d : V} (hr : Rep w (excl μ H) μ v s) (h : toVo lv HF s = some d) : PRep w X v d := by
  cases s with
  | agg cs =>
    simp only [toVo] at h
    split at h
    · rename_i vs hvs
      cases h
      cases hr with
      | agg cv _ hl hc hh =>
        obtain ⟨h1, h2⟩ := toVs0_sound hrep hF hX hlv hvs
        exact .agg cv vs (by omega) (isCells_of_toVs0 hvs hc) (h2 hl hh)
    · cases h
  | func fn f c =>
    simp only [toVo] at h
    split at h
    · rename_i a b ha hb
      cases h
      cases hr with
      | func _ fv cv _ _ l1 l2 r1 r2 =>
        obtain ⟨h1, h2⟩ := toVs0_sound hrep hF hX hlv ha
        obtain ⟨h3, h4⟩ := toVs0_sound hrep hF hX hlv hb
        exact .func fn fv cv a b (by omega) (by omega) (h2 l1 r1) (h4 l2 r2)
    · cases h
  | _ => exact toV0_sound hrep hF hX hlv hr h

theorem mapO_get {f : S → Option V} : ∀ {l : List S} {vs : List V}, mapO f l = some vs → l.length = vs.length ∧ ∀ i, i < l.length → f (l.getD i .dead) = some (vs.getD i default)
  | [], vs, h => by simp [mapO] at h; subst h; exact ⟨rfl, fun i hi => by simp at hi⟩
  | s :: r, vs, h => by
    simp only [mapO] at h
    split at h
    · rename_i v q hv hq
      cases h
      obtain ⟨h1, h2⟩ := mapO_get hq
      refine ⟨by simp [h1], fun i hi => ?_⟩
      cases i with
      | zero => simpa using hv
      | succ i => simpa using h2 i (by simpa using hi)
    · cases h
theorem mapO_imp {f g : S → Option V} (hfg : ∀ s v, f s = some v → g s = some v) : ∀ {l : List S} {vs : List V}, mapO f l = some vs → mapO g l = some vs
  | [], vs, h => h
  | s :: r, vs, h => by
    simp only [mapO] at h ⊢
    split at h
    · rename_i v q hv hq
      rw [hfg s v hv, mapO_imp hfg hq]
      exact h
    · cases h
theorem mapO_pure {f : S → Option V} (hf : ∀ v, f (.pure v) = some v) {l : List S} {vs : List V} (h : S.allPure l = some vs) : mapO f l = some vs := by
  rw [S.allPure_eq h]
  clear h
  induction vs with
  | nil => rfl
  | cons v r ih => simp only [List.map_cons, mapO, hf, ih]
theorem mapO_vs0 {f : S → Option V} (hf : ∀ s v, toV0 lv H s = some v → f s = some v) : ∀ {l : List S} {vs : List V}, toVs0 lv H l = some vs → mapO f l = some vs
  | [], vs, h => h
  | s :: r, vs, h => by
    simp only [toVs0] at h
    split at h
    · rename_i v q hv hq
      simp only [mapO, hf s v hv, mapO_vs0 hf hq]
      exact h
    · cases h
theorem toVn_agg {d : Nat} {cs : List S} : toVn lv H (d + 1) (.agg cs) = (match mapO (toVn lv H d) cs with
  | some vs => some (.agg vs)
  | none => none) := rfl
theorem toVn_rsl {d b off len : Nat} : toVn lv H (d + 1) (.rsl b off len) = (match H[b]? with
  | some r => if (r.st = .frozen ∨ (lv = true ∧ r.st = .live)) ∧ off + len ≤ r.es.length then (match mapO (toVn lv H d) ((r.es.drop off).take len) with
    | some vs => some (.sl vs)
    | none => none) else none
  | none => none) := rfl
theorem toV0_n {d : Nat} {s : S} {v : V} (h : toV0 lv H s = some v) : toVn lv H (d + 2) s = some v := by
  cases s with
  | pure v' => exact h
  | empty => exact h
  | rsl b off len =>
    simp only [toV0] at h
    rw [toVn_rsl]
    split at h
    · rename_i r hb
      split at h
      · rename_i hc
        rw [if_pos hc]
        split at h
        · rename_i vs hvs
          rw [mapO_pure (f := toVn lv H (d + 1)) (fun v => rfl) hvs]
          exact h
        · cases h
      · cases h
    · cases h
  | _ => simp [toV0] at h
theorem toVo_n {n : Nat} {s : S} {v u : V} (h : toVo lv H s = some v) (g : toVn lv H (n + 3) s = some u) : v = u := by
  cases s with
  | agg cs =>
    simp only [toVo] at h
    rw [toVn_agg] at g
    split at h
    · rename_i vs hvs
      rw [mapO_vs0 (f := toVn lv H (n + 2)) (fun s v hs => toV0_n (d := n) hs) hvs] at g
      cases h
      cases g
      rfl
    · cases h
  | func fn f c => cases (show (none : Option V) = some u from g)
  | _ =>
    simp only [toVo] at h
    have := toV0_n (d := n + 1) h
    rw [this] at g
    exact Option.some.inj g
theorem isCell_of_toVn {d : Nat} {s : S} {v : V} (h : toVn lv H d s = some v) (hs : s.isCell = true) : v.isCell = true := by
  cases d with
  | zero => cases h
  | succ d =>
    cases s with
    | pure v' => cases h; exact hs
    | empty => cases h; rfl
    | rsl b off len =>
      simp only [toVn] at h
      split at h
      · split at h
        · split at h
          · cases h; rfl
          · cases h
        · cases h
      · cases h
    | agg cs => cases hs
    | _ => simp [toVn] at h
theorem toVn_cells {d : Nat} {s : S} {v : V} (h : toVn lv H d s = some v) : v.cells.length = s.cells.length ∧ ∀ j, j < s.cells.length → ∃ m, m ≤ d ∧ toVn lv H m (s.cells.getD j .dead) = some (v.cells.getD j default) := by
  cases d with
  | zero => cases h
  | succ d =>
    cases s with
    | pure v' =>
      cases h
      refine ⟨by simp [S.cells], fun j hj => ⟨d + 1, Nat.le_refl _, ?_⟩⟩
      have hj' : j < v.cells.length := by simpa [S.cells] using hj
      simp only [S.cells, List.getD_eq_getElem?_getD, List.getElem?_map, List.getElem?_eq_getElem hj', Option.map_some, Option.getD_some]
      rfl
    | empty =>
      cases h
      refine ⟨rfl, fun j hj => ⟨d + 1, Nat.le_refl _, ?_⟩⟩
      obtain rfl : j = 0 := by simpa [S.cells] using hj
      rfl
    | rsl b off len =>
      have h0 := h
      simp only [toVn] at h
      split at h
      · split at h
        · split at h
          · cases h
            refine ⟨rfl, fun j hj => ⟨d + 1, Nat.le_refl _, ?_⟩⟩
            obtain rfl : j = 0 := by simpa [S.cells] using hj
            exact h0
          · cases h
        · cases h
      · cases h
    | agg cs =>
      simp only [toVn] at h
      split at h
      · rename_i vs hvs
        cases h
        obtain ⟨h1, h2⟩ := mapO_get hvs
        exact ⟨by simp [S.cells, V.cells, h1], fun j hj => ⟨d, by omega, h2 j (by simpa [S.cells] using hj)⟩⟩
      · cases h
    | _ => simp [toVn] at h
theorem toVn_sound (hrep : HRep w μ H) (hF : ∀ (b : Nat) (l : Loc), μ b = some l → HF[b]? = H[b]?) (hX : ∀ k, X k → excl μ H k) (hlv : lv = true → ∀ k, ¬ X k) (n : Nat) : ∀ {v : Value} {s : S} {d : V}, Rep w (excl μ H) μ v s → toVn lv HF n s = some d → PRep w X v d := by
  induction n using Nat.strongRecOn with
  | ind n ih =>
    intro v s d hr h
    cases n with
    | zero => cases h
    | succ n =>
      cases s with
      | pure v' => cases h; exact hr.pure_inv.less hX
      | empty =>
        cases h
        obtain ⟨a, rfl, ha⟩ := hr.empty_inv
        exact .empty a ha
      | agg cs =>
        simp only [toVn] at h
        split at h
        · rename_i vs hvs
          cases h
          obtain ⟨h1, h2⟩ := mapO_get hvs
          cases hr with
          | agg cv _ hl hc hh =>
            refine .agg cv vs (by omega) (fun x hx => ?_) (fun i hi => ih n (by omega) (hh i (by omega)) (h2 i (by omega)))
            obtain ⟨i, hi, rfl⟩ := List.mem_iff_getElem.1 hx
            have := h2 i (by omega)
            rw [List.getD_eq_getElem?_getD, List.getD_eq_getElem?_getD, List.getElem?_eq_getElem (show i < cs.length by omega), List.getElem?_eq_getElem hi] at this
            exact isCell_of_toVn this (hc _ (List.getElem_mem _))
        · cases h
      | rsl b off len =>
        simp only [toVn] at h
        split at h
        · rename_i r hb
          split at h
          · rename_i hc
            obtain ⟨hst, hlen⟩ := hc
            split at h
            · rename_i vs hvs
              cases h
              obtain ⟨g1, g2⟩ := mapO_get hvs
              have hvl : vs.length = len := by
                rw [← g1]
                simp
                omega
              cases hr with
              | rslz a ha _ _ l hl =>
                have : vs = [] := List.eq_nil_of_length_eq_zero hvl
                subst this
                exact .empty a ha
              | rsl _ _ _ cap l hl hv hcap hm hroom =>
                have hnd : r.st ≠ .dead := by
                  rcases hst with h | ⟨_, h⟩ <;> rw [h] <;> decide
                rw [hF b l hl] at hb
                have rr := hrep.row b r l hb hnd hl
                have hel : ∀ i, i < vs.length → toVn lv HF n (r.es.getD (off + i) .dead) = some (vs.getD i default) := by
                  intro i hi
                  have := g2 i (by omega)
                  rw [List.getD_eq_getElem?_getD, List.getElem?_take_of_lt (by omega), List.getElem?_drop, ← List.getD_eq_getElem?_getD] at this
                  exact this
                have hmem : ∀ i, i < vs.length → r.es.getD (off + i) .dead ∈ r.es := by
                  intro i hi
                  rw [List.getD_eq_getElem?_getD, List.getElem?_eq_getElem (by omega)]
                  exact List.getElem_mem _
                have hcell : ∀ i j, i < vs.length → j < l.size → ∃ u, w.cell? ⟨l.blk, l.base + (off + i) * l.size + j, none⟩ = some u ∧ PRep w X u ((vs.getD i default).cells.getD j default) := by
                  intro i j hi hj
                  obtain ⟨u, h1, h2⟩ := rr.cells hv (off + i) j (by omega) hj
                  obtain ⟨_, c2⟩ := toVn_cells (hel i hi)
                  obtain ⟨m, hm1, hm2⟩ := c2 j (by rw [rr.lens _ (hmem i hi)]; exact hj)
                  exact ⟨u, h1, ih m (by omega) h2 hm2⟩
                refine .sl l.blk (l.base + off * l.size) len cap l.size vs (fun k => (w.cell? ⟨l.blk, l.base + off * l.size + k, none⟩).getD undef) rr.pos hvl hcap hm ?_ ?_ ?_ ?_ ?_
                · intro hne hx
                  rcases hst with hst | ⟨hl1, hst⟩
                  · refine rr.frozen hv hst ?_ (hX _ hx)
                    intro e
                    rw [e] at hlen
                    have : 0 < vs.length := List.length_pos_iff.2 hne
                    simp at hlen
                    omega
                  · exact hlv hl1 _ hx
                · intro e he
                  obtain ⟨i, hi, rfl⟩ := List.mem_iff_getElem.1 he
                  have := hel i hi
                  rw [List.getD_eq_getElem?_getD (l := vs), List.getElem?_eq_getElem hi] at this
                  simp only [Option.getD_some] at this
                  rw [(toVn_cells this).1, rr.lens _ (hmem i hi)]
                · intro e he c hcm
                  obtain ⟨i, hi, rfl⟩ := List.mem_iff_getElem.1 he
                  have := hel i hi
                  rw [List.getD_eq_getElem?_getD (l := vs), List.getElem?_eq_getElem hi] at this
                  simp only [Option.getD_some] at this
                  obtain ⟨c1, c2⟩ := toVn_cells this
                  obtain ⟨j, hj, rfl⟩ := List.mem_iff_getElem.1 hcm
                  obtain ⟨m, _, hm2⟩ := c2 j (by omega)
                  rw [List.getD_eq_getElem?_getD (l := (vs[i]).cells), List.getElem?_eq_getElem hj] at hm2
                  refine isCell_of_toVn hm2 (rr.cellOk _ (hmem i hi) _ ?_)
                  rw [List.getD_eq_getElem?_getD (i := j), List.getElem?_eq_getElem (by omega)]
                  exact List.getElem_mem _
                · intro i j hi hj
                  obtain ⟨u, h1, _⟩ := hcell i j hi hj
                  rw [Nat.add_mul] at h1
                  rw [show l.base + off * l.size + i * l.size + j = l.base + (off * l.size + i * l.size) + j by omega, h1]
                  rw [show l.base + off * l.size + (i * l.size + j) = l.base + (off * l.size + i * l.size) + j by omega, h1]
                  rfl
                · intro i j hi hj
                  obtain ⟨u, h1, h2⟩ := hcell i j hi hj
                  rw [Nat.add_mul] at h1
                  rw [show l.base + off * l.size + (i * l.size + j) = l.base + (off * l.size + i * l.size) + j by omega, h1]
                  exact h2
            · cases h
          · cases h
        · cases h
      | _ => simp [toVn] at h
theorem toV_sound (hrep : HRep w μ H) (hF : ∀ (b : Nat) (l : Loc), μ b = some l → HF[b]? = H[b]?) (hX : ∀ k, X k → excl μ H k) (hlv : lv = true → ∀ k, ¬ X k) {v : Value} {s : S} {d : V} (hr : Rep w (excl μ H) μ v s) (h : toV lv HF s = some d) : PRep w X v d := by
  unfold toV at h
  split at h
  · rename_i v' hv
    cases h
    exact toVo_sound hrep hF hX hlv hr hv
  · exact toVn_sound hrep hF hX hlv 8 hr h

theorem toVs_sound (hrep : HRep w μ H) (hF : ∀ (b : Nat) (l : Loc), μ b = some l → HF[b]? = H[b]?) (hX : ∀ k, X k → excl μ H k) (hlv : lv = true → ∀ k, ¬ X k) : ∀ {ss : List S} {ds : List V}, toVs lv HF ss = some ds → ss.length = ds.length ∧ ∀ {cs : Array Value}, cs.size = ss.length → (∀ i, i < ss.length → Rep w (excl μ H) μ (cs.getD i undef) (ss.getD i .dead)) →
    ∀ i, i < ds.length → PRep w X (cs.getD i undef) (ds.getD i default) := by
  intro ss
  induction ss with
  | nil => intro ds h; simp [toVs] at h; subst h; exact ⟨rfl, fun _ _ i hi => by simp at hi⟩
  | cons s r ih =>
    intro ds h
    simp only [toVs] at h
    split at h
    · rename_i v q hv hq
      cases h
      obtain ⟨h1, h2⟩ := ih hq
      refine ⟨by simp [h1], fun {cs} hl hrep' i hi => ?_⟩
      cases i with
      | zero => exact toV_sound hrep hF hX hlv (by simpa using hrep' 0 (by simp)) hv
      | succ i =>
        have := h2 (cs := cs.extract 1 cs.size) (by simp at hl ⊢; omega) (fun k hk => by
          have := hrep' (k + 1) (by simp; omega)
          simp only [Array.getD_eq_getD_getElem?, List.getD_eq_getElem?_getD] at this ⊢
          rw [Array.getElem?_extract, if_pos (by simp at hl; omega), Nat.add_comm 1 k]
          simpa using this) i (by simpa using hi)
        simp only [Array.getD_eq_getD_getElem?] at this ⊢
        rw [Array.getElem?_extract, if_pos (by simp at hl hi; omega), Nat.add_comm 1 i] at this
        simpa using this
    · cases h
end

/-! ### the contract of a function -/
def retS : List S → S
  | [s] => s
  | ss => .tup ss
/-- the slots of the results -/
def resSlots : List ResultVar → Option (List Nat)
  | [] => some []
  | .tmp t :: r => (resSlots r).map (t :: ·)
  | _ :: _ => none
def argEnv : Nat → List S → Env
  | _, [] => []
  | k, s :: r => (k, s) :: argEnv (k + 1) r
theorem argEnv_get : ∀ (l : List S) (k d : Nat), (argEnv k l).get d = if d < k then .dead else l.getD (d - k) .dead
  | [], k, d => by simp [argEnv, Env.get]
  | s :: r, k, d => by
    simp only [argEnv, Env.get_cons]
    by_cases h : k = d
    · subst h; simp
    · rw [if_neg h, argEnv_get r (k + 1) d]
      by_cases h1 : d < k
      · rw [if_pos (by omega), if_pos h1]
      · rw [if_neg (by omega), if_neg h1]
        obtain ⟨m, hm⟩ : ∃ m, d - k = m + 1 := ⟨d - k - 1, by omega⟩
        rw [hm, show d - (k + 1) = m by omega]
        rfl

def PostF (kp : Nat) (ts : List Nat) (K : S → Heap → Prop) : APost
  | .normal => Up kp fun env H => K (retS (ts.map env.get)) H
  | .ret => Up kp fun env H => K (retS (ts.map env.get)) H
  | .exit _ => fun _ _ => False

theorem resSlots_inv : ∀ {l : List ResultVar} {ts : List Nat}, resSlots l = some ts → l = ts.map .tmp
  | [], ts, h => by simp [resSlots] at h; subst h; rfl
  | .tmp t :: r, ts, h => by
    simp only [resSlots] at h
    obtain ⟨q, hq, rfl⟩ := Option.map_eq_some_iff.1 h
    rw [resSlots_inv hq]; rfl
  | .cell .. :: _, ts, h => by simp [resSlots] at h

theorem run_results {P : Program} {w : World} {X : Nat → Prop} {μ : Mu} {fn : Func} {ts : List Nat} (h : resSlots fn.results.toList = some ts) {tmps : Array Value} {env : Env} (he : ∀ d, Rep w X μ (tmps.getD d undef) (env.get d)) :
    ∃ v, (results fn tmps).run P w = .ok v w ∧ Rep w X μ v (retS (ts.map env.get)) := by
  have h1 := resSlots_inv h
  have h2 : fn.results = (ts.map ResultVar.tmp).toArray := by apply Array.ext'; simpa using h1
  have h3 : ∀ (g : ResultVar → Sem Value), (∀ t, g (.tmp t) = pure (tmps.getD t undef)) → ∀ l : List Nat, ((l.map ResultVar.tmp).mapM (m := Sem) g).run P w = .ok (l.map fun t => tmps.getD t undef) w := by
    intro g hg l
    induction l with
    | nil => rfl
    | cons t r ih =>
      simp only [List.map_cons, List.mapM_cons, Sem.run_bind, hg, Sem.run_pure, Result.andThen_ok, ih]
  refine ⟨if h : (ts.map fun t => tmps.getD t undef).toArray.size = 1 then (ts.map fun t => tmps.getD t undef).toArray[0] else .tuple (ts.map fun t => tmps.getD t undef).toArray, ?_, ?_⟩
  · unfold results
    rw [h2]
    simp only [Sem.run_bind]
    rw [Array.mapM_eq_mapM_toList]
    simp only [Sem.run_map]
    rw [h3 _ (fun t => rfl) ts]
    rfl
  · cases ts with
    | nil => exact .tup _ _ rfl (fun i hi => by simp at hi)
    | cons t r =>
      cases r with
      | nil => simpa [retS] using he t
      | cons t2 r =>
        rw [dif_neg (by simp)]
        show Rep w X μ _ (.tup ((t :: t2 :: r).map env.get))
        refine .tup _ _ (by simp) (fun i hi => ?_)
        have hi' : i < (t :: t2 :: r).length := by simpa using hi
        rw [Array.getD_toArray']
        simp only [List.getD_eq_getElem?_getD]
        rw [List.getElem?_map, List.getElem?_map, List.getElem?_eq_getElem hi']
        exact he _

/-- FROM THE CODE TO THE CONTRACT. -/
theorem callA_of_wp {P : Program} {RQ : AC → (Env → Heap → Prop) → Env → Heap → Prop} {RC : Array Oper → List AI → Option AC} (hm : P.follows .mixedOrders = true) (hR : RegQ P RQ RC) {f : Nat} {fn : Func} {c : Code} {ac : AC} {ts : List Nat}
    (hf : P.funcs[f]? = some fn) (hname : (fn.name == "runtime.NumGoroutine") = false) (hb : fn.body = some c) (hc : cCode P fn.ntmps RC c = some ac) (hres : resSlots fn.results.toList = some ts) {args : List S} (hn : args.length ≤ fn.ntmps) {H : Heap} {K : S → Heap → Prop}
    (h : aWp P H.length RQ ac (PostF H.length ts K) (argEnv 0 args) H) : CallA P f args H K := by
  refine ⟨⟨fn, hf, hname, by rw [hb]; rfl⟩, fun w μ cargs hrep hl hargs => ?_⟩
  refine calls_of_wp hf hb ?_
  have hrel : Rel w (owned μ H) μ fn.ntmps (argEnv 0 args) H { tmps := cargs ++ Array.replicate (fn.ntmps - cargs.size) undef, defers := [] } w μ := by
    refine ⟨by simp; omega, rfl, fun d => ?_, hrep, Fr.refl _ _, fun k hk => .inl hk, fun _ _ h => h, rfl⟩
    rw [argEnv_get]
    simp only [Nat.not_lt_zero, if_false, Nat.sub_zero]
    by_cases hd : d < args.length
    · have : (cargs ++ Array.replicate (fn.ntmps - cargs.size) undef).getD d undef = cargs.getD d undef := by
        simp only [Array.getD_eq_getD_getElem?]
        rw [Array.getElem?_append_left (by omega)]
      rw [this]
      exact hargs d hd
    · rw [List.getD_eq_getElem?_getD, List.getElem?_eq_none (by omega)]
      exact .dead _
  refine wp_mono (aWp_sound hm hR (fun b l hb => hrep.dom b l hb) c ac hc hrel h) ?_
  have fin : ∀ {a : Act} {w' : World}, Lands w (owned μ H) μ fn.ntmps (Up H.length fun env H' => K (retS (ts.map env.get)) H') a w' → a.defers = [] ∧ ∃ v, (results fn a.tmps).run P w' = .ok v w' ∧ ∃ v' s H' μ', Ending.returned v = .returned v' ∧ K s H' ∧ Step w μ H w' μ' H' v' s := by
    rintro a w' ⟨env', H', μ', h1, h2⟩
    obtain ⟨E, HE, μ2, h3, h4⟩ := Up.rel h1 (fun b l hb => hrep.dom b l hb) h2
    obtain ⟨v, h5, h6⟩ := run_results (P := P) hres h4.env
    refine ⟨h4.defers, v, h5, v, _, HE, μ2, rfl, h3, h4.heap, h6, h4.pre, h4.xo, h4.fr, h4.own⟩
  rintro e a w' ⟨ex, rfl, hq⟩
  cases ex with
  | normal => exact fin hq
  | ret => exact fin hq
  | exit i => obtain ⟨env', H', μ', h1, _⟩ := hq; exact h1.elim
end Go.Vm
