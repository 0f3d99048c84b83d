/-
  The abstract machine, part 25: what a row reads ('trod') is data of the type's shape.
-/
import Derived.Test.YtbllbkhkmngclaaVm24
import Derived.OpenShut
namespace Go.Vm
open Go Go.RowKit

/-- the shape of one cell -/
inductive CT where
  | int (k : IntKind)
  | bool
  | str
  | sl (agg : Bool) (ts : List CT)
  deriving Inhabited
/-- data of a cell's shape -/
inductive OkC : CT → V → Prop where
  | int (k : IntKind) (n : Int) (h : (Lit.int k n).wf = true) : OkC (.int k) (.int k n)
  | bool (b : Bool) : OkC .bool (.bool b)
  | str (s : List UInt8) (h : s.length ≤ maxLen) : OkC .str (.str s)
  | sl (g : Bool) (ts : List CT) (es : List V) (h : es.length ≤ maxLen) (hg : ∀ e ∈ es, e.isCell = !g) (hl : ∀ e ∈ es, e.cells.length = ts.length)
      (hc : ∀ e ∈ es, ∀ j, j < ts.length → OkC (ts.getD j .bool) (e.cells.getD j default)) : OkC (.sl g ts) (.sl es)
theorem OkC.cell {t : CT} {v : V} (h : OkC t v) : v.isCell = true := by cases h <;> rfl

def tyL {α : Type} (P : Program) (k : TypeId → Option (Bool × List CT)) (ty : α → TypeId) (off : α → Nat) : List α → Nat → Option (List CT)
  | [], _ => some []
  | a :: r, o => match k (ty a) with
    | some (_, ts) => if off a = o ∧ P.cellsOf (ty a) = ts.length then (match tyL P k ty off r (o + ts.length) with
      | some q => some (ts ++ q)
      | none => none) else none
    | none => none
def tyC (P : Program) : Nat → TypeId → Option (Bool × List CT)
  | 0, _ => none
  | d + 1, t => match P.underlying t with
    | some .bool => some (false, [.bool])
    | some (.int k) => some (false, [.int k])
    | some .string => some (false, [.str])
    | some (.slice e) => match tyC P d e with
      | some (g, ts) => if ts ≠ [] ∧ P.cellsOf e = ts.length ∧ (g = true ∨ ts.length = 1) then some (false, [.sl g ts]) else none
      | none => none
    | some (.struct fs) => match tyL P (tyC P d) (fun (f : Field) => f.type) (fun (f : Field) => f.offset) fs.toList 0 with
      | some ts => if P.cellsOf t = ts.length then some (true, ts) else none
      | none => none
    | some (.array n e) => match tyL P (tyC P d) (fun (_ : Nat) => e) (fun (i : Nat) => i * P.cellsOf e) (List.range n) 0 with
      | some ts => if P.cellsOf t = ts.length then some (true, ts) else none
      | none => none
    | _ => none

/-- cells that are data of their shapes -/
structure CellsOk (W : World) (cs : List Value) (ts : List CT) (vs : List V) : Prop where
  len : cs.length = ts.length
  lv : vs.length = ts.length
  rep : ∀ j, j < ts.length → PRep W (fun _ => False) (cs.getD j undef) (vs.getD j default)
  ok : ∀ j, j < ts.length → OkC (ts.getD j .bool) (vs.getD j default)

theorem mapM_some {α β : Type} {f : α → Option β} : ∀ {l : List α} {r : List β}, l.mapM f = some r → r.length = l.length ∧ ∀ i (hi : i < l.length), ∃ y, f l[i] = some y ∧ r[i]? = some y
  | [], r, h => by simp at h; subst h; exact ⟨rfl, fun i hi => by simp at hi⟩
  | a :: l, r, h => by
    rw [List.mapM_cons] at h
    cases ha : f a with
    | none => simp [ha] at h
    | some y =>
      cases hl : l.mapM f with
      | none => simp [ha, hl] at h
      | some q =>
        simp [ha, hl] at h
        subst h
        obtain ⟨h1, h2⟩ := mapM_some hl
        refine ⟨by simp [h1], fun i hi => ?_⟩
        cases i with
        | zero => exact ⟨y, by simpa using ha, rfl⟩
        | succ i =>
          obtain ⟨z, h3, h4⟩ := h2 i (by simpa using hi)
          exact ⟨z, by simpa using h3, by simpa using h4⟩

theorem CellsOk.one {W : World} {v : Value} {t : CT} {d : V} (h1 : PRep W (fun _ => False) v d) (h2 : OkC t d) : CellsOk W [v] [t] [d] :=
  ⟨rfl, rfl, fun j hj => by obtain rfl : j = 0 := by simpa using hj
                            exact h1, fun j hj => by obtain rfl : j = 0 := by simpa using hj
                                                     exact h2⟩

theorem CellsOk.append {W : World} {c1 c2 : List Value} {t1 t2 : List CT} {v1 v2 : List V} (h1 : CellsOk W c1 t1 v1) (h2 : CellsOk W c2 t2 v2) : CellsOk W (c1 ++ c2) (t1 ++ t2) (v1 ++ v2) := by
  refine ⟨by simp [h1.len, h2.len], by simp [h1.lv, h2.lv], fun j hj => ?_, fun j hj => ?_⟩
  · simp only [List.getD_append_cases, h1.len, h1.lv]
    split
    · exact h1.rep j (by assumption)
    · exact h2.rep _ (by simp at hj; omega)
  · simp only [List.getD_append_cases, h1.lv]
    split
    · exact h1.ok j (by assumption)
    · exact h2.ok _ (by simp at hj; omega)

theorem tyL_ok {α : Type} {P : Program} {W : World} {k : TypeId → Option (Bool × List CT)} {ty : α → TypeId} {off : α → Nat} {R : TypeId → List Value → Prop} (ih : ∀ t g ts cs, k t = some (g, ts) → R t cs → ∃ vs, CellsOk W cs ts vs) (cs : List Value) :
    ∀ (l : List α) (o : Nat) (ts : List CT), tyL P k ty off l o = some ts → cs.length = o + ts.length → (∀ a ∈ l, R (ty a) ((cs.drop (off a)).take (P.cellsOf (ty a)))) → ∃ vs, CellsOk W (cs.drop o) ts vs
  | [], o, ts, h, hl, _ => by
    simp [tyL] at h
    subst h
    exact ⟨[], by simp at hl ⊢; omega, rfl, fun j hj => by simp at hj, fun j hj => by simp at hj⟩
  | a :: r, o, ts, h, hl, hR => by
    simp only [tyL] at h
    split at h
    · rename_i g ts1 hk
      split at h
      · rename_i hc
        obtain ⟨hoff, hn⟩ := hc
        split at h
        · rename_i q hq
          cases h
          obtain ⟨v1, h1⟩ := ih _ _ _ _ hk (hR a (by simp))
          obtain ⟨v2, h2⟩ := tyL_ok ih cs r (o + ts1.length) q hq (by simp at hl; omega) (fun b hb => hR b (by simp [hb]))
          refine ⟨v1 ++ v2, ?_⟩
          have e : cs.drop o = (cs.drop (off a)).take (P.cellsOf (ty a)) ++ cs.drop (o + ts1.length) := by
            rw [hoff, hn, ← List.drop_drop, List.take_append_drop]
          rw [e]
          exact h1.append h2
        · cases h
      · cases h
    · cases h

theorem tyC_one {P : Program} {d : Nat} {t : TypeId} {ts : List CT} (h : tyC P d t = some (false, ts)) : ts.length = 1 := by
  cases d with
  | zero => cases h
  | succ d =>
    simp only [tyC] at h
    split at h
    · cases h; rfl
    · cases h; rfl
    · cases h; rfl
    · split at h
      · split at h
        · cases h; rfl
        · cases h
      · cases h
    · split at h
      · split at h <;> cases h
      · cases h
    · split at h
      · split at h <;> cases h
      · cases h
    · cases h

theorem cells?_get {W : World} {base : Nat} {a : Addr} {n : Nat} {row : List Value} (h : W.cells? base a n = some row) : row.length = n ∧ ∀ j, j < n → W.cell? (a.add j) = some (row.getD j undef) := by
  unfold World.cells? at h
  split at h
  · obtain ⟨h1, h2⟩ := mapM_some h
    simp at h1
    refine ⟨h1, fun j hj => ?_⟩
    obtain ⟨y, h3, h4⟩ := h2 j (by simpa using hj)
    simp at h3
    rw [h3, List.getD_eq_getElem?_getD, h4]
    rfl
  · cases h

/-- WHAT IS READ IS DATA. -/
theorem trod_ok {H : Type} {enc : TypeId × Value → H} {P : Program} {W : World} {base : Nat} {held : Bool} : ∀ (n : Nat) (d : Nat) (t : TypeId) (cs : List Value) (x : DataW H × List MemPlace) (g : Bool) (ts : List CT),
    DataW.trod enc P W base (fun _ => true) held n t cs = some x → tyC P d t = some (g, ts) → ∃ vs, CellsOk W cs ts vs
  | 0, _, _, _, _, _, _, h, _ => by simp [DataW.trod] at h
  | _ + 1, 0, _, _, _, _, _, _, h => by cases h
  | n + 1, d + 1, t, cs, x, g, ts, h, ht => by
    have ih : ∀ t' g' ts' cs', tyC P d t' = some (g', ts') → (∃ x', DataW.trod enc P W base (fun _ => true) held n t' cs' = some x') → ∃ vs, CellsOk W cs' ts' vs := fun t' g' ts' cs' h1 ⟨x', h2⟩ => trod_ok n d t' cs' x' g' ts' h2 h1
    simp only [tyC] at ht
    split at ht
    · rename_i hu
      cases ht
      obtain ⟨b, rfl, _⟩ := DataW.trod_bool hu h
      exact ⟨[.bool b], .one (.bool b) (.bool b)⟩
    · rename_i k hu
      cases ht
      obtain ⟨m, rfl, _, hw⟩ := DataW.trod_int hu h
      exact ⟨[.int k m], .one (.int k m hw) (.int k m hw)⟩
    · rename_i hu
      cases ht
      obtain ⟨s, rfl, _, hs⟩ := DataW.trod_string hu h
      exact ⟨[.str s.data.toList], .one (.str s hs) (.str _ (by simpa using hs))⟩
    · rename_i e hu
      split at ht
      · rename_i g' ts' hk
        split at ht
        · rename_i hc
          obtain ⟨hne, hsz, hone⟩ := hc
          cases ht
          have hpos : 0 < ts'.length := List.length_pos_iff.2 hne
          rcases DataW.trod_slice hu h with ⟨rfl, _⟩ | ⟨a, len, cap, elems, rest, m, hm, rfl, _, _, hlc, hcm, hel, hels, hrest, _⟩
          · exact ⟨[.sl []], .one (.nils none) (.sl _ _ [] (by simp) (fun _ h => by cases h) (fun _ h => by cases h) (fun _ h => by cases h))⟩
          · cases hm
            -- the elements
            have hrow : ∀ i, i < len → ∃ row x', W.cells? base (a.add (i * P.cellsOf e)) (P.cellsOf e) = some row ∧ DataW.trod enc P W base (fun _ => true) held n e row = some x' := by
              intro i hi
              have := hels i hi
              rw [List.getElem?_eq_getElem (by omega)] at this
              cases hr : W.cells? base (a.add (i * P.cellsOf e)) (P.cellsOf e) with
              | none => rw [hr] at this; cases this
              | some row => rw [hr] at this; exact ⟨row, _, rfl, this⟩
            have hvs : ∀ i, ∃ vs : List V, i < len → vs.length = ts'.length ∧ (∀ j, j < ts'.length → ∃ u, W.cell? ((a.add (i * P.cellsOf e)).add j) = some u ∧ PRep W (fun _ => False) u (vs.getD j default)) ∧ ∀ j, j < ts'.length → OkC (ts'.getD j .bool) (vs.getD j default) := by
              intro i
              by_cases hi : i < len
              · obtain ⟨row, x', h1, h2⟩ := hrow i hi
                obtain ⟨h3, h4⟩ := cells?_get h1
                obtain ⟨vs, h5⟩ := ih e g' ts' row hk ⟨x', h2⟩
                exact ⟨vs, fun _ => ⟨h5.lv, fun j hj => ⟨_, h4 j (by omega), h5.rep j hj⟩, h5.ok⟩⟩
              · exact ⟨[], fun h => absurd h hi⟩
            obtain ⟨F, hF⟩ := Classical.axiomOfChoice hvs
            by_cases hz : len = 0 ∧ cap = 0
            · obtain ⟨rfl, rfl⟩ := hz
              exact ⟨[.sl []], .one (.nils (some a)) (.sl _ _ [] (by simp) (fun _ h => by cases h) (fun _ h => by cases h) (fun _ h => by cases h))⟩
            · have hspot : a.spot = none := by
                have cellSpot : ∀ (b : Addr) (u : Value), W.cell? b = some u → b.spot = none := by
                  intro b u hb
                  unfold World.cell? at hb
                  split at hb
                  · split at hb
                    · cases hb
                    · rename_i hs; simpa using hs
                  · cases hb
                by_cases hl0 : len = 0
                · obtain ⟨h1, h2⟩ := hrest rfl
                  have := h2 0 (by omega)
                  rw [List.getElem?_eq_getElem (by omega)] at this
                  cases hr : W.cells? base (a.add ((len + 0) * P.cellsOf e)) (P.cellsOf e) with
                  | none => rw [hr] at this; cases this
                  | some row =>
                    obtain ⟨_, h4⟩ := cells?_get hr
                    have := cellSpot _ _ (h4 0 (by omega)); simpa [Addr.add, hl0] using this
                · obtain ⟨row, x', h1, h2⟩ := hrow 0 (by omega)
                  obtain ⟨_, h4⟩ := cells?_get h1
                  have := cellSpot _ _ (h4 0 (by omega)); simpa [Addr.add] using this
              obtain ⟨blk, off, spot⟩ := a
              simp at hspot
              subst hspot
              have isC : ∀ i j, i < len → j < ts'.length → ((F i).getD j default).isCell = true := fun i j hi hj => ((hF i hi).2.2 j hj).cell
              let el : Nat → V := fun i => if g' = true then .agg (F i) else (F i).getD 0 default
              have elc : ∀ i, i < len → (el i).cells = F i ∧ (el i).isCell = !g' := by
                intro i hi
                have hl := (hF i hi).1
                cases hg : g' with
                | true => simp [el, hg, V.cells, V.isCell]
                | false =>
                  have h1 : ts'.length = 1 := by
                    rcases hone with h | h
                    · rw [hg] at h; cases h
                    · exact h
                  obtain ⟨v, hv⟩ := List.length_eq_one_iff.1 (hl.trans h1)
                  have hc := isC i 0 hi (by omega)
                  simp only [el, hg, Bool.false_eq_true, if_false, hv, List.getD_cons_zero] at hc ⊢
                  cases v <;> simp_all [V.cells, V.isCell]
              have hmem : ∀ x ∈ (List.range len).map el, ∃ i, i < len ∧ x = el i := by
                intro x hx
                obtain ⟨i, hi, rfl⟩ := List.mem_map.1 hx
                exact ⟨i, List.mem_range.1 hi, rfl⟩
              have hget : ∀ i, i < len → ((List.range len).map el).getD i default = el i := by
                intro i hi
                simp [List.getD_eq_getElem?_getD, hi]
              refine ⟨[.sl ((List.range len).map el)], .one ?_ ?_⟩
              · refine .sl blk off len cap ts'.length _ (fun k => (W.cell? ⟨blk, off + k, none⟩).getD undef) hpos (by simp) hlc hcm (fun _ h => h) ?_ ?_ ?_ ?_
                · intro x hx
                  obtain ⟨i, hi, rfl⟩ := hmem x hx
                  rw [(elc i hi).1, (hF i hi).1]
                · intro x hx v hv
                  obtain ⟨i, hi, rfl⟩ := hmem x hx
                  rw [(elc i hi).1] at hv
                  obtain ⟨j, hj, rfl⟩ := List.mem_iff_getElem.1 hv
                  have := isC i j hi (by rw [← (hF i hi).1]; exact hj)
                  rwa [List.getD_eq_getElem?_getD, List.getElem?_eq_getElem hj] at this
                · intro i j hi hj
                  have hi' : i < len := by simpa using hi
                  obtain ⟨u, h1, _⟩ := (hF i hi').2.1 j hj
                  rw [addr_add, addr_add, hsz] at h1
                  rw [show off + (i * ts'.length + j) = off + i * ts'.length + j by omega, h1]
                  rfl
                · intro i j hi hj
                  have hi' : i < len := by simpa using hi
                  obtain ⟨u, h1, h2⟩ := (hF i hi').2.1 j hj
                  rw [addr_add, addr_add, hsz] at h1
                  rw [hget i hi', (elc i hi').1, show off + (i * ts'.length + j) = off + i * ts'.length + j by omega, h1]
                  exact h2
              · refine .sl _ _ _ (by simp; omega) ?_ ?_ ?_
                · intro x hx
                  obtain ⟨i, hi, rfl⟩ := hmem x hx
                  exact (elc i hi).2
                · intro x hx
                  obtain ⟨i, hi, rfl⟩ := hmem x hx
                  rw [(elc i hi).1, (hF i hi).1]
                · intro x hx j hj
                  obtain ⟨i, hi, rfl⟩ := hmem x hx
                  rw [(elc i hi).1]
                  exact (hF i hi).2.2 j hj
        · cases ht
      · cases ht
    · rename_i fs hu
      split at ht
      · rename_i ts' hk
        split at ht
        · rename_i hsz
          cases ht
          obtain ⟨xs, m, hm, _, hlen, hxl, hx⟩ := DataW.trod_struct hu h
          cases hm
          have := tyL_ok (W := W) (R := fun t' cs' => ∃ x', DataW.trod enc P W base (fun _ => true) held n t' cs' = some x') (fun t' g' ts' cs' => ih t' g' ts' cs') cs fs.toList 0 _ hk (by omega) (fun f hf => by
            obtain ⟨i, hi, rfl⟩ := List.mem_iff_getElem.1 hf
            have hi' : i < fs.size := by simpa using hi
            have := hx i fs[i] (Array.getElem?_eq_getElem hi')
            rw [List.getElem?_eq_getElem (by omega)] at this
            exact ⟨_, by simpa using this⟩)
          simpa using this
        · cases ht
      · cases ht
    · rename_i m e hu
      split at ht
      · rename_i ts' hk
        split at ht
        · rename_i hsz
          cases ht
          obtain ⟨xs, m', hm, _, hlen, hxl, hx⟩ := DataW.trod_array hu h
          cases hm
          have := tyL_ok (W := W) (R := fun t' cs' => ∃ x', DataW.trod enc P W base (fun _ => true) held n t' cs' = some x') (fun t' g' ts' cs' => ih t' g' ts' cs') cs (List.range m) 0 _ hk (by omega) (fun i hi => by
            have hi' : i < m := List.mem_range.1 hi
            have := hx i hi'
            rw [List.getElem?_eq_getElem (by omega)] at this
            exact ⟨_, this⟩)
          simpa using this
        · cases ht
      · cases ht
    · cases ht
end Go.Vm
