/-
  The abstract machine, part 4: the operations that only compute or read do in the model what 'aFun' says.
-/
import Derived.Test.YtbllbkhkmngclaaVm3
namespace Go.Vm
open Go Go.RowKit

def aggT (P : Program) (t : TypeId) : Option Bool := match P.underlying t with
  | some (.struct _) => some true
  | some (.array _ _) => some true
  | some _ => some false
  | none => none
def sizeT (P : Program) (t : TypeId) : Option Nat := (P.info? t).map (·.size)

theorem addr_add (b o j : Nat) : (⟨b, o, none⟩ : Addr).add j = ⟨b, o + j, none⟩ := by
  unfold Addr.add; split <;> simp_all

theorem run_isAgg {P : Program} {t : TypeId} {agg : Bool} (h : aggT P t = some agg) (w : World) : (isAgg t).run P w = .ok agg w := by
  unfold aggT at h
  cases hu : P.underlying t with
  | none => simp [hu] at h
  | some d => cases d <;> simp [hu] at h <;> subst h <;> simp [isAgg, run_underlying hu]
theorem run_sizeT {P : Program} {t : TypeId} {n : Nat} (h : sizeT P t = some n) (w : World) : (sizeOf t).run P w = .ok n w := by
  unfold sizeT at h
  cases hi : P.info? t with
  | none => simp [hi] at h
  | some i => simp [hi] at h; subst h; simp [sizeOf, typeInfo, hi]

theorem S.allPure_eq {ss : List S} {vs : List V} (h : S.allPure ss = some vs) : ss = vs.map .pure := by
  induction ss generalizing vs with
  | nil => simp [S.allPure] at h; subst h; rfl
  | cons s r ih =>
    cases s with
    | pure v =>
      simp only [S.allPure] at h
      split at h
      · rename_i vs' h'
        simp at h
        subst h
        rw [ih h']; rfl
      · cases h
    | _ => simp [S.allPure] at h

theorem Rep.pure_inv {w : World} {X : Nat → Prop} {μ : Mu} {v : Value} {d : V} (h : Rep w X μ v (.pure d)) : PRep w X v d := by
  cases h with
  | pure _ _ h => exact h

theorem Rep.mkAgg {w : World} {X : Nat → Prop} {μ : Mu} {cs : Array Value} {ss : List S} (hl : cs.size = ss.length) (hc : ∀ s ∈ ss, s.isCell = true)
    (h : ∀ i, i < ss.length → Rep w X μ (cs.getD i undef) (ss.getD i .dead)) : Rep w X μ (.agg cs) (S.mkAgg ss) := by
  unfold S.mkAgg
  split
  · rename_i vs hvs
    have := S.allPure_eq hvs
    subst this
    refine .pure _ _ (.agg _ _ (by simpa using hl) (fun v hv => hc (.pure v) (List.mem_map_of_mem hv)) fun i hi => ?_)
    have h1 := h i (by simpa using hi)
    rw [List.getD_eq_getElem?_getD, List.getElem?_map, List.getElem?_eq_getElem hi] at h1
    rw [List.getD_eq_getElem?_getD, List.getElem?_eq_getElem hi]
    exact h1.pure_inv
  · exact .agg _ _ hl hc h

theorem Rep.ofCells {w : World} {X : Nat → Prop} {μ : Mu} {cs : Array Value} {e : S} (hne : e.isCell = false) (hc : ∀ s ∈ e.cells, s.isCell = true) (hl : cs.size = e.cells.length)
    (h : ∀ i, i < e.cells.length → Rep w X μ (cs.getD i undef) (e.cells.getD i .dead)) : Rep w X μ (.agg cs) e := by
  cases e with
  | pure v =>
    cases v with
    | agg vs =>
      refine .pure _ _ (.agg _ _ (by simpa [S.cells, V.cells] using hl) (fun v hv => hc (.pure v) (by simpa [S.cells, V.cells] using hv)) fun i hi => ?_)
      have h1 := h i (by simpa [S.cells, V.cells] using hi)
      simp only [S.cells, V.cells] at h1
      rw [List.getD_eq_getElem?_getD, List.getElem?_map, List.getElem?_eq_getElem hi] at h1
      rw [List.getD_eq_getElem?_getD, List.getElem?_eq_getElem hi]
      exact h1.pure_inv
    | _ => simp [S.isCell, V.isCell] at hne
  | agg ss => exact .agg _ _ hl hc h
  | tup ss => simp [S.cells, S.isCell] at hc
  | dead => exact absurd (hc .dead (by simp [S.cells])) (by decide)
  | _ => simp [S.isCell] at hne

/-- The cells of an element lie at an address. -/
def ElemAt (w : World) (X : Nat → Prop) (μ : Mu) (blk o : Nat) (e : S) : Prop :=
  (∀ s ∈ e.cells, s.isCell = true) ∧ ∀ j, j < e.cells.length → ∃ v, w.cell? ⟨blk, o + j, none⟩ = some v ∧ Rep w X μ v (e.cells.getD j .dead)

theorem getD_map_range (f : Nat → Value) (n i : Nat) (h : i < n) : (((List.range n).map f).toArray).getD i undef = f i := by
  simp [Array.getD_eq_getD_getElem?, h]

theorem run_loadVar {P : Program} {w : World} {X : Nat → Prop} {μ : Mu} {t : TypeId} {agg : Bool} {n blk o off : Nat} {e s : S}
    (ht : aggT P t = some agg) (hn : sizeT P t = some n) (he : ElemAt w X μ blk o e) (h : partF agg n e off = some s) :
    ∃ v, (loadVar t ⟨blk, o + off, none⟩).run P w = .ok v w ∧ Rep w X μ v s := by
  obtain ⟨hok, hcell⟩ := he
  have hf : ∀ j, j < e.cells.length → w.cell? ⟨blk, o + j, none⟩ = some ((w.cell? ⟨blk, o + j, none⟩).getD undef) ∧ Rep w X μ ((w.cell? ⟨blk, o + j, none⟩).getD undef) (e.cells.getD j .dead) := by
    intro j hj
    obtain ⟨v, h1, h2⟩ := hcell j hj
    rw [h1]; exact ⟨rfl, h2⟩
  generalize hfd : (fun j => (w.cell? ⟨blk, o + j, none⟩).getD undef) = f at *
  have hf' : ∀ j, j < e.cells.length → w.cell? ⟨blk, o + j, none⟩ = some (f j) ∧ Rep w X μ (f j) (e.cells.getD j .dead) := by
    intro j hj; rw [← hfd]; exact hf j hj
  unfold partF at h
  cases agg with
  | true =>
    simp only [if_true] at h
    have fin : ∀ (_ : off + n ≤ e.cells.length), (loadVar t ⟨blk, o + off, none⟩).run P w = .ok (.agg ((List.range n).map (fun j => f (off + j))).toArray) w := by
      intro hle
      have := run_loadCells (P := P) w ⟨blk, o + off, none⟩ n (fun j => f (off + j)) (fun j hj => by
        rw [addr_add, Nat.add_assoc]; exact (hf' (off + j) (by omega)).1)
      simp [loadVar, run_isAgg ht, run_sizeT hn, this]
    split at h
    · rename_i hc
      obtain ⟨rfl, rfl, hcell'⟩ := hc
      simp only [Option.some.injEq] at h
      subst h
      refine ⟨_, fin (by omega), ?_⟩
      refine Rep.ofCells hcell' hok (by simp) fun i hi => ?_
      rw [getD_map_range _ _ _ hi, Nat.zero_add]
      exact (hf' i hi).2
    · split at h
      · rename_i hle
        simp only [Option.some.injEq] at h
        subst h
        have hlen : ((e.cells.drop off).take n).length = n := by simp; omega
        refine ⟨_, fin hle, Rep.mkAgg (by simp; omega) (fun s hs => hok s (List.mem_of_mem_drop (List.mem_of_mem_take hs))) fun i hi => ?_⟩
        rw [hlen] at hi
        rw [getD_map_range _ _ _ hi]
        have := (hf' (off + i) (by omega)).2
        rw [List.getD_eq_getElem?_getD] at this ⊢
        rw [List.getElem?_take_of_lt hi, List.getElem?_drop]
        exact this
      · cases h
  | false =>
    simp only [Bool.false_eq_true, if_false] at h
    obtain ⟨hlt, hs⟩ := List.getElem?_eq_some_iff.1 h
    obtain ⟨h1, h2⟩ := hf' off hlt
    refine ⟨f off, ?_, ?_⟩
    · simp [loadVar, run_isAgg ht, h1]
    · rw [List.getD_eq_getElem?_getD, h] at h2
      exact h2

theorem elemAt_ptr {w : World} {μ : Mu} {H : Heap} (hrep : HRep w μ H) {b i : Nat} {l : Loc} {r : Row} {e : S} (hl : μ b = some l) (hv : l.virt = false) (hr : rowAt H b = some r) (he : r.es[i]? = some e) :
    ElemAt w (excl μ H) μ l.blk (l.base + i * l.size) e := by
  have hb : H[b]? = some r ∧ r.st ≠ .dead := by
    unfold rowAt at hr
    split at hr
    · rename_i r' h'
      split at hr
      · cases hr
      · simp at hr; subst hr; exact ⟨h', by assumption⟩
    · cases hr
  have rr := hrep.row b r l hb.1 hb.2 hl
  obtain ⟨hlt, hge⟩ := List.getElem?_eq_some_iff.1 he
  have hm : e ∈ r.es := List.mem_of_getElem? he
  refine ⟨rr.cellOk e hm, fun j hj => ?_⟩
  rw [rr.lens e hm] at hj
  have := rr.cells hv i j hlt hj
  rw [show r.es.getD i .dead = e by simp [List.getD_eq_getElem?_getD, he]] at this
  exact this
theorem elemAt_pptr {w : World} {X : Nat → Prop} {μ : Mu} {blk o : Nat} {d : V} {f : Nat → Value} (hcell : ∀ v ∈ d.cells, v.isCell = true)
    (hw : ∀ j, j < d.cells.length → w.cell? ⟨blk, o + j, none⟩ = some (f j)) (hr : ∀ j, j < d.cells.length → PRep w X (f j) (d.cells.getD j default)) :
    ElemAt w X μ blk o (.pure d) := by
  refine ⟨fun s hs => ?_, fun j hj => ?_⟩
  · simp only [S.cells, List.mem_map] at hs
    obtain ⟨v, hv, rfl⟩ := hs
    exact hcell v hv
  · have hj' : j < d.cells.length := by simpa [S.cells] using hj
    refine ⟨f j, hw j hj', ?_⟩
    simp only [S.cells]
    rw [List.getD_eq_getElem?_getD, List.getElem?_map, List.getElem?_eq_getElem hj']
    have := hr j hj'
    rw [List.getD_eq_getElem?_getD, List.getElem?_eq_getElem hj'] at this
    exact .pure _ _ this

/-- the address that a pointer has, and what lies there -/
theorem Rep.ptr_inv {w : World} {X : Nat → Prop} {μ : Mu} {v : Value} {b i off : Nat} (h : Rep w X μ v (.ptr b i off)) : ∃ l, μ b = some l ∧ l.virt = false ∧ v = .pointer (some ⟨l.blk, l.base + i * l.size + off, none⟩) := by
  cases h with
  | ptr _ _ _ l hl hv => exact ⟨l, hl, hv, rfl⟩

theorem load_sound {P : Program} {w : World} {μ : Mu} {H : Heap} (hrep : HRep w μ H) {t : TypeId} {agg : Bool} {n : Nat} (ht : aggT P t = some agg) (hn : sizeT P t = some n) {av : Value} {env : Env} {x : O} {s : S}
    (hr : Rep w (excl μ H) μ av (x.ev env)) (h : aFun env H (.load agg n x) = some s) : ∃ v, (Instr.loadAt t av).run P w = .ok v w ∧ Rep w (excl μ H) μ v s := by
  simp only [aFun] at h
  split at h
  · rename_i b i off heq
    rw [heq] at hr
    obtain ⟨l, hl, hv, rfl⟩ := hr.ptr_inv
    split at h
    · rename_i r hrow
      split at h
      · rename_i e he
        obtain ⟨v, h1, h2⟩ := run_loadVar (P := P) ht hn (elemAt_ptr hrep hl hv hrow he) h
        exact ⟨v, by simpa [Instr.loadAt, Instr.sureAddr] using h1, h2⟩
      · cases h
    · cases h
  · rename_i d off heq
    rw [heq] at hr
    cases hr with
    | pptr blk o _ _ f hz hx hcell hw hr =>
      obtain ⟨v, h1, h2⟩ := run_loadVar (P := P) (μ := μ) ht hn (elemAt_pptr hcell hw hr) h
      exact ⟨v, by simpa [Instr.loadAt, Instr.sureAddr] using h1, h2⟩
  · cases h

/-- a part of an aggregate that is at hand -/
theorem part_sound {P : Program} {w : World} {X : Nat → Prop} {μ : Mu} {t : TypeId} {agg : Bool} {n off : Nat} (ht : aggT P t = some agg) (hn : sizeT P t = some n) {cs : Array Value} {e s : S}
    (hr : Rep w X μ (.agg cs) e) (hz : e.okv = true) (h : partF agg n e off = some s) : ∃ v, (part t cs off).run P w = .ok v w ∧ Rep w X μ v s := by
  obtain ⟨hl, hc⟩ := hr.cells hz
  have hok := hr.cellsOk hz
  simp only [Value.cells] at hl hc
  unfold partF at h
  cases agg with
  | true =>
    simp only [if_true] at h
    split at h
    · rename_i hcnd
      obtain ⟨rfl, rfl, _⟩ := hcnd
      simp only [Option.some.injEq] at h
      subst h
      refine ⟨_, by simp [part, run_isAgg ht, run_sizeT hn]; rfl, ?_⟩
      rw [← hl]
      simpa using hr
    · split at h
      · rename_i hle
        simp only [Option.some.injEq] at h
        subst h
        have hlen : ((e.cells.drop off).take n).length = n := by simp; omega
        refine ⟨_, by simp [part, run_isAgg ht, run_sizeT hn]; rfl, Rep.mkAgg (by simp; omega) (fun s hs => hok s (List.mem_of_mem_drop (List.mem_of_mem_take hs))) fun i hi => ?_⟩
        rw [hlen] at hi
        have := hc (off + i) (by omega)
        rw [List.getD_eq_getElem?_getD] at this ⊢
        rw [List.getElem?_take_of_lt hi, List.getElem?_drop]
        have hcs : (cs.extract off (off + n)).getD i undef = cs.getD (off + i) undef := by
          simp [Array.getD_eq_getD_getElem?, Array.getElem?_extract]
          rw [if_pos (by omega)]
        rw [hcs]
        exact this
      · cases h
  | false =>
    simp only [Bool.false_eq_true, if_false] at h
    obtain ⟨hlt, hs⟩ := List.getElem?_eq_some_iff.1 h
    have h2 := hc off hlt
    rw [List.getD_eq_getElem?_getD, h] at h2
    obtain ⟨v, hcs⟩ : ∃ v, cs[off]? = some v := ⟨_, Array.getElem?_eq_getElem (by omega)⟩
    rw [Array.getD_eq_getD_getElem?, hcs] at h2
    exact ⟨v, by simp [part, run_isAgg ht, hcs], h2⟩

end Go.Vm
