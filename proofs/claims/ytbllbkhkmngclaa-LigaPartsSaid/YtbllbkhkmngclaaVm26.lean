/-
  The abstract machine, part 26: the entry of a law: 'true for every input, the input reads as it did', out of the contract of its function.
-/
import Derived.Test.YtbllbkhkmngclaaVm25
import Derived.Carry
import Derived.ProofKit
namespace Go.Vm
open Go Go.RowKit Go.ChangeShapes Go.WideShapes Go.ChangeAt

/-- data of a type's shape -/
structure OkE (g : Bool) (ts : List CT) (v : V) : Prop where
  cell : v.isCell = !g
  len : v.cells.length = ts.length
  ok : ∀ j, j < ts.length → OkC (ts.getD j .bool) (v.cells.getD j default)
/-- data of a type -/
def OkT (P : Program) (t : TypeId) (v : V) : Prop := ∀ d g ts, tyC P d t = some (g, ts) → OkE g ts v
def OkTs (P : Program) : List TypeId → List V → Prop
  | [], [] => True
  | t :: ts, v :: vs => OkT P t v ∧ OkTs P ts vs
  | _, _ => False

theorem cell_noAgg {P : Program} {W : World} {r : Reach} {base : Nat} {t : TypeId} {cs : Array Value} (hu : (∃ k, P.underlying t = some (.int k)) ∨ P.underlying t = some .bool ∨ P.underlying t = some .string ∨ ∃ e, P.underlying t = some (.slice e)) :
    ¬ Value.okWide P W r base t (.agg cs) := by
  intro h
  rcases hu with ⟨k, hu⟩ | hu | hu | ⟨e, hu⟩ <;> simp [Value.okWide, hu, Cell.okWide, Cell.ok] at h

theorem arg_data {H : Type} {enc : TypeId × Value → H} {P : Program} {W : World} {base : Nat} {r : Reach} {b0 : Nat} {held : Bool} {t : TypeId} {v : Value} {x : DataW H} {ps : List MemPlace} {d : Nat} {g : Bool} {ts : List CT} (hty : tyC P d t = some (g, ts))
    (hval : Value.okWide P W r b0 t v) (h : DataW.Trod enc P W base (fun _ => true) held t v x ps) : ∃ dv, PRep W (fun _ => False) v dv ∧ OkT P t dv := by
  obtain ⟨fuel, hf⟩ := h
  -- every look at the type's shape gives data; they are the same
  have go : ∀ d' g' ts', tyC P d' t = some (g', ts') → ∃ dv, PRep W (fun _ => False) v dv ∧ OkE g' ts' dv := by
    intro d' g' ts' hty
    obtain ⟨vs, hc⟩ := trod_ok fuel d' t _ _ g' ts' hf hty
    cases g' with
    | true =>
      obtain ⟨cs, rfl⟩ : ∃ cs, v = .agg cs := by
        cases d' with
        | zero => cases hty
        | succ d' =>
          simp only [tyC] at hty
          split at hty
          · cases hty
          · cases hty
          · cases hty
          · split at hty
            · split at hty <;> cases hty
            · cases hty
          · rename_i hu
            simp only [Value.okWide, hu] at hval
            obtain ⟨cs, h, _⟩ := hval
            exact ⟨cs, h⟩
          · rename_i hu
            simp only [Value.okWide, hu] at hval
            obtain ⟨cs, h, _⟩ := hval
            exact ⟨cs, h⟩
          · cases hty
      refine ⟨.agg vs, .agg cs vs (by have := hc.len; have := hc.lv; simp [Value.cells] at *; omega) (fun u hu => ?_) (fun i hi => ?_), rfl, hc.lv, hc.ok⟩
      · obtain ⟨j, hj, rfl⟩ := List.mem_iff_getElem.1 hu
        have := (hc.ok j (by rw [← hc.lv]; exact hj)).cell
        rwa [List.getD_eq_getElem?_getD, List.getElem?_eq_getElem hj] at this
      · have := hc.rep i (by rw [← hc.lv]; exact hi)
        simp only [Value.cells] at this
        rwa [Array.getD_toList'] at this
    | false =>
      have h1 := tyC_one hty
      have hv : v.cells = #[v] := by
        have : ∀ cs, v ≠ .agg cs := by
          rintro cs rfl
          refine cell_noAgg ?_ hval
          cases d' with
          | zero => cases hty
          | succ d' =>
            simp only [tyC] at hty
            split at hty
            · rename_i hu; exact .inr (.inl hu)
            · rename_i k hu; exact .inl ⟨k, hu⟩
            · rename_i hu; exact .inr (.inr (.inl hu))
            · rename_i e hu; exact .inr (.inr (.inr ⟨e, hu⟩))
            · split at hty
              · split at hty <;> cases hty
              · cases hty
            · split at hty
              · split at hty <;> cases hty
              · cases hty
            · cases hty
        cases v <;> first | rfl | exact absurd rfl (this _)
      obtain ⟨dv, rfl⟩ := List.length_eq_one_iff.1 (hc.lv.trans h1)
      have hcell : dv.isCell = true := (hc.ok 0 (by omega)).cell
      have hcs : dv.cells = [dv] := by cases dv <;> first | rfl | cases hcell
      refine ⟨dv, ?_, by simpa using hcell, by rw [hcs]; simpa using h1.symm, ?_⟩
      · have := hc.rep 0 (by omega)
        simpa [hv] using this
      · rw [hcs]
        exact hc.ok
  -- one look serves all: choose the data by the first
  obtain ⟨dv, h1, h2⟩ := go d g ts hty
  exact ⟨dv, h1, fun d' g' ts' hty' => by
    have mono : ∀ (n : Nat) (t : TypeId) (y : Bool × List CT), tyC P n t = some y → tyC P (n + 1) t = some y := by
      have lift : ∀ {α : Type} (n : Nat) (ty : α → TypeId) (off : α → Nat), (∀ (t : TypeId) (y : Bool × List CT), tyC P n t = some y → tyC P (n + 1) t = some y) → ∀ (l : List α) (o : Nat) (q : List CT), tyL P (tyC P n) ty off l o = some q → tyL P (tyC P (n + 1)) ty off l o = some q := by
        intro α n ty off ih l
        induction l with
        | nil => intro o q h; exact h
        | cons a l ihl =>
          intro o q h
          simp only [tyL] at h ⊢
          split at h
          · rename_i g1 ts1 hk
            rw [ih _ _ hk]
            split at h
            · rename_i hc
              simp only [hc, and_self, if_true]
              split at h
              · rename_i q1 hq1
                rw [ihl _ _ hq1]
                exact h
              · cases h
            · cases h
          · cases h
      intro n
      induction n with
      | zero => intro t y h; cases h
      | succ n ih =>
        intro t y h
        rw [tyC] at h ⊢
        split at h
        · rename_i hu; simpa [hu] using h
        · rename_i k hu; simpa [hu] using h
        · rename_i hu; simpa [hu] using h
        · rename_i e hu
          try simp only [hu]
          split at h
          · rename_i g1 ts1 hk; rw [ih _ _ hk]; exact h
          · cases h
        · rename_i fs hu
          try simp only [hu]
          split at h
          · rename_i q hq; rw [lift n _ _ ih _ _ _ hq]; exact h
          · cases h
        · rename_i m e hu
          try simp only [hu]
          split at h
          · rename_i q hq; rw [lift n _ _ ih _ _ _ hq]; exact h
          · cases h
        · cases h
    have up : ∀ (k n : Nat) (t : TypeId) (y : Bool × List CT), tyC P n t = some y → tyC P (n + k) t = some y := by
      intro k
      induction k with
      | zero => exact fun n t y h => h
      | succ k ih => exact fun n t y h => mono _ _ _ (ih n t y h)
    have e1 := up d' d t _ hty
    have e2 := up d d' t _ hty'
    rw [Nat.add_comm d' d, e1] at e2
    cases e2
    exact h2⟩

theorem args_data {H : Type} {enc : TypeId × Value → H} {P : Program} {W : World} {base b0 : Nat} {r : Reach} {held : Bool} : ∀ {tl : List TypeId} {vl : List Value} {ds : List (DataW H)} {ps : List MemPlace}, DataW.TrodAll enc P W base (fun _ => true) held tl vl ds ps →
    (∀ t ∈ tl, (tyC P 20 t).isSome = true) → (∀ (j : Nat) (t : TypeId) (v : Value), tl[j]? = some t → vl[j]? = some v → Value.okWide P W r b0 t v) →
    ∃ vs, OkTs P tl vs ∧ vs.length = vl.length ∧ ∀ i, i < vs.length → PRep W (fun _ => False) (vl.getD i undef) (vs.getD i default)
  | [], vl, ds, ps, h, _, _ => by
    obtain ⟨rfl, rfl, rfl⟩ := trodAll_nil h
    exact ⟨[], trivial, rfl, fun i hi => by simp at hi⟩
  | t :: tl, vl, ds, ps, h, hty, hval => by
    obtain ⟨v, vl', d, ds', a, b, rfl, rfl, rfl, h1, h2⟩ := trodAll_cons h
    obtain ⟨y, hy⟩ := Option.isSome_iff_exists.1 (hty t (by simp))
    obtain ⟨dv, h3, h4⟩ := arg_data (g := y.1) (ts := y.2) hy (hval 0 t v rfl rfl) h1
    obtain ⟨vs, h5, h6, h7⟩ := args_data h2 (fun t ht => hty t (by simp [ht])) (fun j t v h h' => hval (j + 1) t v (by simpa using h) (by simpa using h'))
    refine ⟨dv :: vs, ⟨h4, h5⟩, by simp [h6], fun i hi => ?_⟩
    cases i with
    | zero => simpa using h3
    | succ i => simpa using h7 i (by simpa using hi)

theorem args_again {H : Type} {enc : TypeId × Value → H} {P : Program} {W W' : World} (hl : laidOutB P = true) (hb : Below W.heap.size W W') {sp : Nat → Bool} : ∀ {tl : List TypeId} {vl : List Value} {ds : List (DataW H)} {ps : List MemPlace}, DataW.TrodAll enc P W 0 (fun _ => true) true tl vl ds ps →
    (∀ t ∈ tl, P.readableRec t = true ∧ t < P.types.size) → (∀ p ∈ ps, p.block < W.heap.size) → (∀ p ∈ ps, sp p.block = true) → DataW.TrodAll enc P W' 0 sp true tl vl ds ps
  | [], vl, ds, ps, h, _, _, _ => by
    obtain ⟨rfl, rfl, rfl⟩ := trodAll_nil h
    rfl
  | t :: tl, vl, ds, ps, h, hr, hlt, hs => by
    obtain ⟨v, vl', d, ds', a, b, rfl, rfl, rfl, h1, h2⟩ := trodAll_cons h
    exact ⟨a, b, WideElems.Trod_stays hl (hr t (by simp)).1 (hr t (by simp)).2 h1 (fun p hp => hb.same (hlt p (by simp [hp]))) (fun p hp => hs p (by simp [hp])),
      args_again hl hb h2 (fun t ht => hr t (by simp [ht])) (fun p hp => hlt p (by simp [hp])) (fun p hp => hs p (by simp [hp])), rfl⟩

/-- THE ENTRY. -/
theorem law_contract {H : Type} {enc : TypeId × Value → H} {P : Program} {f : Nat} {fn : Func} {s : ChangeSpec} {tb : TypeId} (hvars : s.vars = []) (hl : laidOutB P = true) (hr : ∀ t ∈ fn.params.toList, (tyC P 20 t).isSome = true ∧ P.readableRec t = true ∧ t < P.types.size)
    (hres : fn.resultTypes = #[tb]) (htb : P.underlying tb = some .bool)
    {W : World} {base : Nat} {args : Array Value} {ds gs : List (DataW H)} {before : List MemPlace}
    (hfn : ∀ ds : List (DataW H), ds.length = fn.params.size → s.fn H ds = { results := [.lit (.bool true)], args := ds })
    (hlaw : ∀ vs, OkTs P fn.params.toList vs → FnQ P f vs [.bool true])
    (hval : ∀ (j : Nat) t v, fn.params[j]? = some t → args[j]? = some v → Value.okWide P W .any base t v)
    (hW : DataW.Whole enc P fn.params.toList s.vars false W args.toList ds gs before) :
    Calls P f args W fun e W' => ∃ v, e = .returned v ∧ s.post enc P fn false true false false W args v W' := by
  have hW' := hW
  obtain ⟨p, q, hA, hV, rfl, hz, _⟩ := hW
  rw [hvars] at hV
  obtain ⟨rfl, rfl⟩ := trodVars_none hV
  have hlen : ds.length = fn.params.size := by
    have : ∀ {tl : List TypeId} {vl : List Value} {ds : List (DataW H)} {ps : List MemPlace}, DataW.TrodAll enc P W 0 (fun _ => true) true tl vl ds ps → ds.length = tl.length := by
      intro tl
      induction tl with
      | nil => intro vl ds ps h; obtain ⟨rfl, rfl, rfl⟩ := trodAll_nil h; rfl
      | cons t tl ih =>
        intro vl ds ps h
        obtain ⟨v, vl', d, ds', a, b, rfl, rfl, rfl, h1, h2⟩ := trodAll_cons h
        simp [ih h2]
    simpa using this hA
  obtain ⟨vs, h1, h2, h3⟩ := args_data hA (fun t ht => (hr t ht).1) (fun j t v h h' => hval j t v (by simpa using h) (by simpa using h'))
  refine ((hlaw vs h1).2 W (fun _ => False) args (fun _ h => h.elim) (by simpa using h2.symm) (fun i hi => by have := h3 i hi; rwa [Array.getD_toList'] at this)).mono ?_
  rintro e W' ⟨v, rfl, hv, hfr⟩
  obtain rfl : v = .bool true := by cases (show PRep W' (fun _ => False) v (.bool true) from hv); rfl
  refine ⟨_, rfl, ?_⟩
  have hb : Below W.heap.size W W' := ⟨hfr.os, hfr.tape, hfr.output, hfr.size, fun k hk => hfr.keep k hk id⟩
  have hlt := hW'.lt
  have hf := hfn (ds ++ []) (by simpa using hlen)
  have hagain : ∀ sp : Nat → Bool, (∀ x ∈ p, sp x.block = true) → DataW.TrodAll enc P W' 0 sp true fn.params.toList args.toList ds p := fun sp hs =>
    args_again hl hb hA (fun t ht => (hr t ht).2) (fun x hx => hlt x (by simp [hx])) hs
  refine ⟨ds, [], p ++ [], [], p, [], hW', ?_, ?_, ?_, hb.frame _, fun h => by cases h⟩
  · rw [hf, hres]
    exact trodAll_cons_mk (shut_bool htb _) trodAll_mk0
  · rw [hf]
    simpa using hagain _ (fun x hx => by simpa using hlt x (by simp [hx]))
  · rw [hf, hvars]
    rfl
end Go.Vm
