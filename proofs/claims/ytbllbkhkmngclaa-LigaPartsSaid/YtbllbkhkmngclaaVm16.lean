/-
  The abstract machine, part 16: regions that draw their order: the text's order serves every order.
-/
import Derived.Test.YtbllbkhkmngclaaVm15
namespace Go.Vm
open Go Go.RowKit

/-! ### which slots an operation looks at -/
def optOs : Option O → List O
  | none => []
  | some o => [o]
def AOp.os : AOp → List O
  | .mov x | .load _ _ x | .nilck x | .un _ x | .conv _ x | .fld _ _ _ x | .fldA _ x | .ext _ x | .len x | .lenS x | .slnil _ x | .box x => [x]
  | .pick c x y => [c, x, y]
  | .build _ ps => ps.map (·.2.2)
  | .bin _ x y | .eqb _ x y | .eqv _ _ x y | .idxA _ x y | .idxAA _ _ x y | .idxV _ _ _ x y | .idxS x y | .mx x y | .mn x y | .app _ _ x y | .store _ x y | .mksl _ _ _ x y => [x, y]
  | .mkfn _ f c => f ++ c
  | .slc _ x lo hi m => x :: (optOs lo ++ optOs hi ++ optOs m)
  | .bslice _ ps => ps
  | .call _ args => args
  | .callv f args => f :: args

theorem optInt_congr {e e' : Env} {d : Nat} {o : Option O} (h : ∀ x ∈ optOs o, x.ev e = x.ev e') : optInt e d o = optInt e' d o := by
  cases o with
  | none => rfl
  | some x => simp [optInt, h x (by simp [optOs])]
theorem fillA_congr {e e' : Env} : ∀ (ps : List (Nat × Nat × O)) (cs : List S), (∀ x ∈ ps.map (·.2.2), x.ev e = x.ev e') → fillA e cs ps = fillA e' cs ps
  | [], cs, _ => rfl
  | (off, n, o) :: r, cs, h => by
    simp only [fillA]
    rw [h o (by simp)]
    split
    · exact fillA_congr r _ (fun x hx => h x (by simp at hx ⊢; exact .inr hx))
    · rfl
theorem rowAt_mono {H H' : Heap} (hH : ∀ (b : Nat) (r : Row), H[b]? = some r → H'[b]? = some r) {b : Nat} {r : Row} (h : rowAt H b = some r) : rowAt H' b = some r := by
  obtain ⟨h1, h2⟩ := rowAt_inv h
  simp [rowAt, hH b r h1, h2]

/-- what only computes or reads yields the same where its operands, and the rows, are the same -/
theorem aFun_congr {e e' : Env} {H H' : Heap} (hH : ∀ (b : Nat) (r : Row), H[b]? = some r → H'[b]? = some r) (op : AOp) (h : ∀ x ∈ op.os, x.ev e = x.ev e') {s : S} (hs : aFun e H op = some s) : aFun e' H' op = some s := by
  cases op <;> simp only [AOp.os] at h
  case build z ps => simp only [aFun] at hs ⊢; rw [← fillA_congr ps z h]; exact hs
  case mkfn fn f c =>
    simp only [aFun] at hs ⊢
    rw [← hs]
    congr 2
    · exact List.map_congr_left fun x hx => (h x (by simp [hx])).symm
    · exact List.map_congr_left fun x hx => (h x (by simp [hx])).symm
  case slc n x lo hi mx =>
    have h1 := h x (by simp)
    have h2 : ∀ d, optInt e d lo = optInt e' d lo := fun d => optInt_congr fun y hy => h y (by simp [hy])
    have h3 : ∀ d, optInt e d hi = optInt e' d hi := fun d => optInt_congr fun y hy => h y (by simp [hy])
    have h4 : ∀ d, optInt e d mx = optInt e' d mx := fun d => optInt_congr fun y hy => h y (by simp [hy])
    simp only [aFun, h1, h2, h3, h4] at hs ⊢
    split at hs
    · exact hs
    · exact hs
    · split at hs
      · rename_i r hl hh hr
        rw [hl, hh, rowAt_mono hH hr]
        exact hs
      · cases hs
    · cases hs
  case load g n x =>
    have h1 := h x (by simp)
    simp only [aFun, h1] at hs ⊢
    split at hs
    · split at hs
      · rename_i r hr
        rw [rowAt_mono hH hr]
        exact hs
      · cases hs
    · exact hs
    · cases hs
  case idxA n x i =>
    have h1 := h x (by simp)
    have h2 := h i (by simp)
    simp only [aFun, h1, h2] at hs ⊢
    split at hs
    · exact hs
    · split at hs
      · rename_i hc
        split at hs
        · rename_i r hr
          rw [rowAt_mono hH hr]
          rw [if_pos hc]
          exact hs
        · cases hs
      · cases hs
    · cases hs
  case pick c x y => simp only [aFun, h c (by simp), h x (by simp), h y (by simp)] at hs ⊢; exact hs
  case bslice => simp [aFun] at hs
  case mksl => simp [aFun] at hs
  case call => simp [aFun] at hs
  case callv => simp [aFun] at hs
  case box => simp [aFun] at hs
  case store => simp [aFun] at hs
  case app => simp [aFun] at hs
  case mov x => simp only [aFun, h x (by simp)] at hs ⊢; exact hs
  case nilck x => simp only [aFun, h x (by simp)] at hs ⊢; exact hs
  case un op x => simp only [aFun, h x (by simp)] at hs ⊢; exact hs
  case conv k x => simp only [aFun, h x (by simp)] at hs ⊢; exact hs
  case fld a b c x => simp only [aFun, h x (by simp)] at hs ⊢; exact hs
  case fldA b x => simp only [aFun, h x (by simp)] at hs ⊢; exact hs
  case ext b x => simp only [aFun, h x (by simp)] at hs ⊢; exact hs
  case len x => simp only [aFun, h x (by simp)] at hs ⊢; exact hs
  case lenS x => simp only [aFun, h x (by simp)] at hs ⊢; exact hs
  case slnil => simp [aFun] at hs
  case bin op x y => simp only [aFun, h x (by simp), h y (by simp)] at hs ⊢; exact hs
  case eqb op x y => simp only [aFun, h x (by simp), h y (by simp)] at hs ⊢; exact hs
  case eqv op k x y => simp only [aFun, h x (by simp), h y (by simp)] at hs ⊢; exact hs
  case idxAA a b x y => simp only [aFun, h x (by simp), h y (by simp)] at hs ⊢; exact hs
  case idxV a b c x y => simp only [aFun, h x (by simp), h y (by simp)] at hs ⊢; exact hs
  case idxS x y => simp only [aFun, h x (by simp), h y (by simp)] at hs ⊢; exact hs
  case mx x y => simp only [aFun, h x (by simp), h y (by simp)] at hs ⊢; exact hs
  case mn x y => simp only [aFun, h x (by simp), h y (by simp)] at hs ⊢; exact hs

/-! ### a function that is called with data, and gives data back -/
def V.flat : V → Bool
  | .int _ _ | .bool _ | .str _ => true
  | .agg cs => V.flats cs
  | _ => false
where V.flats : List V → Bool
  | [] => true
  | .int _ _ :: r => V.flats r
  | .bool _ :: r => V.flats r
  | .str _ :: r => V.flats r
  | _ :: _ => false

theorem flats_mem : ∀ {l : List V}, V.flat.V.flats l = true → ∀ v ∈ l, ∀ {w w' : World} {X X' : Nat → Prop} {u : Value}, PRep w X u v → PRep w' X' u v
  | [], _, v, hv => by cases hv
  | .int k n :: r, h, v, hv => by
    intro hp
    rcases List.mem_cons.1 hv with rfl | hv
    · cases hp; constructor; assumption
    · exact flats_mem (by simpa [V.flat.V.flats] using h) v hv hp
  | .bool b :: r, h, v, hv => by
    intro hp
    rcases List.mem_cons.1 hv with rfl | hv
    · cases hp; constructor
    · exact flats_mem (by simpa [V.flat.V.flats] using h) v hv hp
  | .str s :: r, h, v, hv => by
    intro hp
    rcases List.mem_cons.1 hv with rfl | hv
    · cases hp; constructor; assumption
    · exact flats_mem (by simpa [V.flat.V.flats] using h) v hv hp
  | .agg _ :: _, h, _, _ => by simp [V.flat.V.flats] at h
  | .sl _ :: _, h, _, _ => by simp [V.flat.V.flats] at h
  | .nilp :: _, h, _, _ => by simp [V.flat.V.flats] at h
  | .func _ _ _ :: _, h, _, _ => by simp [V.flat.V.flats] at h
  | .nilf :: _, h, _, _ => by simp [V.flat.V.flats] at h
  | .iface _ _ :: _, h, _, _ => by simp [V.flat.V.flats] at h
  | .nili :: _, h, _, _ => by simp [V.flat.V.flats] at h
theorem PRep.flat {w w' : World} {X X' : Nat → Prop} {u : Value} {v : V} (hf : v.flat = true) (h : PRep w X u v) : PRep w' X' u v := by
  cases h with
  | int k n h => exact .int k n h
  | bool b => exact .bool b
  | str s h => exact .str s h
  | agg cs vs hl hc hh =>
    simp only [V.flat] at hf
    refine .agg cs vs hl hc fun i hi => ?_
    refine flats_mem hf _ ?_ (hh i hi)
    rw [List.getD_eq_getElem?_getD, List.getElem?_eq_getElem hi]
    exact List.getElem_mem _
  | _ => simp [V.flat] at hf

/-- what a call with data gives back -/
def PRes (w : World) (X : Nat → Prop) (v : Value) : List V → Prop
  | [d] => PRep w X v d
  | ds => ∃ vs, v = .tuple vs ∧ vs.size = ds.length ∧ ∀ i, i < ds.length → PRep w X (vs.getD i undef) (ds.getD i default)
theorem PRes.rep {w : World} {X : Nat → Prop} {μ : Mu} {v : Value} {ds : List V} (h : PRes w X v ds) : Rep w X μ v (retS (ds.map .pure)) := by
  cases ds with
  | nil =>
    obtain ⟨vs, rfl, h1, h2⟩ := h
    exact .tup vs _ (by simpa using h1) (fun i hi => by simp at hi)
  | cons d r =>
    cases r with
    | nil => exact .pure _ _ h
    | cons d2 r =>
      obtain ⟨vs, rfl, h1, h2⟩ := h
      refine .tup vs _ (by simpa using h1) fun i hi => ?_
      have hi' : i < (d :: d2 :: r).length := by simpa using hi
      have := h2 i hi'
      rw [List.getD_eq_getElem?_getD, List.getElem?_eq_getElem hi'] at this
      rw [List.getD_eq_getElem?_getD]
      show Rep w X μ _ ((((d :: d2 :: r).map S.pure)[i]?).getD .dead)
      rw [List.getElem?_map, List.getElem?_eq_getElem hi']
      exact .pure _ _ this
theorem PRes.flat {w w' : World} {X X' : Nat → Prop} {v : Value} {ds : List V} (hf : ∀ d ∈ ds, d.flat = true) (h : PRes w X v ds) : PRes w' X' v ds := by
  cases ds with
  | nil =>
    obtain ⟨vs, rfl, h1, h2⟩ := h
    exact ⟨vs, rfl, h1, fun i hi => by simp at hi⟩
  | cons d r =>
    cases r with
    | nil => exact PRep.flat (hf d (by simp)) h
    | cons d2 r =>
      obtain ⟨vs, rfl, h1, h2⟩ := h
      refine ⟨vs, rfl, h1, fun i hi => PRep.flat (hf _ ?_) (h2 i hi)⟩
      rw [List.getD_eq_getElem?_getD, List.getElem?_eq_getElem hi]
      exact List.getElem_mem _

/-- THE CONTRACT OF A FUNCTION OF DATA. -/
def FnQ (P : Program) (f : Nat) (vs rs : List V) : Prop :=
  (∃ fn, P.funcs[f]? = some fn ∧ (fn.name == "runtime.NumGoroutine") = false ∧ fn.body.isNone = false) ∧
  ∀ (w : World) (X : Nat → Prop) (cargs : Array Value), (∀ k, X k → k < w.heap.size) → cargs.size = vs.length → (∀ i, i < vs.length → PRep w X (cargs.getD i undef) (vs.getD i default)) →
    Calls P f cargs w fun e w' => ∃ v, e = .returned v ∧ PRes w' X v rs ∧ Fr (fun _ => False) w w'

theorem PRes.less {w : World} {X X' : Nat → Prop} (hX : ∀ k, X' k → X k) {v : Value} {ds : List V} (h : PRes w X v ds) : PRes w X' v ds := by
  cases ds with
  | nil =>
    obtain ⟨vs, rfl, h1, h2⟩ := h
    exact ⟨vs, rfl, h1, fun i hi => (h2 i hi).less hX⟩
  | cons d r =>
    cases r with
    | nil => exact PRep.less hX h
    | cons d2 r =>
      obtain ⟨vs, rfl, h1, h2⟩ := h
      exact ⟨vs, rfl, h1, fun i hi => (h2 i hi).less hX⟩
/-- THE CONTRACT OF A FUNCTION OF DATA whose results lie in no block that was there. -/
def FnF (P : Program) (f : Nat) (vs rs : List V) : Prop :=
  (∃ fn, P.funcs[f]? = some fn ∧ (fn.name == "runtime.NumGoroutine") = false ∧ fn.body.isNone = false) ∧
  ∀ (w : World) (cargs : Array Value), cargs.size = vs.length → (∀ i, i < vs.length → PRep w (fun _ => False) (cargs.getD i undef) (vs.getD i default)) →
    Calls P f cargs w fun e w' => ∃ v, e = .returned v ∧ PRes w' (fun k => k < w.heap.size) v rs ∧ Fr (fun _ => False) w w'
theorem FnF.fnQ {P : Program} {f : Nat} {vs rs : List V} (h : FnF P f vs rs) : FnQ P f vs rs :=
  ⟨h.1, fun w _ cargs hX hl ha => (h.2 w cargs hl fun i hi => (ha i hi).less fun _ h => h.elim).mono fun _ _ ⟨v, h1, h2, h3⟩ => ⟨v, h1, h2.less hX, h3⟩⟩

theorem HRep.kept {w w' : World} {μ : Mu} {H : Heap} (h : HRep w μ H) (hf : Fr (fun _ => False) w w') : HRep w' μ H := by
  have hk : ∀ X, Keeps X w w' := fun X k hk _ => hf.keep k hk id
  exact h.alter (hk _) (fun k hk' => .inl hk') (fun _ _ h => h) rfl hf.size h.dom (fun b r l hb hd hl => .inr ⟨hb, hl, fun hst hv => hf.keep _ (live_lt h hb hst hl hv) id⟩) h.inj

theorem callQ_sound {P : Program} {w : World} {μ : Mu} {H HF : Heap} (hrep : HRep w μ H) (hF : ∀ (b : Nat) (l : Loc), μ b = some l → HF[b]? = H[b]?) {f : Nat} {args : List S} {lv : Bool} {vs rs : List V} (hv : toVs lv HF args = some vs) (hfn : FnQ P f vs rs) (hflat : lv = true → (∀ r ∈ rs, r.flat = true) ∨ FnF P f vs rs)
    {cargs : Array Value} (hl : cargs.size = args.length) (ha : ∀ i, i < args.length → Rep w (excl μ H) μ (cargs.getD i undef) (args.getD i .dead)) :
    Calls P f cargs w fun e w' => ∃ v, e = .returned v ∧ Step w μ H w' μ H v (retS (rs.map .pure)) := by
  have hlt : ∀ k, excl μ H k → k < w.heap.size := by
    rintro k (h | h)
    · exact owned_lt hrep h
    · exact (hrep.xo k h).1
  have fin : ∀ {w' : World} {v : Value}, PRes w' (excl μ H) v rs → Fr (fun _ => False) w w' → Step w μ H w' μ H v (retS (rs.map .pure)) := by
    intro w' v h1 h2
    exact ⟨hrep.kept h2, h1.rep, fun _ _ h => h, rfl, ⟨h2.os, h2.tape, h2.output, h2.size, fun k hk _ => h2.keep k hk id⟩, fun _ h => .inl h⟩
  cases lv with
  | false =>
    obtain ⟨h1, h2⟩ := toVs_sound (X := excl μ H) hrep hF (fun _ h => h) (fun h => by cases h) hv
    refine (hfn.2 w (excl μ H) cargs hlt (by omega) (h2 hl ha)).mono fun e w' he => ?_
    obtain ⟨v, rfl, h3, h4⟩ := he
    exact ⟨v, rfl, fin h3 h4⟩
  | true =>
    obtain ⟨h1, h2⟩ := toVs_sound (X := fun _ => False) hrep hF (fun _ h => h.elim) (fun _ _ h => h) hv
    rcases hflat rfl with hfl | hff
    · refine (hfn.2 w (fun _ => False) cargs (fun _ h => h.elim) (by omega) (h2 hl ha)).mono fun e w' he => ?_
      obtain ⟨v, rfl, h3, h4⟩ := he
      exact ⟨v, rfl, fin (h3.flat hfl) h4⟩
    · refine (hff.2 w cargs (by omega) (h2 hl ha)).mono fun e w' he => ?_
      obtain ⟨v, rfl, h3, h4⟩ := he
      exact ⟨v, rfl, fin (h3.less hlt) h4⟩

theorem allPure_mono_aux {H H' : Heap} (hH : ∀ (b : Nat) (r : Row), H[b]? = some r → H'[b]? = some r) {lv : Bool} {s : S} {d : V} (h : toV0 lv H s = some d) : toV0 lv H' s = some d := by
  cases s with
  | rsl b off len =>
    simp only [toV0] at h ⊢
    split at h
    · rename_i r hr
      rw [hH b r hr]
      exact h
    · cases h
  | _ => exact h
theorem toVs0_mono {H H' : Heap} (hH : ∀ (b : Nat) (r : Row), H[b]? = some r → H'[b]? = some r) {lv : Bool} : ∀ {ss : List S} {ds : List V}, toVs0 lv H ss = some ds → toVs0 lv H' ss = some ds
  | [], ds, h => h
  | s :: r, ds, h => by
    simp only [toVs0] at h ⊢
    split at h
    · rename_i v q hv hq
      rw [allPure_mono_aux hH hv, toVs0_mono hH hq]
      exact h
    · cases h
theorem toVo_mono {H H' : Heap} (hH : ∀ (b : Nat) (r : Row), H[b]? = some r → H'[b]? = some r) {lv : Bool} {s : S} {d : V} (h : toVo lv H s = some d) : toVo lv H' s = some d := by
  cases s with
  | agg cs =>
    simp only [toVo] at h ⊢
    split at h
    · rename_i vs hvs; rw [toVs0_mono hH hvs]; exact h
    · cases h
  | func fn f c =>
    simp only [toVo] at h ⊢
    split at h
    · rename_i a b ha hb; rw [toVs0_mono hH ha, toVs0_mono hH hb]; exact h
    · cases h
  | _ =>
    simp only [toVo] at h ⊢
    exact allPure_mono_aux hH h
theorem toVn_mono {H H' : Heap} (hH : ∀ (b : Nat) (r : Row), H[b]? = some r → H'[b]? = some r) {lv : Bool} : ∀ (n : Nat) {s : S} {d : V}, toVn lv H n s = some d → toVn lv H' n s = some d
  | 0, _, _, h => by cases h
  | n + 1, s, d, h => by
    cases s with
    | rsl b off len =>
      simp only [toVn] at h ⊢
      split at h
      · rename_i r hr
        simp only [hH b r hr]
        split at h
        · rename_i hc
          rw [if_pos hc]
          split at h
          · rename_i vs hvs
            rw [mapO_imp (fun s v => toVn_mono hH n) hvs]
            exact h
          · cases h
        · cases h
      · cases h
    | agg cs =>
      simp only [toVn] at h ⊢
      split at h
      · rename_i vs hvs
        rw [mapO_imp (fun s v => toVn_mono hH n) hvs]
        exact h
      · cases h
    | _ => exact h
theorem toV_mono {H H' : Heap} (hH : ∀ (b : Nat) (r : Row), H[b]? = some r → H'[b]? = some r) {lv : Bool} {s : S} {d : V} (h : toV lv H s = some d) : toV lv H' s = some d := by
  unfold toV at h ⊢
  split at h
  · rename_i v hv
    cases h
    rw [toVo_mono hH hv]
  · have hn := toVn_mono hH 8 h
    split
    · rename_i v hv
      rw [toVo_n hv hn]
    · exact hn
theorem toVs_mono {H H' : Heap} (hH : ∀ (b : Nat) (r : Row), H[b]? = some r → H'[b]? = some r) {lv : Bool} : ∀ {ss : List S} {ds : List V}, toVs lv H ss = some ds → toVs lv H' ss = some ds
  | [], ds, h => h
  | s :: r, ds, h => by
    simp only [toVs] at h ⊢
    split at h
    · rename_i v q hv hq
      rw [toV_mono hH hv, toVs_mono hH hq]
      exact h
    · cases h
/-- A CALL IN THE MIDDLE OF OTHER WORK: it reads what it is given, writes nothing that was there, and its results are data. -/
def CallR (P : Program) (f : Nat) (args : List S) (H : Heap) (rs : List V) : Prop :=
  (∃ fn, P.funcs[f]? = some fn ∧ (fn.name == "runtime.NumGoroutine") = false ∧ fn.body.isNone = false) ∧
  ∀ HF : Heap, (∀ (b : Nat) (r : Row), H[b]? = some r → HF[b]? = some r) → ∀ (w : World) (μ : Mu) (G : Heap) (cargs : Array Value), HRep w μ G → (∀ (b : Nat) (l : Loc), μ b = some l → HF[b]? = G[b]?) → cargs.size = args.length →
    (∀ i, i < args.length → Rep w (excl μ G) μ (cargs.getD i undef) (args.getD i .dead)) →
    Calls P f cargs w fun e w' => ∃ v, e = .returned v ∧ Step w μ G w' μ G v (retS (rs.map .pure))
theorem CallR.mono {P : Program} {f : Nat} {args : List S} {H H' : Heap} {rs : List V} (hH : ∀ (b : Nat) (r : Row), H[b]? = some r → H'[b]? = some r) (h : CallR P f args H rs) : CallR P f args H' rs :=
  ⟨h.1, fun HF hF => h.2 HF fun b r hb => hF b r (hH b r hb)⟩
theorem CallR.data {P : Program} {f : Nat} {args : List S} {H : Heap} (lv : Bool) (vs rs : List V) (hv : toVs lv H args = some vs) (hf : FnQ P f vs rs) (hl : lv = true → (∀ r ∈ rs, r.flat = true) ∨ FnF P f vs rs) : CallR P f args H rs :=
  ⟨hf.1, fun _ hF _ _ _ _ hrep hG hs ha => callQ_sound hrep hG (toVs_mono hF hv) hf hl hs ha⟩
/-- a call with data, in the middle of other work -/
def CallQ (P : Program) (f : Nat) (args : List S) (H : Heap) (K : S → Prop) : Prop :=
  ∃ rs, CallR P f args H rs ∧ K (retS (rs.map .pure))
end Go.Vm
