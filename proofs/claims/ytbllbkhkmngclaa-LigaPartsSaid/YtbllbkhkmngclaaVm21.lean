/-
  The abstract machine, part 21: results that lie in cells; the contract of a function, from its code.
-/
import Derived.Test.YtbllbkhkmngclaaVm20
namespace Go.Vm
open Go Go.RowKit

inductive RS where
  | t (k : Nat)
  | c (k : Nat) (agg : Bool) (n : Nat)
  deriving Inhabited
def resC (P : Program) : List ResultVar → Option (List RS)
  | [] => some []
  | .tmp t :: r => (resC P r).map (.t t :: ·)
  | .cell a t :: r => match aggT P t, sizeT P t, resC P r with
    | some g, some n, some q => some (.c a g n :: q)
    | _, _, _ => none
def RS.val (env : Env) (H : Heap) : RS → Option S
  | .t k => some (env.get k)
  | .c k g n => aFun env H (.load g n (.s k))
def resVals (env : Env) (H : Heap) : List RS → Option (List S)
  | [] => some []
  | r :: q => match r.val env H, resVals env H q with
    | some s, some l => some (s :: l)
    | _, _ => none

def resOne (tmps : Array Value) : ResultVar → Sem Value
  | .tmp t => pure (tmps.getD t undef)
  | .cell a t => do loadVar t (← asAddr (tmps.getD a undef))
theorem results_eq (fn : Func) (tmps : Array Value) : results fn tmps = (do
    let vs ← fn.results.mapM (resOne tmps)
    pure (if h : vs.size = 1 then vs[0] else .tuple vs)) := by
  unfold results
  congr 1

theorem run_resC {P : Program} {w : World} {μ : Mu} {H : Heap} (hrep : HRep w μ H) {tmps : Array Value} {env : Env} (he : ∀ d, Rep w (excl μ H) μ (tmps.getD d undef) (env.get d)) :
    ∀ {l : List ResultVar} {rs : List RS} {ss : List S}, resC P l = some rs → resVals env H rs = some ss →
      ∃ vs, (l.mapM (m := Sem) (resOne tmps)).run P w = .ok vs w ∧ vs.length = ss.length ∧ ∀ i, i < ss.length → Rep w (excl μ H) μ (vs.getD i undef) (ss.getD i .dead) := by
  intro l
  induction l with
  | nil => intro rs ss h hv; simp [resC] at h; subst h; simp [resVals] at hv; subst hv; exact ⟨[], rfl, rfl, fun i hi => by simp at hi⟩
  | cons r l ih =>
    intro rs ss h hv
    have fin : ∀ {q : List RS} {s : S} {ss' : List S}, resC P l = some q → resVals env H q = some ss' → (∃ v, (resOne tmps r).run P w = .ok v w ∧ Rep w (excl μ H) μ v s) → ss = s :: ss' →
        ∃ vs, ((r :: l).mapM (m := Sem) (resOne tmps)).run P w = .ok vs w ∧ vs.length = ss.length ∧ ∀ i, i < ss.length → Rep w (excl μ H) μ (vs.getD i undef) (ss.getD i .dead) := by
      rintro q s ss' h1 h2 ⟨v, h3, h4⟩ rfl
      obtain ⟨vs, h5, h6, h7⟩ := ih h1 h2
      refine ⟨v :: vs, ?_, by simp [h6], fun i hi => ?_⟩
      · simp only [List.mapM_cons, Sem.run_bind, h3, Result.andThen_ok, h5, Sem.run_pure]
      · cases i with
        | zero => simpa using h4
        | succ i => simpa using h7 i (by simpa using hi)
    cases r with
    | tmp t =>
      simp only [resC] at h
      obtain ⟨q, hq, rfl⟩ := Option.map_eq_some_iff.1 h
      simp only [resVals, RS.val] at hv
      split at hv
      · rename_i s ss' h1 h2
        cases h1
        cases hv
        exact fin hq h2 ⟨_, rfl, he t⟩ rfl
      · cases hv
    | cell a t =>
      simp only [resC] at h
      split at h
      · rename_i g n q hg hn hq
        cases h
        simp only [resVals, RS.val] at hv
        split at hv
        · rename_i s ss' h1 h2
          cases hv
          refine fin hq h2 ?_ rfl
          obtain ⟨v, h3, h4⟩ := load_sound (P := P) hrep hg hn (x := .s a) (he a) h1
          refine ⟨v, ?_, h4⟩
          cases hp : tmps.getD a undef with
          | pointer ad =>
            rw [hp] at h3
            cases ad with
            | none => simp [Instr.loadAt, Instr.sureAddr, stuck] at h3
            | some ad => simpa [resOne, hp, asAddr, Instr.loadAt, Instr.sureAddr] using h3
          | _ => rw [hp] at h3; simp [Instr.loadAt, Instr.sureAddr, stuck] at h3
        · cases hv
      · cases h

theorem run_results' {P : Program} {w : World} {μ : Mu} {H : Heap} (hrep : HRep w μ H) {tmps : Array Value} {env : Env} (he : ∀ d, Rep w (excl μ H) μ (tmps.getD d undef) (env.get d)) {fn : Func} {rs : List RS} {ss : List S}
    (h : resC P fn.results.toList = some rs) (hv : resVals env H rs = some ss) : ∃ v, (results fn tmps).run P w = .ok v w ∧ Rep w (excl μ H) μ v (retS ss) := by
  obtain ⟨vs, h1, h2, h3⟩ := run_resC hrep he h hv
  refine ⟨if h : vs.toArray.size = 1 then vs.toArray[0] else .tuple vs.toArray, ?_, ?_⟩
  · rw [results_eq]
    simp only [Sem.run_bind]
    rw [Array.mapM_eq_mapM_toList]
    simp only [Sem.run_map]
    rw [h1]
    rfl
  · rcases ss with _ | ⟨s, _ | ⟨s2, q⟩⟩
    · rw [dif_neg (by simp [h2])]
      exact .tup _ _ (by simp [h2]) (fun i hi => by simp at hi)
    · have hl : vs.length = 1 := by simpa using h2
      rw [dif_pos (by simpa using hl)]
      have := h3 0 (by simp)
      obtain ⟨v, rfl⟩ := List.length_eq_one_iff.1 hl
      simpa [retS] using this
    · rw [dif_neg (by simp [h2])]
      refine .tup _ _ (by simp [h2]) (fun i hi => ?_)
      rw [Array.getD_toArray']
      exact h3 i hi

def PostR (kp : Nat) (rs : List RS) (K : S → Heap → Prop) : APost
  | .normal => Up kp fun env H => match resVals env H rs with
    | some ss => K (retS ss) H
    | none => False
  | .ret => Up kp fun env H => match resVals env H rs with
    | some ss => K (retS ss) H
    | none => False
  | .exit _ => fun _ _ => False

/-- FROM THE CODE TO THE CONTRACT. -/
theorem callA_of_code {P : Program} (hm : P.follows .mixedOrders = true) {f : Nat} {fn : Func} {ac : AC} {rs : List RS}
    (hf : P.funcs[f]? = some fn) (hname : (fn.name == "runtime.NumGoroutine") = false) (hc : (fn.body.bind fun c => cCode P fn.ntmps RCs c) = some ac) (hres : resC P fn.results.toList = some rs) {args : List S} (hn : args.length ≤ fn.ntmps) {H : Heap} {K : S → Heap → Prop}
    (h : aWp P H.length (RQs P) ac (PostR H.length rs K) (argEnv 0 args) H) : CallA P f args H K := by
  obtain ⟨c, hb, hc⟩ : ∃ c, fn.body = some c ∧ cCode P fn.ntmps RCs c = some ac := by
    cases hb : fn.body with
    | none => rw [hb] at hc; cases hc
    | some c => rw [hb] at hc; exact ⟨c, rfl, hc⟩
  refine ⟨⟨fn, hf, hname, by rw [hb]; rfl⟩, fun w μ cargs hrep hl hargs => ?_⟩
  refine calls_of_wp hf hb ?_
  have hrel : Rel w (owned μ H) μ fn.ntmps (argEnv 0 args) H { tmps := cargs ++ Array.replicate (fn.ntmps - cargs.size) undef, defers := [] } w μ := by
    refine ⟨by simp; omega, rfl, fun d => ?_, hrep, Fr.refl _ _, fun k hk => .inl hk, fun _ _ h => h, rfl⟩
    rw [argEnv_get]
    simp only [Nat.not_lt_zero, if_false, Nat.sub_zero]
    by_cases hd : d < args.length
    · have : (cargs ++ Array.replicate (fn.ntmps - cargs.size) undef).getD d undef = cargs.getD d undef := by
        simp only [Array.getD_eq_getD_getElem?]
        rw [Array.getElem?_append_left (by omega)]
      rw [this]
      exact hargs d hd
    · rw [List.getD_eq_getElem?_getD, List.getElem?_eq_none (by omega)]
      exact .dead _
  refine wp_mono (aWp_sound hm (regQ P) (fun b l hb => hrep.dom b l hb) c ac hc hrel h) ?_
  have fin : ∀ {a : Act} {w' : World}, Lands w (owned μ H) μ fn.ntmps (Up H.length fun env H => match resVals env H rs with
      | some ss => K (retS ss) H
      | none => False) a w' → a.defers = [] ∧ ∃ v, (results fn a.tmps).run P w' = .ok v w' ∧ ∃ v' s H' μ', Ending.returned v = .returned v' ∧ K s H' ∧ Step w μ H w' μ' H' v' s := by
    rintro a w' ⟨env', H', μ', h1, h2⟩
    obtain ⟨E, HE, μ2, h3, h4⟩ := Up.rel h1 (fun b l hb => hrep.dom b l hb) h2
    split at h3
    · rename_i ss hss
      obtain ⟨v, h5, h6⟩ := run_results' (P := P) h4.heap h4.env hres hss
      exact ⟨h4.defers, v, h5, v, _, HE, μ2, rfl, h3, h4.heap, h6, h4.pre, h4.xo, h4.fr, h4.own⟩
    · exact h3.elim
  rintro e a w' ⟨ex, rfl, hq⟩
  cases ex with
  | normal => exact fin hq
  | ret => exact fin hq
  | exit i => obtain ⟨env', H', μ', h1, _⟩ := hq; exact h1.elim

theorem CallA.mono {P : Program} {f : Nat} {args : List S} {H : Heap} {K K' : S → Heap → Prop} (h : CallA P f args H K) (hK : ∀ s H', K s H' → K' s H') : CallA P f args H K' :=
  ⟨h.1, fun w μ cargs hrep hl ha => (h.2 w μ cargs hrep hl ha).mono fun _ _ ⟨v, s, H', μ', h1, h2, h3⟩ => ⟨v, s, H', μ', h1, hK _ _ h2, h3⟩⟩

/-! ### rows that are looked at no more to be written -/
def freeze (H : Heap) : Heap := H.map fun r => if r.st = .live then { r with st := .frozen } else r
theorem freeze_get {H : Heap} {b : Nat} {r : Row} (h : (freeze H)[b]? = some r) : ∃ r0, H[b]? = some r0 ∧ r.es = r0.es ∧ r.size = r0.size ∧ r.st ≠ .live ∧ (r.st = .dead ↔ r0.st = .dead) := by
  simp only [freeze, List.getElem?_map] at h
  obtain ⟨r0, h1, rfl⟩ := Option.map_eq_some_iff.1 h
  refine ⟨r0, h1, ?_⟩
  cases hs : r0.st <;> simp [hs]
theorem owned_freeze {μ : Mu} {H : Heap} {k : Nat} : ¬ owned μ (freeze H) k := by
  rintro ⟨b, r, l, hb, hst, _⟩
  obtain ⟨r0, _, _, _, h, _⟩ := freeze_get hb
  exact h hst
theorem excl_freeze {μ : Mu} {H : Heap} {k : Nat} (h : excl μ (freeze H) k) : excl μ H k := h.elim (fun h => (owned_freeze h).elim) .inr
theorem HRep.freeze {w : World} {μ : Mu} {H : Heap} (h : HRep w μ H) : HRep w μ (freeze H) := by
  refine ⟨fun b l hl => by have := h.dom b l hl; simpa [Vm.freeze] using this, fun k hk => ⟨(h.xo k hk).1, owned_freeze⟩, ?_, ?_⟩
  · intro b r l hb hd hl
    obtain ⟨r0, h1, h2, h3, h4, h5⟩ := freeze_get hb
    have hd0 : r0.st ≠ .dead := fun e => hd (h5.2 e)
    have rr := h.row b r0 l h1 hd0 hl
    refine ⟨by rw [h3, rr.size], rr.pos, fun hv => by rw [h2]; exact rr.virt hv, fun e he => rr.lens e (by rw [← h2]; exact he), fun e he => rr.cellOk e (by rw [← h2]; exact he), fun hv => by rw [h2]; exact rr.fits hv, fun hv i j hi hj => ?_, fun _ hst => absurd hst h4, fun hv hst hne hx => ?_⟩
    · rw [h2] at hi ⊢
      obtain ⟨v, g1, g2⟩ := rr.cells hv i j hi hj
      exact ⟨v, g1, g2.keeps (fun _ _ _ => rfl) (fun k hk => .inl (excl_freeze hk)) (fun _ _ h => h)⟩
    · have hx' : μ.xo l.blk := hx.elim (fun h => (owned_freeze h).elim) id
      cases hs : r0.st with
      | dead => exact hd0 hs
      | frozen => exact rr.frozen hv hs (by rw [← h2]; exact hne) (.inr hx')
      | live => exact (h.xo _ hx').2 ⟨b, r0, l, h1, hs, hl, hv, rfl⟩
  · intro b b' r r' l l' hb hb' hst
    obtain ⟨r0, _, _, _, h, _⟩ := freeze_get hb
    exact absurd hst h
theorem toV0_freeze {H : Heap} {s : S} {d : V} (h : toV0 true H s = some d) : toV0 false (freeze H) s = some d := by
  cases s with
  | rsl b off len =>
    simp only [toV0] at h ⊢
    split at h
    · rename_i r hr
      have : (freeze H)[b]? = some (if r.st = .live then { r with st := .frozen } else r) := by simp [freeze, hr]
      rw [this]
      split at h
      · rename_i hc
        rcases hc with ⟨hc1 | ⟨_, hc1⟩, hc2⟩ <;> simp [hc1, hc2] <;> exact h
      · cases h
    · cases h
  | _ => exact h
theorem toVs0_freeze {H : Heap} : ∀ {ss : List S} {ds : List V}, toVs0 true H ss = some ds → toVs0 false (freeze H) ss = some ds
  | [], _, h => h
  | s :: r, ds, h => by
    simp only [toVs0] at h ⊢
    split at h
    · rename_i v q hv hq
      rw [toV0_freeze hv, toVs0_freeze hq]
      exact h
    · cases h
theorem toVo_freeze {H : Heap} {s : S} {d : V} (h : toVo true H s = some d) : toVo false (freeze H) s = some d := by
  cases s with
  | agg cs =>
    simp only [toVo] at h ⊢
    split at h
    · rename_i vs hvs; rw [toVs0_freeze hvs]; exact h
    · cases h
  | func fn f c =>
    simp only [toVo] at h ⊢
    split at h
    · rename_i a b ha hb; rw [toVs0_freeze ha, toVs0_freeze hb]; exact h
    · cases h
  | _ =>
    simp only [toVo] at h ⊢
    exact toV0_freeze h
theorem toVn_freeze {H : Heap} : ∀ (n : Nat) {s : S} {d : V}, toVn true H n s = some d → toVn false (freeze H) n s = some d
  | 0, _, _, h => by cases h
  | n + 1, s, d, h => by
    cases s with
    | rsl b off len =>
      simp only [toVn] at h ⊢
      split at h
      · rename_i r hr
        have e : (freeze H)[b]? = some (if r.st = .live then { r with st := .frozen } else r) := by simp [freeze, hr]
        rw [e]
        split at h
        · rename_i hc
          split at h
          · rename_i vs hvs
            have hv' := mapO_imp (fun s v => toVn_freeze n) hvs
            rcases hc with ⟨hc1 | ⟨_, hc1⟩, hc2⟩ <;> simp [hc1, hc2, hv'] <;> exact Option.some.inj h
          · cases h
        · cases h
      · cases h
    | agg cs =>
      simp only [toVn] at h ⊢
      split at h
      · rename_i vs hvs
        rw [mapO_imp (fun s v => toVn_freeze n) hvs]
        exact h
      · cases h
    | _ => exact h
theorem toV_freeze {H : Heap} {s : S} {d : V} (h : toV true H s = some d) : toV false (freeze H) s = some d := by
  unfold toV at h ⊢
  split at h
  · rename_i v hv
    cases h
    rw [toVo_freeze hv]
  · have hn := toVn_freeze 8 h
    split
    · rename_i v hv
      rw [toVo_n hv hn]
    · exact hn
theorem toVs_freeze {H : Heap} : ∀ {ss : List S} {ds : List V}, toVs true H ss = some ds → toVs false (freeze H) ss = some ds
  | [], _, h => h
  | s :: r, ds, h => by
    simp only [toVs] at h ⊢
    split at h
    · rename_i v q hv hq
      rw [toV_freeze hv, toVs_freeze hq]
      exact h
    · cases h

/-- what a function of data gives back, as data -/
def Gives (rs : List V) (s : S) (H : Heap) : Prop := ∃ ss, s = retS ss ∧ toVs true H ss = some rs

theorem fnQ_of_call {P : Program} {f : Nat} {vs rs : List V} (h : CallA P f (vs.map .pure) [] (Gives rs)) : FnQ P f vs rs := by
  refine ⟨h.1, fun w X cargs hX hl ha => ?_⟩
  have no : ∀ {μ : Mu} {k : Nat}, ¬ owned μ [] k := by rintro μ k ⟨b, r, l, hb, _⟩; simp at hb
  have hrep : HRep w ⟨fun _ => none, X⟩ [] := ⟨fun b l hl => by simp at hl, fun k hk => ⟨hX k hk, no⟩, fun b r l hb => by simp at hb, fun b b' r r' l l' hb => by simp at hb⟩
  refine (h.2 w ⟨fun _ => none, X⟩ cargs hrep (by simpa using hl) (fun i hi => ?_)).mono ?_
  · have hi' : i < vs.length := by simpa using hi
    have := ha i hi'
    rw [List.getD_eq_getElem?_getD, List.getElem?_eq_getElem hi'] at this
    rw [List.getD_eq_getElem?_getD, List.getElem?_map, List.getElem?_eq_getElem hi']
    exact .pure _ _ (this.less fun k hk => hk.elim (fun h => (no h).elim) id)
  · rintro e w' ⟨v, s, H', μ', rfl, ⟨ss, rfl, hv⟩, st⟩
    refine ⟨v, rfl, ?_, st.fr.os, st.fr.tape, st.fr.output, st.fr.size, fun k hk _ => st.fr.keep k hk no⟩
    have hr : Rep w' (excl μ' (freeze H')) μ' v (retS ss) := st.val.keeps (fun _ _ _ => rfl) (fun k hk => .inl (excl_freeze hk)) (fun _ _ h => h)
    have hXX : ∀ k, X k → excl μ' (freeze H') k := fun k hk => .inr (by rw [st.xo]; exact hk)
    have hvs := toVs_freeze hv
    obtain ⟨h1, h2⟩ := toVs_sound (X := X) st.heap.freeze (fun _ _ _ => rfl) hXX (fun h => by cases h) hvs
    rcases ss with _ | ⟨s, _ | ⟨s2, q⟩⟩
    · obtain rfl : rs = [] := List.eq_nil_of_length_eq_zero (by simpa using h1.symm)
      cases hr with
      | tup vs _ hl hh => exact ⟨vs, rfl, by simpa using hl, fun i hi => by simp at hi⟩
    · obtain ⟨d, rfl⟩ := List.length_eq_one_iff.1 (by simpa using h1.symm)
      have := h2 (cs := #[v]) rfl (fun i hi => by
        obtain rfl : i = 0 := by simpa using hi
        exact hr) 0 (by simp)
      exact this
    · cases hr with
      | tup vs _ hl hh =>
        rcases rs with _ | ⟨d, _ | ⟨d2, t⟩⟩
        · simp at h1
        · simp at h1
        · exact ⟨vs, rfl, by rw [hl]; simpa using h1, h2 hl hh⟩

/-- results in own rows of flat data, or flat -/
inductive Fresh (H : Heap) : S → V → Prop where
  | pure (v : V) (h : v.flat = true) : Fresh H (.pure v) v
  | empty : Fresh H .empty (.sl [])
  | rsl (b n m : Nat) (es : List V) (hb : H[b]? = some ⟨es.map .pure, m, .live⟩) (hf : ∀ e ∈ es, e.flat = true) (hn : n = es.length) : Fresh H (.rsl b 0 n) (.sl es)
inductive Freshs (H : Heap) : List S → List V → Prop where
  | nil : Freshs H [] []
  | cons {s : S} {v : V} {ss : List S} {vs : List V} (h : Fresh H s v) (hs : Freshs H ss vs) : Freshs H (s :: ss) (v :: vs)
theorem Freshs.at {H : Heap} : ∀ {ss : List S} {vs : List V}, Freshs H ss vs → ss.length = vs.length ∧ ∀ i, i < vs.length → Fresh H (ss.getD i .dead) (vs.getD i default)
  | [], [], .nil => ⟨rfl, fun i hi => by simp at hi⟩
  | _ :: _, _ :: _, .cons h hs => by
    obtain ⟨h1, h2⟩ := hs.at
    refine ⟨by simp [h1], fun i hi => ?_⟩
    cases i with
    | zero => simpa using h
    | succ i => simpa using h2 i (by simpa using hi)
def GivesF (rs : List V) (s : S) (H : Heap) : Prop := ∃ ss, s = retS ss ∧ toVs true H ss = some rs ∧ Freshs H ss rs
theorem cells_flat {e : V} (h : e.flat = true) {j : Nat} {w w' : World} {X X' : Nat → Prop} {u : Value} (hj : j < e.cells.length) (hp : PRep w X u (e.cells.getD j default)) : PRep w' X' u (e.cells.getD j default) := by
  cases e with
  | agg cs =>
    simp only [V.flat] at h
    refine flats_mem h _ ?_ hp
    simp only [V.cells] at hj ⊢
    rw [List.getD_eq_getElem?_getD, List.getElem?_eq_getElem hj]
    exact List.getElem_mem _
  | _ =>
    simp only [V.cells, List.length_singleton] at hj hp ⊢
    obtain rfl : j = 0 := by omega
    simp only [List.getD_cons_zero] at hp ⊢
    exact PRep.flat h hp
theorem Fresh.up {w : World} {X : Nat → Prop} {μ : Mu} {H : Heap} {s : S} {d : V} {v : Value} {Y : Nat → Prop} (h : Fresh H s d) (hown : ∀ k, owned μ H k → ¬ X k) (hr : Rep w Y μ v s) (hp : PRep w (fun _ => False) v d) : PRep w X v d := by
  have emp : ∀ {a : Option Addr} {d : V}, PRep w (fun _ => False) (.slice a 0 0) d → PRep w X (.slice a 0 0) d := by
    intro a d h
    cases h with
    | nils => exact .nils _
    | sl blk off len cap size es f hz hl hc hm hx hs hcell hw hr =>
      obtain rfl : es = [] := List.eq_nil_of_length_eq_zero hl
      exact .nils _
  cases h with
  | pure _ h => exact PRep.flat h hp
  | empty =>
    cases hr with
    | empty a ha => exact emp hp
  | rsl b n m es hb hf hn =>
    cases hr with
    | rsl _ _ _ cap l hl hv hc hm hr =>
      have hno : ¬ X l.blk := hown _ ⟨b, _, l, hb, rfl, hl, hv, rfl⟩
      cases hp with
      | nils a => exact .nils _
      | sl blk off len cap size es f hz hl hc hm hx hs hcell hw hr =>
        refine .sl _ _ _ _ size es f hz hl hc hm (fun _ => hno) hs hcell hw fun i j hi hj => ?_
        have he : es.getD i default ∈ es := by
          rw [List.getD_eq_getElem?_getD, List.getElem?_eq_getElem hi]
          exact List.getElem_mem _
        exact cells_flat (hf _ he) (by rw [hs _ he]; exact hj) (hr i j hi hj)
    | rslz a ha b off l hl => exact emp hp
theorem fnF_of_call {P : Program} {f : Nat} {vs rs : List V} (h : CallA P f (vs.map .pure) [] (GivesF rs)) : FnF P f vs rs := by
  refine ⟨h.1, fun w cargs hl ha => ?_⟩
  have no : ∀ {μ : Mu} {k : Nat}, ¬ owned μ [] k := by rintro μ k ⟨b, r, l, hb, _⟩; simp at hb
  have hrep : HRep w ⟨fun _ => none, fun _ => False⟩ [] := ⟨fun b l hl => by simp at hl, fun k hk => hk.elim, fun b r l hb => by simp at hb, fun b b' r r' l l' hb => by simp at hb⟩
  refine (h.2 w ⟨fun _ => none, fun _ => False⟩ cargs hrep (by simpa using hl) (fun i hi => ?_)).mono ?_
  · have hi' : i < vs.length := by simpa using hi
    have := ha i hi'
    rw [List.getD_eq_getElem?_getD, List.getElem?_eq_getElem hi'] at this
    rw [List.getD_eq_getElem?_getD, List.getElem?_map, List.getElem?_eq_getElem hi']
    exact .pure _ _ (this.less fun k hk => hk.elim (fun h => (no h).elim) id)
  · rintro e w' ⟨v, s, H', μ', rfl, ⟨ss, rfl, hv, hfr⟩, st⟩
    refine ⟨v, rfl, ?_, st.fr.os, st.fr.tape, st.fr.output, st.fr.size, fun k hk _ => st.fr.keep k hk no⟩
    have hr : Rep w' (excl μ' H') μ' v (retS ss) := st.val
    obtain ⟨h1, h2⟩ := toVs_sound (X := fun _ => False) st.heap (fun _ _ _ => rfl) (fun _ h => h.elim) (fun _ _ h => h) hv
    obtain ⟨_, h3⟩ := hfr.at
    have hown : ∀ k, owned μ' H' k → ¬ (k < w.heap.size) := by
      intro k hk hlt
      rcases st.own k hk with h4 | h4
      · exact no h4
      · omega
    rcases ss with _ | ⟨s, _ | ⟨s2, q⟩⟩
    · obtain rfl : rs = [] := List.eq_nil_of_length_eq_zero (by simpa using h1.symm)
      cases hr with
      | tup vs _ hl hh => exact ⟨vs, rfl, by simpa using hl, fun i hi => by simp at hi⟩
    · obtain ⟨d, rfl⟩ := List.length_eq_one_iff.1 (by simpa using h1.symm)
      have := h2 (cs := #[v]) rfl (fun i hi => by
        obtain rfl : i = 0 := by simpa using hi
        exact hr) 0 (by simp)
      exact (h3 0 (by simp)).up hown hr this
    · cases hr with
      | tup vs _ hl hh =>
        rcases rs with _ | ⟨d, _ | ⟨d2, t⟩⟩
        · simp at h1
        · simp at h1
        · exact ⟨vs, rfl, by rw [hl]; simpa using h1, fun i hi => (h3 i hi).up hown (hh i (by rw [h1]; exact hi)) (h2 hl hh i hi)⟩

theorem HRep.swap {w : World} {μ : Mu} {G HF : Heap} (h : HRep w μ G) (hF : ∀ (b : Nat) (l : Loc), μ b = some l → HF[b]? = G[b]?) : HRep w μ HF ∧ excl μ HF = excl μ G := by
  have ho : ∀ k, owned μ HF k ↔ owned μ G k := fun k => ⟨fun ⟨b, r, l, h1, h2, h3, h4⟩ => ⟨b, r, l, by rw [← hF b l h3]; exact h1, h2, h3, h4⟩, fun ⟨b, r, l, h1, h2, h3, h4⟩ => ⟨b, r, l, by rw [hF b l h3]; exact h1, h2, h3, h4⟩⟩
  have he : excl μ HF = excl μ G := funext fun k => propext (or_congr (ho k) Iff.rfl)
  refine ⟨⟨fun b l hl => ?_, fun k hk => ⟨(h.xo k hk).1, fun e => (h.xo k hk).2 ((ho k).1 e)⟩, fun b r l hb hd hl => ?_, fun b b' r r' l l' hb hb' h1 h2 hl hl' => h.inj b b' r r' l l' (by rw [← hF b l hl]; exact hb) (by rw [← hF b' l' hl']; exact hb') h1 h2 hl hl'⟩, he⟩
  · have h1 := h.dom b l hl
    have h2 := hF b l hl
    rw [List.getElem?_eq_getElem h1] at h2
    exact (List.getElem?_eq_some_iff.1 h2).1
  · rw [he]
    exact h.row b r l (by rw [← hF b l hl]; exact hb) hd hl
theorem PRes.of_rep {w : World} {X : Nat → Prop} {μ : Mu} {v : Value} {ds : List V} (h : Rep w X μ v (retS (ds.map .pure))) : PRes w X v ds := by
  rcases ds with _ | ⟨d, _ | ⟨d2, r⟩⟩
  · cases h with
    | tup vs _ hl hh => exact ⟨vs, rfl, by simpa using hl, fun i hi => by simp at hi⟩
  · exact h.pure_inv
  · cases h with
    | tup vs _ hl hh =>
      refine ⟨vs, rfl, by rw [hl]; simp, fun i hi => ?_⟩
      have := hh i (by simpa using hi)
      have e : (((d :: d2 :: r).map S.pure).getD i .dead) = .pure ((d :: d2 :: r).getD i default) := by
        rw [List.getD_eq_getElem?_getD, List.getD_eq_getElem?_getD, List.getElem?_map, List.getElem?_eq_getElem hi]; rfl
      have h3 : Rep w X μ (vs.getD i undef) (((d :: d2 :: r).map S.pure).getD i .dead) := this
      rw [e] at h3
      exact h3.pure_inv
/-- a call that reads rows, and gives flat data -/
theorem CallR.read {P : Program} {f : Nat} {args : List S} {H : Heap} {rs : List V} (hfl : ∀ r ∈ rs, r.flat = true) (h : ∀ HF : Heap, (∀ (b : Nat) (r : Row), H[b]? = some r → HF[b]? = some r) → CallA P f args (freeze HF) fun s _ => s = retS (rs.map .pure)) : CallR P f args H rs := by
  refine ⟨(h H fun _ _ h => h).1, fun HF hF w μ G cargs hrep hG hs ha => ?_⟩
  obtain ⟨hr, he⟩ := hrep.swap hG
  refine ((h HF hF).2 w μ cargs hr.freeze hs fun i hi => (ha i hi).keeps (fun _ _ _ => rfl) (fun k hk => .inl (by rw [← he]; exact excl_freeze hk)) (fun _ _ h => h)).mono ?_
  rintro e w' ⟨v, s, H', μ', rfl, rfl, st⟩
  have h2 : Fr (fun _ => False) w w' := ⟨st.fr.os, st.fr.tape, st.fr.output, st.fr.size, fun k hk _ => st.fr.keep k hk owned_freeze⟩
  have h1 : PRes w' (excl μ G) v rs := (PRes.of_rep st.val).flat hfl
  exact ⟨v, rfl, hrep.kept h2, h1.rep, fun _ _ h => h, rfl, ⟨h2.os, h2.tape, h2.output, h2.size, fun k hk _ => h2.keep k hk id⟩, fun _ h => .inl h⟩
/-- A CALL OF A FUNCTION OF DATA. -/
theorem callA_q {P : Program} {f : Nat} {args : List S} {H : Heap} {K : S → Heap → Prop} (lv : Bool) (vs rs : List V) (hv : toVs lv H args = some vs) (hf : FnQ P f vs rs) (hl : lv = true → (∀ r ∈ rs, r.flat = true) ∨ FnF P f vs rs) (hK : K (retS (rs.map .pure)) H) : CallA P f args H K :=
  ⟨hf.1, fun _ μ _ hrep hcl ha => (callQ_sound hrep (fun _ _ _ => rfl) hv hf hl hcl ha).mono fun _ _ ⟨v, h1, h2⟩ => ⟨v, _, H, μ, h1, hK, h2⟩⟩
theorem callQ_q {P : Program} {f : Nat} {args : List S} {H : Heap} {K : S → Prop} (lv : Bool) (vs rs : List V) (hv : toVs lv H args = some vs) (hf : FnQ P f vs rs) (hl : lv = true → (∀ r ∈ rs, r.flat = true) ∨ FnF P f vs rs) (hK : K (retS (rs.map .pure))) : CallQ P f args H K :=
  ⟨rs, .data lv vs rs hv hf hl, hK⟩
theorem fnQ_of_code {P : Program} (hm : P.follows .mixedOrders = true) {f : Nat} {fn : Func} {ac : AC} {rs : List RS}
    (hf : P.funcs[f]? = some fn) (hname : (fn.name == "runtime.NumGoroutine") = false) (hc : (fn.body.bind fun c => cCode P fn.ntmps RCs c) = some ac) (hres : resC P fn.results.toList = some rs) {vs ds : List V} (hn : vs.length ≤ fn.ntmps)
    (h : aWp P 0 (RQs P) ac (PostR 0 rs (Gives ds)) (argEnv 0 (vs.map .pure)) []) : FnQ P f vs ds :=
  fnQ_of_call (callA_of_code hm hf hname hc hres (by simpa using hn) h)
end Go.Vm
