/-
  The abstract machine, part 29: contracts with rows: weaker results, rows that are frozen ahead of a call, calls within a larger memory.
-/
import Derived.Test.YtbllbkhkmngclaaVm28
namespace Go.Vm
open Go Go.RowKit

theorem CallA.weak {P : Program} {f : Nat} {args : List S} {H : Heap} {K K2 : S → Heap → Prop} (h : CallA P f args H K)
    (hK : ∀ s H', K s H' → ∃ (l : List Nat) (s2 : S) (H2 : Heap), l.Nodup ∧ l.take H.length = List.range H.length ∧ (s2.inb l.length = true ∧ s2.ren (pick l) = s) ∧ keepH H' l.length (pick l) l H2 ∧ K2 s2 H2) : CallA P f args H K2 := by
  refine ⟨h.1, fun w μ cargs hrep hl ha => (h.2 w μ cargs hrep hl ha).mono ?_⟩
  rintro e w' ⟨v, s, H', μ', rfl, hk, st⟩
  obtain ⟨l, s2, H2, h1, h2, h3, h4, h5⟩ := hK _ _ hk
  obtain ⟨g1, g2⟩ := keepH_get h4
  have hw : Weak H.length [(0, s)] H' [(0, s2)] H2 (pick l) := by
    refine ⟨fun i j hi hj => pick_inj h1 (by omega) (by omega), fun i hi => ?_, fun p hp => ?_, fun b r' hb => ?_⟩
    · have hlen := congrArg List.length h2
      simp only [List.length_take, List.length_range] at hlen
      refine ⟨by omega, ?_⟩
      have := congrArg (fun q : List Nat => q[i]?) h2
      simp only [List.getElem?_take, hi, if_true, List.getElem?_range hi] at this
      simp [pick, List.getD_eq_getElem?_getD, this]
    · simp only [List.mem_singleton] at hp
      subst hp
      rw [← g1]
      exact ⟨h3.1, by rw [h3.2]; rfl⟩
    · have := g2 b r' hb
      rw [← g1]
      cases hg : H'[pick l b]? with
      | none => rw [hg] at this; exact .inl this
      | some r =>
        rw [hg] at this
        exact this.imp id fun h => ⟨r, rfl, h⟩
  obtain ⟨k1, k2⟩ := st.heap.weak hw
  refine ⟨v, s2, H2, μ'.re (pick l) H2.length, rfl, h5, k1, ?_, fun b loc hb => ?_, st.xo, st.fr, fun k hk' => st.own k (k2 k hk')⟩
  · exact st.val.unren (N := H2.length) (fun k hk' => hk'.imp (k2 k) id) (fun b loc hb hloc => by simp [Mu.re, hb, hloc]) _ h3.2.symm (by rw [← g1]; exact h3.1)
  · have hlt := hrep.dom b loc hb
    obtain ⟨h6, h7⟩ := hw.fix b hlt
    simp [Mu.re, h6, h7, st.ext b loc hb]

/-- a result without room gets a row of its own name -/
theorem CallA.virt {P : Program} {f : Nat} {args : List S} {H : Heap} {K : S → Heap → Prop} (size : Nat) (hs : 0 < size) (h : CallA P f args H fun s H' => K s H' ∨ (s = .empty ∧ K (.rsl H'.length 0 0) (H' ++ [⟨[], size, .live⟩]))) : CallA P f args H K := by
  refine ⟨h.1, fun w μ cargs hrep hl ha => (h.2 w μ cargs hrep hl ha).mono ?_⟩
  rintro e w' ⟨v, s, H', μ', rfl, hk | ⟨rfl, hk⟩, st⟩
  · exact ⟨v, s, H', μ', rfl, hk, st⟩
  · obtain ⟨ad, hv, had⟩ := st.val.empty_inv
    obtain ⟨μ2, st2⟩ := virt_step st.heap hs (H1 := H') rfl (fun _ _ h _ => h) had
    refine ⟨v, _, _, μ2, rfl, hk, st2.heap, hv ▸ st2.val, fun b l hb => st2.ext b l (st.ext b l hb), st2.xo.trans st.xo, ?_, fun k hk' => ?_⟩
    · refine ⟨st2.fr.os.trans st.fr.os, st2.fr.tape.trans st.fr.tape, st2.fr.output.trans st.fr.output, Nat.le_trans st.fr.size st2.fr.size, fun k hk' hx => ?_⟩
      rw [st2.fr.keep k (Nat.lt_of_lt_of_le hk' st.fr.size) (fun ho => by rcases st.own k ho with h1 | h1; exact hx h1; omega)]
      exact st.fr.keep k hk' hx
    · rcases st2.own k hk' with h1 | h1
      · exact st.own k h1
      · exact .inr (Nat.le_trans st.fr.size h1)

/-! rows that are written no more -/
theorem CallA.frz {P : Program} {f : Nat} {args : List S} {H : Heap} {K : S → Heap → Prop} (b : Nat) (h : CallA P f args (frz1 b H) K) : CallA P f args H K := by
  refine ⟨h.1, fun w μ cargs hrep hl ha => (h.2 w μ cargs hrep.frz1 hl (fun i hi => (ha i hi).keeps (fun _ _ _ => rfl) (fun k hk => .inl (hk.imp owned_frz1 id)) (fun _ _ h => h))).mono ?_⟩
  rintro e w' ⟨v, s, H', μ', rfl, hk, st⟩
  exact ⟨v, s, H', μ', rfl, hk, st.heap, st.val, st.ext, st.xo, ⟨st.fr.os, st.fr.tape, st.fr.output, st.fr.size, fun k hk hx => st.fr.keep k hk fun ho => hx (owned_frz1 ho)⟩, fun k hk => (st.own k hk).imp owned_frz1 id⟩
theorem onC_frz {P : Program} {f : Nat} {args : List S} {H : Heap} {K : S → Heap → Prop} (b : Nat) (h : @onC P f args (frz1 b H) ⟨K⟩) : @onC P f args H ⟨K⟩ := CallA.frz b h
theorem frz1_nil {b : Nat} : frz1 b [] = [] := rfl
theorem frz1_zero {r : Row} {H : Heap} : frz1 0 (r :: H) = (if r.st = .live then ⟨r.es, r.size, .frozen⟩ else r) :: H := by
  simp only [frz1, List.mapIdx_cons, true_and, Nat.add_eq_zero_iff, Nat.one_ne_zero, and_false, false_and, if_false]
  congr 1
  apply List.ext_getElem?
  intro i
  simp
theorem frz1_succ {b : Nat} {r : Row} {H : Heap} : frz1 (b + 1) (r :: H) = r :: frz1 b H := by
  simp only [frz1, List.mapIdx_cons, Nat.add_right_cancel_iff]
  simp

/-! codes behind which one forgets: 'aWp' stands at their head -/
section
variable {P : Program} {kp : Nat} {env : Env} {H : Heap} {Q : APost}
theorem aWp_seq {A B : AC} (h : aWx P kp A (thenA (aWp P kp (RQs P) B Q) Q) env H) : aWp P kp (RQs P) (.seq A B) Q env H :=
  aWp_mono A (thenA_mono (fun _ _ h => .here h) (fun _ _ _ h => h)) (aWx_sound A h)
theorem aWp_seq_frz (b : Nat) {A B : AC} (h : aWx P kp A (thenA (fun e h => aWp P kp (RQs P) B Q e (frz1 b h)) Q) env H) : aWp P kp (RQs P) (.seq A B) Q env H :=
  aWp_mono A (thenA_mono (fun _ _ h => .frz b (.here h)) (fun _ _ _ h => h)) (aWx_sound A h)
/-- a struct of one field, that holds an empty slice: it gets a row of its own -/
theorem aWp_virtc (b size : Nat) (m : Nat) (st : RowSt) (hs : 0 < size) {A : AC} (hb : H[b]? = some ⟨[.agg [.empty]], m, st⟩) (h : aWp P kp (RQs P) A Q env (H.set b ⟨[.agg [.rsl H.length 0 0]], m, st⟩ ++ [⟨[], size, .live⟩])) : Up kp (aWp P kp (RQs P) A Q) env H :=
  .virtc b 0 size _ (.agg [.empty]) (.agg [.rsl H.length 0 0]) hs hb rfl rfl (fun j => by
    cases j with
    | zero => exact .inr ⟨rfl, rfl⟩
    | succ j => exact .inl rfl) (.here h)
theorem aWp_seq_up {A B : AC} (h : aWx P kp A (thenA (fun e h => Up kp (aWp P kp (RQs P) B Q) e h) Q) env H) : aWp P kp (RQs P) (.seq A B) Q env H :=
  aWp_mono A (thenA_mono (fun _ _ h => h) (fun _ _ _ h => h)) (aWx_sound A h)
theorem aWp_x {A : AC} (h : aWx P kp A Q env H) : aWp P kp (RQs P) A Q env H := aWx_sound A h
end
/-- the contract of a function of data, from its code, where one forgets on the way -/
theorem fnQ_of_p {P : Program} (hm : P.follows .mixedOrders = true) {f : Nat} {fn : Func} {ac : AC} {rs : List RS}
    (hf : P.funcs[f]? = some fn) (hname : (fn.name == "runtime.NumGoroutine") = false) (hc : (fn.body.bind fun c => cCode P fn.ntmps RCs c) = some ac) (hres : resC P fn.results.toList = some rs) {vs ds : List V} (hn : vs.length ≤ fn.ntmps)
    (h : aWp P 0 (RQs P) ac (PostX rs (Gives ds)) (argEnv 0 (vs.map .pure)) []) : FnQ P f vs ds :=
  fnQ_of_code hm hf hname hc hres hn (aWp_mono ac PostX.up h)

theorem appOk_map {α : Type} {f : α → V} {X : List α} {m size room off len bytes : Nat} (h1 : ∀ a, (f a).cells.length = size) (h2 : m = size) (h3 : off + len ≤ room) (h4 : (len + X.length) * bytes ≤ 140737488355328) (h5 : len + X.length ≤ maxLen) : appOk ((X.map f).map S.pure) .live m size room off len bytes :=
  ⟨fun e he => by
    obtain ⟨v, hv, rfl⟩ := List.mem_map.1 he
    obtain ⟨a, _, rfl⟩ := List.mem_map.1 hv
    simpa [S.cells] using h1 a, rfl, h2, h3, by simpa using h4, by simpa using h5⟩
theorem appOk0_map {α : Type} {f : α → V} {X : List α} {size bytes : Nat} (h1 : ∀ a, (f a).cells.length = size) (h4 : X.length * bytes ≤ 140737488355328) (h5 : X.length ≤ maxLen) : appOk0 ((X.map f).map S.pure) size bytes :=
  ⟨fun e he => by
    obtain ⟨v, hv, rfl⟩ := List.mem_map.1 he
    obtain ⟨a, _, rfl⟩ := List.mem_map.1 hv
    simpa [S.cells] using h1 a, by simpa using h4, by simpa using h5⟩
theorem row_at {α : Type} {f : α → V} {X : List α} {k : Nat} (h : k < X.length) : ((X.map f).map S.pure)[k]? = some (.pure (f X[k])) := by simp [List.getElem?_eq_getElem h]
theorem row_set {α : Type} {f : α → V} {X : List α} {k : Nat} {a : α} : ((X.map f).map S.pure).set k (.pure (f a)) = ((X.set k a).map f).map S.pure := by simp [List.map_set]

theorem gives_row' {α : Type} {f : α → V} {X : List α} {H : Heap} {b m n : Nat} {st : RowSt} (h : H[b]? = some ⟨(X.map f).map S.pure, m, st⟩) (hst : st ≠ .dead) (hn : n = X.length) : Gives [.sl (X.map f)] (.rsl b 0 n) H := by
  subst hn
  exact gives_row h hst

theorem toVs_of {lv : Bool} {H : Heap} {s : S} {v : V} {r : List S} {vs : List V} (h1 : toV lv H s = some v) (h2 : toVs lv H r = some vs) : toVs lv H (s :: r) = some (v :: vs) := by simp only [toVs, h1, h2]
theorem toV_row {lv : Bool} {H : Heap} {α : Type} {f : α → V} {X : List α} {b m : Nat} {st : RowSt} (h : H[b]? = some ⟨(X.map f).map S.pure, m, st⟩) (hst : st = .frozen ∨ (lv = true ∧ st = .live)) : toV lv H (.rsl b 0 X.length) = some (.sl (X.map f)) := by
  simp only [toV, toVo, toV0, h, List.drop_zero, take_map_pures, allPure_map, List.length_map, Nat.zero_add, Nat.le_refl, and_true, hst, if_true]

/-! parts of slices -/
def intO (d : Nat) : Option S → Option Int
  | none => some d
  | some (.pure (.int _ n)) => some n
  | _ => none
def slcE : Option Int → Option Int → Option Int → Option S
  | some l, some h, some m => if l = 0 ∧ h = 0 ∧ m = 0 then some .empty else none
  | _, _, _ => none
def slcP (size : Nat) (es : List V) (mx : Bool) : Option Int → Option Int → Option Int → Option S
  | some l, some h, some m => if 0 ≤ l ∧ l ≤ h ∧ h ≤ m ∧ m ≤ es.length ∧ (∀ e ∈ es, e.cells.length = size) then
      (if mx = true ∧ l = m then some .empty else some (.pure (.sl ((es.take h.toNat).drop l.toNat)))) else none
  | _, _, _ => none
def slcR (size b off len : Nat) (nomx : Bool) : Option Int → Option Int → Option Row → Option S
  | some l, some h, some r => if nomx = true ∧ r.size = size ∧ 0 ≤ l ∧ l ≤ h ∧ h ≤ len then some (.rsl b (off + l.toNat) (h - l).toNat) else none
  | _, _, _ => none
def slcS (H : Heap) (size : Nat) (s : S) (lo hi mx : Option S) : Option S := match s with
  | .empty => slcE (intO 0 lo) (intO 0 hi) (intO 0 mx)
  | .pure (.sl es) => slcP size es mx.isSome (intO 0 lo) (intO es.length hi) (intO es.length mx)
  | .rsl b off len => slcR size b off len mx.isNone (intO 0 lo) (intO len hi) (rowAt H b)
  | _ => none
theorem intO_opt {env : Env} {d : Nat} {o : Option O} : intO d (o.map (·.ev env)) = optInt env d o := by
  cases o with
  | none => rfl
  | some o =>
    simp only [Option.map_some, intO, optInt]
    cases o.ev env <;> try rfl
    rename_i v
    cases v <;> rfl
theorem aFun_slc {env : Env} {H : Heap} {n : Nat} {x : O} {lo hi mx : Option O} : aFun env H (.slc n x lo hi mx) = slcS H n (x.ev env) (lo.map (·.ev env)) (hi.map (·.ev env)) (mx.map (·.ev env)) := by
  simp only [aFun, slcS, intO_opt, Option.isSome_map, Option.isNone_map]
  cases x.ev env <;> rfl
theorem slcS_empty {H : Heap} {n : Nat} {lo hi mx : Option S} : slcS H n .empty lo hi mx = slcE (intO 0 lo) (intO 0 hi) (intO 0 mx) := rfl
theorem slcS_sl {H : Heap} {n : Nat} {es : List V} {lo hi mx : Option S} : slcS H n (.pure (.sl es)) lo hi mx = slcP n es mx.isSome (intO 0 lo) (intO es.length hi) (intO es.length mx) := rfl
theorem slcS_rsl {H : Heap} {n b off len : Nat} {lo hi mx : Option S} : slcS H n (.rsl b off len) lo hi mx = slcR n b off len mx.isNone (intO 0 lo) (intO len hi) (rowAt H b) := rfl
theorem intO_none {d : Nat} : intO d none = some (d : Int) := rfl
theorem intO_int {d : Nat} {k : IntKind} {n : Int} : intO d (some (.pure (.int k n))) = some n := rfl
theorem isSome_n {α : Type} : (none : Option α).isSome = false := rfl
theorem isSome_s {α : Type} {a : α} : (some a).isSome = true := rfl
theorem isNone_n {α : Type} : (none : Option α).isNone = true := rfl
theorem isNone_s {α : Type} {a : α} : (some a).isNone = false := rfl
/-- a part of data: from a place on, or between two -/
theorem slcP_map {α : Type} {f : α → V} {X : List α} {n : Nat} {l h : Int} (hn : ∀ a, (f a).cells.length = n) (h0 : 0 ≤ l) (h1 : l ≤ h) (h2 : h ≤ X.length) : slcP n (X.map f) false (some l) (some h) (some (X.length : Int)) = some (.pure (.sl (((X.take h.toNat).drop l.toNat).map f))) := by
  have hc : 0 ≤ l ∧ l ≤ h ∧ h ≤ (X.length : Int) ∧ (X.length : Int) ≤ ((X.map f).length : Int) ∧ (∀ e ∈ X.map f, e.cells.length = n) := by
    refine ⟨h0, h1, h2, by simp, fun e he => ?_⟩
    obtain ⟨a, _, rfl⟩ := List.mem_map.1 he
    exact hn a
  simp only [slcP, if_pos hc]
  simp [List.map_drop, List.map_take]
theorem slcP_from {α : Type} {f : α → V} {X : List α} {n : Nat} {l : Int} (hn : ∀ a, (f a).cells.length = n) (h0 : 0 ≤ l) (h1 : l ≤ X.length) : slcP n (X.map f) false (some l) (some (X.length : Int)) (some (X.length : Int)) = some (.pure (.sl ((X.drop l.toNat).map f))) := by
  rw [slcP_map hn h0 h1 (Int.le_refl _)]
  simp

/-! a call within a larger memory -/
theorem onC_fr {P : Program} {f : Nat} {args0 : List S} {H0 : Heap} {s0 : S} {H0' : Heap} (h : CallA P f args0 H0 fun s H' => s = s0 ∧ H' = H0') {H : Heap} {args : List S} {K : S → Heap → Prop} (l : List Nat) (hl : l.Nodup)
    (hH : sameH H l.length (pick l) l H0) (hargs : args = args0.map (S.ren (pick l))) (hin : args0.all (S.inb l.length) = true) (hle : l.length ≤ H0'.length)
    (hK : K (s0.ren (ext l H.length)) (emb l H H0')) : @onC P f args H ⟨K⟩ :=
  h.frame l hl hH hargs (fun a ha => List.all_eq_true.1 hin a ha) (by rintro _ _ ⟨rfl, rfl⟩; exact ⟨hle, hK⟩)
theorem onC_fr' {P : Program} {f : Nat} {args0 : List S} {H0 : Heap} {s0 : S} {α : Type} {HH : α → Heap} (h : CallA P f args0 H0 fun s H' => s = s0 ∧ ∃ a, H' = HH a) {H : Heap} {args : List S} {K : S → Heap → Prop} (l : List Nat) (hl : l.Nodup)
    (hH : sameH H l.length (pick l) l H0) (hargs : args = args0.map (S.ren (pick l))) (hin : args0.all (S.inb l.length) = true)
    (hK : ∀ a, l.length ≤ (HH a).length ∧ K (s0.ren (ext l H.length)) (emb l H (HH a))) : @onC P f args H ⟨K⟩ :=
  h.frame l hl hH hargs (fun a ha => List.all_eq_true.1 hin a ha) (by rintro _ _ ⟨rfl, a, rfl⟩; exact hK a)
theorem freeze_row {H : Heap} {k : Nat} {r : Row} (h : H[k]? = some r) : (freeze H)[k]? = some (if r.st = .live then { r with st := .frozen } else r) := by simp [freeze, h]
/-- a call that reads rows of one's own through a closure, in the middle of other work -/
theorem onQ_p {P : Program} {f : Nat} {args0 : List S} {H0 : Heap} {rs : List V} (h : CallA P f args0 H0 fun s H' => s = retS (rs.map .pure) ∧ H' = H0) {H : Heap} {args : List S} {K : S → Heap → Prop} (l : List Nat) (hl : l.Nodup)
    (hH : sameH (freeze H) l.length (pick l) l H0) (hb : ∀ k ∈ l, k < H.length) (hargs : args = args0.map (S.ren (pick l))) (hin : args0.all (S.inb l.length) = true) (hfl : ∀ r ∈ rs, r.flat = true)
    (hK : K (retS (rs.map .pure)) H) : @onQ P f args H ⟨K⟩ := by
  refine ⟨rs, .read hfl fun HF hF => ?_, hK⟩
  have hsame : ∀ {l0 : List Nat} {q : Heap}, (∀ k ∈ l0, k < H.length) → sameH (freeze H) l.length (pick l) l0 q → sameH (freeze HF) l.length (pick l) l0 q := by
    intro l0
    induction l0 with
    | nil => intro q _ h; cases q <;> exact h
    | cons k l0 ih =>
      intro q hb h
      cases q with
      | nil => exact h
      | cons r q =>
        have hk := hb k (by simp)
        have e1 := freeze_row (List.getElem?_eq_getElem hk)
        have e2 := freeze_row (hF k _ (List.getElem?_eq_getElem hk))
        have h' : sameR l.length (pick l) r (freeze H)[k]? ∧ sameH (freeze H) l.length (pick l) l0 q := h
        refine (show sameR l.length (pick l) r (freeze HF)[k]? ∧ sameH (freeze HF) l.length (pick l) l0 q from ⟨?_, ih (fun k h => hb k (by simp [h])) h'.2⟩)
        rw [e2, ← e1]
        exact h'.1
  refine h.frame l hl (hsame hb hH) hargs (fun a ha => List.all_eq_true.1 hin a ha) ?_
  rintro _ _ ⟨rfl, rfl⟩
  refine ⟨by have := (sameH_get hH).1; omega, ?_⟩
  have e : ∀ (ρ : Nat → Nat), (retS (rs.map S.pure)).ren ρ = retS (rs.map S.pure) := fun ρ => by
    rcases rs with _ | ⟨d, _ | ⟨d2, r⟩⟩
    · simp [retS, ren_tup]
    · rfl
    · simp [retS, ren_tup, ren_pure, Function.comp_def]
  exact e _
theorem ext_eq {l : List Nat} {N i : Nat} : ext l N i = if i < l.length then pick l i else N + (i - l.length) := rfl
theorem ext_nil {N i : Nat} : ext [] N i = N + i := by simp [ext]
theorem ext_zero {k N : Nat} {l : List Nat} : ext (k :: l) N 0 = k := rfl
theorem ext_succ {k N i : Nat} {l : List Nat} : ext (k :: l) N (i + 1) = ext l N i := by
  unfold ext
  simp only [List.length_cons, Nat.add_lt_add_iff_right, pick_succ]
  split
  · rfl
  · omega
theorem emb_eq {l : List Nat} {H H' : Heap} : emb l H H' = setAll (ext l H.length) H l H' ++ (H'.drop l.length).map (embRow (ext l H.length)) := rfl
theorem setAll_nil {ρ : Nat → Nat} {H H' : Heap} : setAll ρ H [] H' = H := by cases H' <;> rfl
theorem setAll_cons {ρ : Nat → Nat} {H : Heap} {k : Nat} {l : List Nat} {r : Row} {q : Heap} : setAll ρ H (k :: l) (r :: q) = (setAll ρ H l q).set k (embRow ρ r) := rfl
theorem embRow_eq {ρ : Nat → Nat} {es : List S} {m : Nat} {st : RowSt} : embRow ρ ⟨es, m, st⟩ = ⟨es.map (S.ren ρ), m, st⟩ := rfl
theorem givesF_tup {ds : List V} {ss : List S} {H : Heap} (h : toVs true H ss = some ds) (hl : ss.length ≠ 1) (hf : Freshs H ss ds) : GivesF ds (.tup ss) H := by
  obtain ⟨ss', h1, h2⟩ := gives_tup h hl
  refine ⟨ss, ?_, h, hf⟩
  rcases ss with _ | ⟨a, _ | ⟨b, r⟩⟩
  · rfl
  · simp at hl
  · rfl
theorem givesF_one {d : V} {s : S} {H : Heap} (h : toV true H s = some d) (hf : Fresh H s d) : GivesF [d] s H := ⟨[s], rfl, by simp [toVs, h], .cons hf .nil⟩
theorem fresh_row {α : Type} {f : α → V} {X : List α} {H : Heap} {b m n : Nat} (h : H[b]? = some ⟨(X.map f).map S.pure, m, .live⟩) (hf : ∀ a, (f a).flat = true) (hn : n = X.length) : Fresh H (.rsl b 0 n) (.sl (X.map f)) :=
  .rsl b n m _ h (fun e he => by obtain ⟨a, _, rfl⟩ := List.mem_map.1 he; exact hf a) (by simpa using hn)
/-! the slots reckoned out, where a code goes on -/
theorem envO {P : Program} {is : List AI} {K : Env → Heap → Prop} {env env' : Env} {H : Heap} (h : env = env') (g : aOps P is K env' H) : aOps P is K env H := h ▸ g
theorem envQ {P : Program} {is : List AI} {K : Env → Heap → Prop} {env env' : Env} {H : Heap} (h : env = env') (g : aQs P is K env' H) : aQs P is K env H := h ▸ g
end Go.Vm
