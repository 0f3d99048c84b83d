/-
  The abstract machine, part 12: operations with memory and calls; regions in the order of the text; code; the contract of a function.
-/
import Derived.Test.YtbllbkhkmngclaaVm11
namespace Go.Vm
open Go Go.RowKit

def isMem : AOp → Bool
  | .len _ | .lenS _ | .slnil _ _ | .box _ | .bslice _ _ | .mksl _ _ _ _ _ | .store _ _ _ | .app _ _ _ _ | .call _ _ | .callv _ _ => true
  | _ => false

theorem aVal_pure {P : Program} {env : Env} {H : Heap} {K : S → Heap → Prop} (op : AOp) (hm : isMem op = false) (h : aVal P env H op K) : ∃ s, aFun env H op = some s ∧ K s H := by
  cases op <;> simp [isMem] at hm <;> simp only [aVal] at h
  case pick c x y =>
    split at h
    · rename_i t he
      cases t
      · exact ⟨y.ev env, by simp [aFun, he], h.2 rfl⟩
      · exact ⟨x.ev env, by simp [aFun, he], h.1 rfl⟩
    · exact h.elim
  all_goals
    split at h
    · rename_i s hs; exact ⟨s, hs, h⟩
    · exact h.elim

section
variable {P : Program} {w : World} {μ : Mu} {H : Heap} {env : Env}

/-- a row of values, pointwise -/
def PW (w : World) (X : Nat → Prop) (μ : Mu) (cs : Array Value) (ss : List S) : Prop := cs.size = ss.length ∧ ∀ i, i < ss.length → Rep w X μ (cs.getD i undef) (ss.getD i .dead)
theorem PW.append {X : Nat → Prop} {A B : Array Value} {l m : List S} (h : PW w X μ A l) (k : PW w X μ B m) : PW w X μ (A ++ B) (l ++ m) := by
  refine ⟨by simp [h.1, k.1], fun i hi => ?_⟩
  rw [List.getD_append_cases]
  have e : (A ++ B).getD i undef = if i < l.length then A.getD i undef else B.getD (i - l.length) undef := by
    simp only [Array.getD_eq_getD_getElem?, Array.getElem?_append, h.1]
    split <;> rfl
  rw [e]
  split
  · exact h.2 i (by assumption)
  · exact k.2 _ (by simp at hi; omega)
theorem PW.pures {X : Nat → Prop} {A : Array Value} {l : List V} (h : A.size = l.length) (k : ∀ i, i < l.length → PRep w X (A.getD i undef) (l.getD i default)) : PW w X μ A (l.map .pure) := by
  refine ⟨by simp [h], fun i hi => ?_⟩
  have hi' : i < l.length := by simpa using hi
  have := k i hi'
  rw [List.getD_eq_getElem?_getD, List.getElem?_eq_getElem hi'] at this
  rw [List.getD_eq_getElem?_getD, List.getElem?_map, List.getElem?_eq_getElem hi']
  exact .pure _ _ this
theorem cOs_pw {X : Nat → Prop} {ρ : Operand → Value} (hρ : Evs w X μ ρ env) {l : Array Operand} {os : List O} (h : cOs l.toList = some os) : PW w X μ (l.map ρ) (os.map (·.ev env)) := by
  obtain ⟨l1, r1⟩ := cOs_sound hρ h
  refine ⟨by simp at l1 ⊢; exact l1, fun i hi => ?_⟩
  have := r1 i (by simpa using hi)
  rw [← Array.toList_map, Array.getD_toList'] at this
  exact this

/-- what an operation leaves -/
def After (a : Act) (o : Oper) (w : World) (μ : Mu) (H : Heap) (K : S → Heap → Prop) (a' : Act) (w' : World) : Prop :=
  ∃ v s H' μ', a' = a.put o.dst v ∧ K s H' ∧ Step w μ H w' μ' H' v s

theorem wp_value {o : Oper} {a : Act} {K : S → Heap → Prop} {Q : Exit → Act → World → Prop} {v : Value} {w' : World} (hr : (execOp a.eval o).run P w = .ok (.value v) w') (h : ∃ s H' μ', K s H' ∧ Step w μ H w' μ' H' v s) :
    o.wp P a w (After a o w μ H K) Q := by
  unfold Oper.wp
  rw [hr]
  obtain ⟨s, H', μ', h1, h2⟩ := h
  exact ⟨v, s, H', μ', rfl, h1, h2⟩
theorem wp_skipped {o : Oper} {a : Act} {K : S → Heap → Prop} {Q : Exit → Act → World → Prop} {w' : World} (hr : (execOp a.eval o).run P w = .ok .skip w') (h : ∃ s H' μ', K s H' ∧ Step w μ H w' μ' H' undef s) :
    o.wp P a w (After a o w μ H K) Q := by
  unfold Oper.wp
  rw [hr]
  obtain ⟨s, H', μ', h1, h2⟩ := h
  exact ⟨undef, s, H', μ', rfl, h1, h2⟩

theorem callFunc_run {f : Nat} {args : Array Value} {fn : Func} (h1 : P.funcs[f]? = some fn) (h2 : (fn.name == "runtime.NumGoroutine") = false) (h3 : fn.body.isNone = false) : (callFunc f args).run P w = .ok (.enter f args) w := by
  simp only [callFunc, Sem.run_bind, run_program, Result.andThen_ok, h1]
  simp only [h2, h3, Bool.false_eq_true, if_false]
  rfl

theorem wp_call {o : Oper} {a : Act} {K : S → Heap → Prop} {Q : Exit → Act → World → Prop} {f : Nat} {cargs : Array Value} {args : List S} (hrep : HRep w μ H)
    (hr : ∀ fn : Func, P.funcs[f]? = some fn → (fn.name == "runtime.NumGoroutine") = false → fn.body.isNone = false → (execOp a.eval o).run P w = .ok (.enter f cargs) w)
    (hl : cargs.size = args.length) (ha : ∀ i, i < args.length → Rep w (excl μ H) μ (cargs.getD i undef) (args.getD i .dead)) (h : CallA P f args H K) : o.wp P a w (After a o w μ H K) Q := by
  obtain ⟨⟨fn, h1, h2, h3⟩, hc⟩ := h
  unfold Oper.wp
  rw [hr fn h1 h2 h3]
  refine (hc w μ cargs hrep hl ha).mono fun e w' he => ?_
  obtain ⟨v, s, H', μ', rfl, h4, h5⟩ := he
  exact ⟨v, s, H', μ', rfl, h4, h5⟩

theorem op_sound (hrep : HRep w μ H) {a : Act} (hρ : Evs w (excl μ H) μ a.eval env) {o : Oper} {op : AOp} (hc : cOp P o = some op) {K : S → Heap → Prop} (h : aVal P env H op K) {Q : Exit → Act → World → Prop} :
    o.wp P a w (After a o w μ H K) Q := by
  have pureCase : ∀ {s : S}, aFun env H op = some s → K s H → o.wp P a w (After a o w μ H K) Q := by
    intro s hs hk
    obtain ⟨v, h1, h2⟩ := fun_sound (P := P) hrep (fun _ _ _ => rfl) hρ hc hs
    exact wp_value h1 ⟨s, H, μ, hk, Step.same hrep h2⟩
  by_cases hm : isMem op = false
  · obtain ⟨s, hs, hk⟩ := aVal_pure op hm h
    exact pureCase hs hk
  · have hc0 := hc
    cases hop : o.op <;> simp only [cOp, hop] at hc <;> try (cases hc; done)
    case alloc t =>
      split at hc
      · rename_i i hi
        split at hc
        · rename_i z hz
          cases hv : cV z with
          | none => simp [hv] at hc
          | some s0 =>
            simp [hv] at hc
            subst hc
            simp only [aVal, O.ev] at h
            obtain ⟨v, w', μ', h1, h2⟩ := box_sound (P := P) (elem := t) hrep (cV_sound hv) h.1
            have : (execOp a.eval o).run P w = .ok (.value v) w' := by
              simp only [Instr.box] at h1
              simp only [execOp, hop, Instr.alloc, Sem.run_bind, zeroValue, typeInfo, run_program, Result.andThen_ok, hi, Sem.run_pure, hz]
              rw [show (do pure (Value.pointer (some (← newVar t z))) : Sem Value) = (do let x ← newVar t z; pure (Value.pointer (some x))) from rfl] at h1
              simp only [Sem.run_bind, Sem.run_pure] at h1 ⊢
              rw [h1]; rfl
            exact wp_value this ⟨_, _, μ', h.2, h2⟩
        · cases hc
      · cases hc
    case box t x =>
      cases hx : cO x with
      | none => simp [hx] at hc
      | some y =>
        simp [hx] at hc
        subst hc
        simp only [aVal] at h
        obtain ⟨v, w', μ', h1, h2⟩ := box_sound (P := P) (elem := t) hrep (hρ x y hx) h.1
        exact wp_value (v := v) (w' := w') (by simp [execOp, hop, h1]) ⟨_, _, μ', h.2, h2⟩
    case buildSlice t len parts =>
      split at hc
      · rename_i e ht
        split at hc
        · rename_i i hi
          split at hc
          · rename_i z os hz hos
            split at hc
            · rename_i hcnd
              obtain ⟨hidx, hbig, hpos⟩ := hcnd
              cases hc
              simp only [aVal] at h
              obtain ⟨l1, r1⟩ := cOs_sound hρ hos
              have hlen : len = os.length := by
                have := congrArg List.length hidx
                simp at this
                simp at l1
                omega
              have hss : (os.map (·.ev env)).length = os.length := by simp
              obtain ⟨v, w', μ', h1, h2⟩ := bslice_sound (P := P) hrep ht hi hz hpos (vs := (parts.toList.map (·.2)).map a.eval) (ss := os.map (·.ev env)) (by simp at l1 ⊢; exact l1) (by rw [hss, ← hlen]; exact hbig)
                (fun s hs => by obtain ⟨o', ho', rfl⟩ := List.mem_map.1 hs; exact h.1 o' ho') (fun k hk => r1 k (by simpa using hk))
              rw [hss, ← hlen] at h1
              have hparts : (((parts.toList.map (·.2)).map a.eval).zipIdx.map fun p => (p.2, p.1)).toArray = parts.map fun (i, x) => (i, a.eval x) := by
                apply Array.ext'
                simp only [List.map_map, Array.toList_map]
                apply List.ext_getElem?
                intro k
                simp only [List.getElem?_map, List.getElem?_zipIdx]
                have hk := congrArg (fun l : List Nat => l[k]?) hidx
                simp only [List.getElem?_map] at hk
                cases hp : parts.toList[k]? with
                | none => simp
                | some p =>
                  rw [hp] at hk
                  simp only [Option.map_some] at hk
                  have hkl : k < len := by
                    have := (List.getElem?_eq_some_iff.1 hp).1
                    have h9 := congrArg List.length hidx
                    simp at h9 this
                    omega
                  rw [List.getElem?_range hkl] at hk
                  simp only [Option.some.injEq] at hk
                  simp [hk]
              rw [hparts] at h1
              refine wp_value (v := v) (w' := w') (by simp [execOp, hop, h1]) ⟨_, _, μ', ?_, h2⟩
              have := h.2
              rw [hss]
              exact this
            · cases hc
          · cases hc
        · cases hc
      · cases hc
    case makeSlice t l c =>
      split at hc
      · rename_i e ht
        split at hc
        · rename_i i x y hi hx hy
          split at hc
          · rename_i z hz
            split at hc
            · rename_i s0 hs0
              split at hc
              · rename_i hcnd
                obtain ⟨c2, c3, c4⟩ := hcnd
                cases hc
                simp only [aVal] at h
                split at h
                · rename_i kl n kc c' he he'
                  obtain ⟨⟨g0, g3, g1, g2⟩, hk⟩ := h
                  have e1 := int_at hρ hx he
                  have e2 := int_at hρ hy he'
                  obtain ⟨v, w', μ', h1, h2⟩ := mksl_sound (P := P) hrep ht hi hz c4 c2 c3 (cV_sound hs0) (kl := kl) (kc := kc) g0 g3 g1 g2
                  exact wp_value (v := v) (w' := w') (by simp [execOp, hop, e1, e2, h1]) ⟨_, _, μ', hk, h2⟩
                · exact h.elim
              · cases hc
            · cases hc
          · cases hc
        · cases hc
      · cases hc
    case binOp bop t x y yt =>
      split at hc
      · cases hc; exact absurd rfl hm
      · split at hc <;> first | (cases hc; exact absurd rfl hm) | cases hc
      · split at hc
        · split at hc
          · cases hc; exact absurd rfl hm
          · cases hc
        · split at hc
          · cases hc; exact absurd rfl hm
          · cases hc
        · cases hc
      · split at hc
        · split at hc
          · cases hc; exact absurd rfl hm
          · cases hc
        · split at hc
          · cases hc; exact absurd rfl hm
          · cases hc
        · cases hc
      · rename_i a0 b0 e h1 h2 h3
        have key : ∀ (neg : Bool) (l c : Nat), y = .const (.slice none l c) → aVal P env H (.slnil neg a0) K → bop = (if neg = true then .neq else .eql) → o.wp P a w (After a o w μ H K) Q := by
          intro neg l c hy hh hb
          subst hy
          simp only [aVal] at hh
          split at hh
          · rename_i n hn
            obtain ⟨b, g1, g2⟩ := slnil_sound (P := P) (w := w) neg h3 (hρ x a0 h1) hn l c x (.const (.slice none l c))
            refine wp_value (v := .bool b) (w' := w) ?_ ⟨_, H, μ, hh b g2, Step.same hrep .mkBool⟩
            subst hb
            simp only [execOp, hop]
            simp only [Sem.run_bind] at g1 ⊢
            show Result.andThen _ _ = _
            rw [show a.eval (.const (.slice none l c)) = .slice none l c from rfl, g1]
            rfl
          · exact hh.elim
        split at hc
        · cases hc
          exact key false _ _ rfl h rfl
        · cases hc
          exact key true _ _ rfl h rfl
        · cases hc
      · cases hc
    case store t ad v =>
      split at hc
      · rename_i n ad' v' hn ha hv
        cases hc
        simp only [aVal] at h
        split at h
        · rename_i b i off he
          split at h
          · rename_i r hb
            obtain ⟨hst, h⟩ := h
            split at h
            · rename_i e hei
              obtain ⟨h1, h2, h3, h4⟩ := h
              have hav := hρ ad ad' ha
              rw [he] at hav
              obtain ⟨w', μ', h5, h6⟩ := store_sound (P := P) hrep hn hav (hρ v v' hv) hb hst hei h1 h2 h3
              exact wp_skipped (w' := w') (by simp [execOp, hop, h5]) ⟨_, _, μ', h4, h6⟩
            · exact h.elim
          · exact h.elim
        · exact h.elim
      · cases hc
    case call c =>
      split at hc
      · -- len
        rename_i hcal
        split at hc
        · rename_i x t hargs htys
          split at hc
          · rename_i e ht
            cases hx : cO x with
            | none => simp [hx] at hc
            | some y =>
              simp [hx] at hc
              subst hc
              have hxv := hρ x y hx
              simp only [aVal] at h
              split at h
              · rename_i he; exact pureCase (s := .pure (.int .i64 0)) (by simp [aFun, he]) h
              · rename_i es he
                have hf : aFun env H (.len y) = some (.pure (.int .i64 es.length)) := by simp [aFun, he]
                obtain ⟨n, _, h5, h6⟩ := len_sound (P := P) (w := w) (ty := o.type) ht hxv hf
                have : (es.length : Int) = n := by simpa using h5
                exact pureCase hf (h (by omega))
              · rename_i b off n0 he
                have hf : aFun env H (.len y) = some (.pure (.int .i64 n0)) := by simp [aFun, he]
                obtain ⟨n, _, h5, h6⟩ := len_sound (P := P) (w := w) (ty := o.type) ht hxv hf
                have : (n0 : Int) = n := by simpa using h5
                exact pureCase hf (h (by omega))
              · exact h.elim
          · rename_i ht
            cases hx : cO x with
            | none => simp [hx] at hc
            | some y =>
              simp [hx] at hc
              subst hc
              have hxv := hρ x y hx
              simp only [aVal] at h
              split at h
              · rename_i es he
                have hf : aFun env H (.lenS y) = some (.pure (.int .i64 es.length)) := by simp [aFun, he]
                obtain ⟨n, _, h5, h6⟩ := lenS_sound (P := P) (w := w) (ty := o.type) ht hxv hf
                have : (es.length : Int) = n := by simpa using h5
                exact pureCase hf (h (by omega))
              · exact h.elim
          · cases hc
        · cases hc
      · split at hc
        · split at hc
          · cases hc; simp [isMem] at hm
          · cases hc
        · cases hc
      · split at hc
        · split at hc
          · cases hc; simp [isMem] at hm
          · cases hc
        · cases hc
      · -- append
        rename_i hcal
        split at hc
        · rename_i x y t u hargs htys
          have e1 := toList2 hargs
          have e2 := toList2 htys
          split at hc
          · rename_i e e' ht hu
            split at hc
            · rename_i i x' y' hi hx hy
              split at hc
              · rename_i z hz
                split at hc
                · rename_i hcnd
                  cases hc
                  have T : AppT P t u e i z := ⟨ht, .inl ⟨e', hu⟩, hi, hz, hcnd.1, hcnd.2⟩
                  simp only [aVal] at h
                  split at h
                  · exact h.elim
                  · rename_i ys hys
                    obtain ⟨hlens, h⟩ := h
                    obtain ⟨news, hsrc⟩ := src_sound (P := P) hrep hcnd.2 (hρ y y' hy) hys hlens
                    split at h
                    · rename_i he
                      obtain ⟨h1, h2, h3⟩ := h
                      have hxv := hρ x x' hx
                      rw [he] at hxv
                      obtain ⟨ad, hav, had⟩ := hxv.empty_inv
                      obtain ⟨v, w', μ', h4, h5⟩ := app_empty hrep (ty := o.type) T had hsrc h1 h2 rfl (fun _ _ h _ => h)
                      rw [← hav] at h4
                      exact wp_value (v := v) (w' := w') (by simp [execOp, hop, resolve, hcal, e1, e2, invoke, builtin, h4]) ⟨_, _, μ', h3, h5⟩
                    · rename_i b off len he
                      split at h
                      · rename_i r hb
                        obtain ⟨h1, h2, h3, h4, h5, h6⟩ := h
                        have hxv := hρ x x' hx
                        rw [he] at hxv
                        obtain ⟨v, w', μ', h7, h8⟩ := app_rsl hrep (ty := o.type) T hxv hb h1 h2 h3 hsrc h4 h5
                        exact wp_value (v := v) (w' := w') (by simp [execOp, hop, resolve, hcal, e1, e2, invoke, builtin, h7]) ⟨_, _, μ', h6, h8⟩
                      · exact h.elim
                    · exact h.elim
                · cases hc
              · cases hc
            · cases hc
          · cases hc
        · cases hc
      · -- a function by its number
        rename_i f hcal
        cases hq : cOs c.args.toList with
        | none => simp [hq] at hc
        | some q =>
          simp [hq] at hc
          subst hc
          simp only [aVal] at h
          obtain ⟨l1, r1⟩ := cOs_sound hρ hq
          refine wp_call (cargs := c.args.map a.eval) hrep (fun fn g1 g2 g3 => ?_) (by simp at l1 ⊢; exact l1) (fun i hi => ?_) h
          · have := callFunc_run (P := P) (w := w) (args := c.args.map a.eval) g1 g2 g3
            simp [execOp, hop, resolve, hcal, Deferred.ofValue, Act.eval, invoke] at this ⊢
            exact this
          · have := r1 i (by simpa using hi)
            rw [← Array.toList_map, Array.getD_toList'] at this
            exact this
      · -- a function value
        rename_i x hx0 hcal
        split at hc
        · rename_i x' q hx hq
          cases hc
          simp only [aVal] at h
          have hq' := cOs_pw hρ hq
          have hxv := hρ x x' hx
          have hrun : ∀ (f : Nat) (A C : Array Value), a.eval x = .func (.func f) A C → ∀ fn : Func, P.funcs[f]? = some fn → (fn.name == "runtime.NumGoroutine") = false → fn.body.isNone = false →
              (execOp a.eval o).run P w = .ok (.enter f (A ++ c.args.map a.eval ++ C)) w := by
            intro f A C hv fn g1 g2 g3
            have := callFunc_run (P := P) (w := w) (args := A ++ c.args.map a.eval ++ C) g1 g2 g3
            simp only [execOp, hop, resolve, hcal, Deferred.ofValue, hv, Sem.run_bind, Sem.run_pure, Result.andThen_ok, invoke]
            exact this
          split at h
          · rename_i f A C he
            rw [he] at hxv
            generalize hv : a.eval x = v at hxv
            cases hxv.pure_inv with
            | func _ fA fC _ _ l1 l2 r1 r2 =>
              have p1 : PW w (excl μ H) μ fA (A.map .pure) := PW.pures l1 r1
              have p2 : PW w (excl μ H) μ fC (C.map .pure) := PW.pures l2 r2
              have p3 := (p1.append hq').append p2
              exact wp_call hrep (hrun f fA fC hv) p3.1 p3.2 h
          · rename_i f A C he
            rw [he] at hxv
            generalize hv : a.eval x = v at hxv
            cases hxv with
            | func _ fA fC _ _ l1 l2 r1 r2 =>
              have p3 : PW w (excl μ H) μ (fA ++ c.args.map a.eval ++ fC) (A ++ q.map (·.ev env) ++ C) := PW.append (PW.append ⟨l1, r1⟩ hq') ⟨l2, r2⟩
              exact wp_call hrep (hrun f fA fC hv) p3.1 p3.2 h
          · exact h.elim
        · cases hc
      · cases hc
    all_goals first
      | (obtain ⟨y, hy, rfl⟩ := Option.map_eq_some_iff.1 hc; exact absurd rfl hm)
      | (exfalso; apply hm; clear hm pureCase h hc0
         repeat' split at hc
         all_goals first
           | (cases hc; done)
           | (cases hc; rfl)
           | (obtain ⟨y, hy, rfl⟩ := Option.map_eq_some_iff.1 hc; rfl))
end
end Go.Vm
