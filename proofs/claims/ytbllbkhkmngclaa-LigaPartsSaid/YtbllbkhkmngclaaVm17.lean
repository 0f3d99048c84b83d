/-
  The abstract machine, part 17: the operations of a region that draws its order, one by one.
-/
import Derived.Test.YtbllbkhkmngclaaVm16
namespace Go.Vm
open Go Go.RowKit

/-- What an operation ahead of the region's tail yields, and the row that it makes, under the name 'nb'. -/
inductive QV (P : Program) (env : Env) (H : Heap) (nb : Nat) : AOp → S → Option Row → Prop where
  | fn (op : AOp) (s : S) (h : aFun env H op = some s) : QV P env H nb op s none
  | box (x : O) (h : (x.ev env).okv = true) : QV P env H nb (.box x) (.ptr nb 0 0) (some ⟨[x.ev env], (x.ev env).cells.length, .live⟩)
  | bslice (n : Nat) (ps : List O) (h : ∀ o ∈ ps, (o.ev env).okv = true ∧ (o.ev env).cells.length = n) : QV P env H nb (.bslice n ps) (.rsl nb 0 ps.length) (some ⟨ps.map (·.ev env), n, .live⟩)
  | mksl (size bytes : Nat) (z : S) (x y : O) (k k' : IntKind) (n c : Int) (he : x.ev env = .pure (.int k n)) (he' : y.ev env = .pure (.int k' c)) (h : 0 ≤ n ∧ n ≤ c ∧ bytes * c.toNat ≤ 281474976710656 ∧ c.toNat ≤ maxLen) : QV P env H nb (.mksl size bytes z x y) (.rsl nb 0 n.toNat) (some ⟨List.replicate c.toNat z, size, .live⟩)
  | call (f : Nat) (args : List O) (rs : List V) (h : CallR P f (args.map (·.ev env)) H rs) : QV P env H nb (.call f args) (retS (rs.map .pure)) none
  | callv (fv : O) (args : List O) (f : Nat) (a c : List V) (rs : List V) (he : fv.ev env = .pure (.func (.func f) a c)) (h : CallR P f (a.map .pure ++ args.map (·.ev env) ++ c.map .pure) H rs) : QV P env H nb (.callv fv args) (retS (rs.map .pure)) none
  | calls (fv : O) (args : List O) (f : Nat) (a c : List S) (rs : List V) (he : fv.ev env = .func (.func f) a c) (h : CallR P f (a ++ args.map (·.ev env) ++ c) H rs) : QV P env H nb (.callv fv args) (retS (rs.map .pure)) none

theorem aQop_inv {P : Program} {op : AOp} {K : S → Heap → Prop} {env : Env} {H : Heap} (h : aQop P op K env H (CallQ P)) : ∃ s row, QV P env H H.length op s row ∧ K s (H ++ row.toList) := by
  have pure' : ∀ {s : S}, aFun env H op = some s → K s H → ∃ s row, QV P env H H.length op s row ∧ K s (H ++ row.toList) := fun hs hk => ⟨_, none, .fn _ _ hs, by simpa using hk⟩
  cases op <;> simp only [aQop] at h
  case pick c x y =>
    split at h
    · rename_i t he
      cases t
      · exact pure' (s := y.ev env) (by simp [aFun, he]) (h.2 rfl)
      · exact pure' (s := x.ev env) (by simp [aFun, he]) (h.1 rfl)
    · exact h.elim
  case box x =>
    simp only [aVal] at h
    exact ⟨_, some _, .box x h.1, by simpa using h.2⟩
  case bslice n ps =>
    simp only [aVal] at h
    exact ⟨_, some _, .bslice n ps h.1, by simpa using h.2⟩
  case mksl size bytes z x y =>
    simp only [aVal] at h
    split at h
    · rename_i k n k' c he he'
      exact ⟨_, some _, .mksl size bytes z x y k k' n c he he' h.1, by simpa using h.2⟩
    · exact h.elim
  case call f args =>
    obtain ⟨rs, h1, h4⟩ := h
    exact ⟨_, none, .call f args rs h1, by simpa using h4⟩
  case callv fv args =>
    split at h
    · rename_i f a c he
      obtain ⟨rs, h1, h4⟩ := h
      exact ⟨_, none, .callv fv args f a c rs he h1, by simpa using h4⟩
    · rename_i f a c he
      obtain ⟨rs, h1, h4⟩ := h
      exact ⟨_, none, .calls fv args f a c rs he h1, by simpa using h4⟩
    · exact h.elim
  all_goals
    split at h
    · rename_i s hs; exact pure' hs h
    · exact h.elim

theorem QV.congr {P : Program} {e e' : Env} {H H' : Heap} {nb : Nat} (hH : ∀ (b : Nat) (r : Row), H[b]? = some r → H'[b]? = some r) {op : AOp} (h : ∀ x ∈ op.os, x.ev e = x.ev e') {s : S} {row : Option Row} (hq : QV P e H nb op s row) : QV P e' H' nb op s row := by
  cases hq with
  | fn _ _ hs => exact .fn _ _ (aFun_congr hH op h hs)
  | box x hx =>
    have := h x (by simp [AOp.os])
    rw [this] at hx ⊢
    exact .box x hx
  | bslice n ps hx =>
    have hm : ps.map (·.ev e) = ps.map (·.ev e') := List.map_congr_left fun x hx => h x (by simpa [AOp.os] using hx)
    rw [hm]
    exact .bslice n ps fun o ho => by rw [← h o (by simpa [AOp.os] using ho)]; exact hx o ho
  | mksl size bytes z x y k k' n c he he' hx =>
    exact .mksl size bytes z x y k k' n c (by rw [← h x (by simp [AOp.os])]; exact he) (by rw [← h y (by simp [AOp.os])]; exact he') hx
  | call f args rs h1 =>
    have hm : args.map (·.ev e) = args.map (·.ev e') := List.map_congr_left fun x hx => h x (by simpa [AOp.os] using hx)
    rw [hm] at h1
    exact .call f args rs (h1.mono hH)
  | callv fv args f a c rs he h1 =>
    have hm : args.map (·.ev e) = args.map (·.ev e') := List.map_congr_left fun x hx => h x (by simp [AOp.os, hx])
    rw [hm] at h1
    exact .callv fv args f a c rs (by rw [← h fv (by simp [AOp.os])]; exact he) (h1.mono hH)
  | calls fv args f a c rs he h1 =>
    have hm : args.map (·.ev e) = args.map (·.ev e') := List.map_congr_left fun x hx => h x (by simp [AOp.os, hx])
    rw [hm] at h1
    exact .calls fv args f a c rs (by rw [← h fv (by simp [AOp.os])]; exact he) (h1.mono hH)

section
variable {P : Program} {w : World} {μ : Mu} {H HF H1 : Heap} {env : Env} {nb : Nat}

/-- what has become of the rows: none, or one more under its name -/
def RowStep (μ : Mu) (H H1 : Heap) (nb : Nat) : Option Row → Prop
  | none => H1 = H
  | some r => μ nb = none ∧ H1[nb]? = some r ∧ H.length ≤ H1.length ∧ ∀ (b : Nat) (r : Row), b ≠ nb → H1[b]? = some r → r.st ≠ .dead → H[b]? = some r

theorem qv_sound (hrep : HRep w μ H) (hF : ∀ (b : Nat) (l : Loc), μ b = some l → HF[b]? = H[b]?) {a : Act} (hρ : Evs w (excl μ H) μ a.eval env) {o : Oper} {op : AOp} (hc : cOp P o = some op) {s : S} {row : Option Row} (hq : QV P env HF nb op s row)
    (hrow : RowStep μ H H1 nb row) {Q : Exit → Act → World → Prop} :
    o.wp P a w (fun a' w' => ∃ v μ', a' = a.put o.dst v ∧ Step w μ H w' μ' H1 v s ∧ ∀ b, (row.isSome = true → b ≠ nb) → μ' b = μ b) Q := by
  have val : ∀ {v : Value} {w' : World} {μ' : Mu}, (execOp a.eval o).run P w = .ok (.value v) w' → Step w μ H w' μ' H1 v s → (∀ b, (row.isSome = true → b ≠ nb) → μ' b = μ b) →
      o.wp P a w (fun a' w' => ∃ v μ', a' = a.put o.dst v ∧ Step w μ H w' μ' H1 v s ∧ ∀ b, (row.isSome = true → b ≠ nb) → μ' b = μ b) Q := by
    intro v w' μ' h1 h2 h3
    unfold Oper.wp
    rw [h1]
    exact ⟨v, μ', rfl, h2, h3⟩
  have callCase : ∀ {f : Nat} {cargs : Array Value} {args : List S} {rs : List V}, row = none → (∀ fn : Func, P.funcs[f]? = some fn → (fn.name == "runtime.NumGoroutine") = false → fn.body.isNone = false → (execOp a.eval o).run P w = .ok (.enter f cargs) w) →
      PW w (excl μ H) μ cargs args → CallR P f args HF rs → s = retS (rs.map .pure) →
      o.wp P a w (fun a' w' => ∃ v μ', a' = a.put o.dst v ∧ Step w μ H w' μ' H1 v s ∧ ∀ b, (row.isSome = true → b ≠ nb) → μ' b = μ b) Q := by
    intro f cargs args rs hn hr hp hf hs
    subst hn
    obtain rfl : H1 = H := hrow
    obtain ⟨fn, g1, g2, g3⟩ := hf.1
    unfold Oper.wp
    rw [hr fn g1 g2 g3]
    refine (hf.2 HF (fun _ _ h => h) w μ H1 cargs hrep hF hp.1 hp.2).mono fun e w' he => ?_
    obtain ⟨v, rfl, h1⟩ := he
    exact ⟨v, μ, rfl, hs ▸ h1, fun _ _ => rfl⟩
  cases hq with
  | fn _ _ h =>
    obtain rfl : H1 = H := hrow
    obtain ⟨v, h1, h2⟩ := fun_sound (P := P) hrep hF hρ hc h
    exact val h1 (Step.same hrep h2) (fun _ _ => rfl)
  | box x hx =>
    obtain ⟨r1, r2, r3, r4⟩ := hrow
    cases hop : o.op <;> simp only [cOp, hop] at hc <;> try (cases hc; done)
    case alloc t =>
      split at hc
      · rename_i i hi
        split at hc
        · rename_i z hz
          cases hv : cV z with
          | none => simp [hv] at hc
          | some s0 =>
            simp [hv] at hc
            subst hc
            simp only [O.ev] at hx r2
            obtain ⟨v, w', μ', h1, h2, h3⟩ := box_soundN (P := P) (elem := t) hrep (cV_sound hv) hx r1 r2 r3 r4
            have : (execOp a.eval o).run P w = .ok (.value v) w' := by
              simp only [Instr.box] at h1
              simp only [execOp, hop, Instr.alloc, Sem.run_bind, zeroValue, typeInfo, run_program, Result.andThen_ok, hi, Sem.run_pure, hz]
              rw [show (do pure (Value.pointer (some (← newVar t z))) : Sem Value) = (do let x ← newVar t z; pure (Value.pointer (some x))) from rfl] at h1
              simp only [Sem.run_bind, Sem.run_pure] at h1 ⊢
              rw [h1]; rfl
            exact val this h2 (fun b hb => h3 b (hb rfl))
        · cases hc
      · cases hc
    case box t x' =>
      cases hx' : cO x' with
      | none => simp [hx'] at hc
      | some y =>
        simp [hx'] at hc
        subst hc
        obtain ⟨v, w', μ', h1, h2, h3⟩ := box_soundN (P := P) (elem := t) hrep (hρ x' y hx') hx r1 r2 r3 r4
        exact val (v := v) (w' := w') (by simp [execOp, hop, h1]) h2 (fun b hb => h3 b (hb rfl))
    all_goals (exfalso; repeat' split at hc)
    all_goals first
      | (cases hc; done)
      | (obtain ⟨y, hy, hyy⟩ := Option.map_eq_some_iff.1 hc; cases hyy; done)
  | bslice n ps hx =>
    obtain ⟨r1, r2, r3, r4⟩ := hrow
    cases hop : o.op <;> simp only [cOp, hop] at hc <;> try (cases hc; done)
    case buildSlice t len parts =>
      split at hc
      · rename_i e ht
        split at hc
        · rename_i i hi
          split at hc
          · rename_i z os hz hos
            split at hc
            · rename_i hcnd
              obtain ⟨hidx, hbig, hpos⟩ := hcnd
              cases hc
              obtain ⟨l1, q1⟩ := cOs_sound hρ hos
              have hlen : len = ps.length := by
                have := congrArg List.length hidx
                simp at this
                simp at l1
                omega
              have hss : (ps.map (·.ev env)).length = ps.length := by simp
              obtain ⟨v, w', μ', h1, h2, h3⟩ := bslice_soundN (P := P) hrep ht hi hz hpos (vs := (parts.toList.map (·.2)).map a.eval) (ss := ps.map (·.ev env)) (by simp at l1 ⊢; exact l1) (by rw [hss, ← hlen]; exact hbig)
                (fun s hs => by obtain ⟨o', ho', rfl⟩ := List.mem_map.1 hs; exact hx o' ho') (fun k hk => q1 k (by simpa using hk)) r1 r2 r3 r4
              rw [hss, ← hlen] at h1
              have hparts : (((parts.toList.map (·.2)).map a.eval).zipIdx.map fun p => (p.2, p.1)).toArray = parts.map fun (i, x) => (i, a.eval x) := by
                apply Array.ext'
                simp only [List.map_map, Array.toList_map]
                apply List.ext_getElem?
                intro k
                simp only [List.getElem?_map, List.getElem?_zipIdx]
                have hk := congrArg (fun l : List Nat => l[k]?) hidx
                simp only [List.getElem?_map] at hk
                cases hp : parts.toList[k]? with
                | none => simp
                | some p =>
                  rw [hp] at hk
                  simp only [Option.map_some] at hk
                  have hkl : k < len := by
                    have := (List.getElem?_eq_some_iff.1 hp).1
                    have h9 := congrArg List.length hidx
                    simp at h9 this
                    omega
                  rw [List.getElem?_range hkl] at hk
                  simp only [Option.some.injEq] at hk
                  simp [hk]
              rw [hparts] at h1
              refine val (v := v) (w' := w') (by simp [execOp, hop, h1]) ?_ (fun b hb => h3 b (hb rfl))
              rw [hss] at h2
              exact h2
            · cases hc
          · cases hc
        · cases hc
      · cases hc
    all_goals (exfalso; repeat' split at hc)
    all_goals first
      | (cases hc; done)
      | (obtain ⟨y, hy, hyy⟩ := Option.map_eq_some_iff.1 hc; cases hyy; done)
  | mksl size bytes z x y kl kc n cc he he' hx =>
    obtain ⟨r1, r2, r3, r4⟩ := hrow
    cases hop : o.op <;> simp only [cOp, hop] at hc <;> try (cases hc; done)
    case makeSlice t l c =>
      split at hc
      · rename_i e ht
        split at hc
        · rename_i i x' y' hi hx' hy'
          split at hc
          · rename_i z' hz
            split at hc
            · rename_i s0 hs0
              split at hc
              · rename_i hcnd
                obtain ⟨c2, c3, c4⟩ := hcnd
                cases hc
                obtain ⟨g0, g3, g1, g2⟩ := hx
                have e1 := int_at hρ hx' he
                have e2 := int_at hρ hy' he'
                obtain ⟨v, w', μ', h1, h2, h3⟩ := mksl_soundN (P := P) hrep ht hi hz c4 c2 c3 (cV_sound hs0) (kl := kl) (kc := kc) g0 g3 g1 g2 r1 r2 r3 r4
                exact val (v := v) (w' := w') (by simp [execOp, hop, e1, e2, h1]) h2 (fun b hb => h3 b (hb rfl))
              · cases hc
            · cases hc
          · cases hc
        · cases hc
      · cases hc
    all_goals (exfalso; repeat' split at hc)
    all_goals first
      | (cases hc; done)
      | (obtain ⟨y, hy, hyy⟩ := Option.map_eq_some_iff.1 hc; cases hyy; done)
  | call f args rs h1 =>
    cases hop : o.op <;> simp only [cOp, hop] at hc <;> try (cases hc; done)
    case call c =>
      split at hc
      case h_5 f' hcal =>
        obtain ⟨q, hq, e⟩ := Option.map_eq_some_iff.1 hc
        cases e
        refine callCase (cargs := c.args.map a.eval) rfl (fun fn g1 g2 g3 => ?_) (cOs_pw hρ hq) h1 rfl
        have := callFunc_run (P := P) (w := w) (args := c.args.map a.eval) g1 g2 g3
        simp [execOp, hop, resolve, hcal, Deferred.ofValue, Act.eval, invoke] at this ⊢
        exact this
      all_goals (exfalso; repeat' split at hc)
      all_goals first
        | (cases hc; done)
        | (obtain ⟨y, hy, hyy⟩ := Option.map_eq_some_iff.1 hc; cases hyy; done)
    all_goals (exfalso; repeat' split at hc)
    all_goals first
      | (cases hc; done)
      | (obtain ⟨y, hy, hyy⟩ := Option.map_eq_some_iff.1 hc; cases hyy; done)
  | callv fv args f A C rs he h1 =>
    cases hop : o.op <;> simp only [cOp, hop] at hc <;> try (cases hc; done)
    case call c =>
      split at hc
      case h_6 x hx0 hcal =>
        split at hc
        · rename_i x' q hx hq
          cases hc
          have hxv := hρ x fv hx
          rw [he] at hxv
          generalize hv : a.eval x = v at hxv
          cases hxv.pure_inv with
          | func _ fA fC _ _ l1 l2 q1 q2 =>
            refine callCase (cargs := fA ++ c.args.map a.eval ++ fC) rfl (fun fn g1 g2 g3 => ?_) (PW.append (PW.append (PW.pures l1 q1) (cOs_pw hρ hq)) (PW.pures l2 q2)) h1 rfl
            have := callFunc_run (P := P) (w := w) (args := fA ++ c.args.map a.eval ++ fC) g1 g2 g3
            simp only [execOp, hop, resolve, hcal, Deferred.ofValue, hv, Sem.run_bind, Sem.run_pure, Result.andThen_ok, invoke]
            exact this
        · cases hc
      all_goals (exfalso; repeat' split at hc)
      all_goals first
        | (cases hc; done)
        | (obtain ⟨y, hy, hyy⟩ := Option.map_eq_some_iff.1 hc; cases hyy; done)
    all_goals (exfalso; repeat' split at hc)
    all_goals first
      | (cases hc; done)
      | (obtain ⟨y, hy, hyy⟩ := Option.map_eq_some_iff.1 hc; cases hyy; done)
  | calls fv args f A C rs he h1 =>
    cases hop : o.op <;> simp only [cOp, hop] at hc <;> try (cases hc; done)
    case call c =>
      split at hc
      case h_6 x hx0 hcal =>
        split at hc
        · rename_i x' q hx hq
          cases hc
          have hxv := hρ x fv hx
          rw [he] at hxv
          generalize hv : a.eval x = v at hxv
          cases hxv with
          | func _ fA fC _ _ l1 l2 q1 q2 =>
            refine callCase (cargs := fA ++ c.args.map a.eval ++ fC) rfl (fun fn g1 g2 g3 => ?_) (PW.append (PW.append ⟨l1, q1⟩ (cOs_pw hρ hq)) ⟨l2, q2⟩) h1 rfl
            have := callFunc_run (P := P) (w := w) (args := fA ++ c.args.map a.eval ++ fC) g1 g2 g3
            simp only [execOp, hop, resolve, hcal, Deferred.ofValue, hv, Sem.run_bind, Sem.run_pure, Result.andThen_ok, invoke]
            exact this
        · cases hc
      all_goals (exfalso; repeat' split at hc)
      all_goals first
        | (cases hc; done)
        | (obtain ⟨y, hy, hyy⟩ := Option.map_eq_some_iff.1 hc; cases hyy; done)
    all_goals (exfalso; repeat' split at hc)
    all_goals first
      | (cases hc; done)
      | (obtain ⟨y, hy, hyy⟩ := Option.map_eq_some_iff.1 hc; cases hyy; done)
end
end Go.Vm
