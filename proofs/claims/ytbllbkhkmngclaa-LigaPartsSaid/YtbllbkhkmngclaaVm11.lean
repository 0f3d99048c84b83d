/-
  The abstract machine, part 11: all operations.
-/
import Derived.Test.YtbllbkhkmngclaaVm10
namespace Go.Vm
open Go Go.RowKit

theorem toList2 {α : Type} {a : Array α} {x y : α} (h : a.toList = [x, y]) : a = #[x, y] := by
  apply Array.ext'; simpa using h
theorem toList1 {α : Type} {a : Array α} {x : α} (h : a.toList = [x]) : a = #[x] := by
  apply Array.ext'; simpa using h

section
variable {P : Program} {w : World} {μ : Mu} {H HF : Heap} {ρ : Operand → Value} {env : Env}

/-- the operations that only compute or read -/
theorem fun_sound (hrep : HRep w μ H) (hF : ∀ (b : Nat) (l : Loc), μ b = some l → HF[b]? = H[b]?) (hρ : Evs w (excl μ H) μ ρ env) {o : Oper} {op : AOp} (hc : cOp P o = some op) {s : S} (h : aFun env HF op = some s) :
    ∃ v, (execOp ρ o).run P w = .ok (.value v) w ∧ Rep w (excl μ H) μ v s := by
  have one : ∀ {x : Operand} {f : O → AOp}, (cO x).map f = some op → ∃ y, cO x = some y ∧ op = f y := by
    intro x f hx
    cases hy : cO x with
    | none => simp [hy] at hx
    | some y => simp [hy] at hx; exact ⟨y, rfl, hx.symm⟩
  cases hop : o.op <;> simp only [cOp, hop] at hc <;> try (cases hc; done)
  case move x =>
    obtain ⟨y, hy, rfl⟩ := one hc
    simp only [aFun, Option.some.injEq] at h
    subst h
    exact ⟨_, by simp [execOp, hop], hρ x y hy⟩
  case assign x =>
    obtain ⟨y, hy, rfl⟩ := one hc
    simp only [aFun, Option.some.injEq] at h
    subst h
    exact ⟨_, by simp [execOp, hop], hρ x y hy⟩
  case pick c a b =>
    split at hc
    · rename_i c' a' b' h1 h2 h3
      cases hc
      have hcv := hρ c c' h1
      simp only [aFun] at h
      split at h
      · rename_i t he
        rw [he] at hcv
        have e1 := hcv.bool_inv
        cases t
        · simp at h; subst h
          exact ⟨ρ b, by simp [execOp, hop, e1, asBool], hρ b b' h3⟩
        · simp at h; subst h
          exact ⟨ρ a, by simp [execOp, hop, e1, asBool], hρ a a' h2⟩
      · cases h
    · cases hc
  case alloc t =>
    split at hc
    · split at hc
      · rename_i i hi z hz
        cases hv : cV z with
        | none => simp [hv] at hc
        | some s0 => simp [hv] at hc; subst hc; simp [aFun] at h
      · cases hc
    · cases hc
  case box t x =>
    obtain ⟨y, hy, rfl⟩ := one hc
    simp [aFun] at h
  case build t parts =>
    split at hc
    · rename_i fs i ht hi
      split at hc
      · rename_i z hz
        split at hc
        · rename_i zs ps hzs hps
          split at hc
          · rename_i hall
            cases hc
            simp only [aFun] at h
            split at h
            · rename_i cs hfill
              simp only [Option.some.injEq] at h
              subst h
              obtain ⟨v, h1, h2⟩ := build_sound (P := P) ht hi hz (List.all_eq_true.1 hall) (cVs_cells hzs) (cParts_sound hρ hps) hfill
              refine ⟨v, ?_, h2⟩
              have : parts.map (fun p => (p.1, ρ p.2)) = (parts.toList.map fun p => (p.1, ρ p.2)).toArray := by apply Array.ext'; simp
              rw [← this] at h1
              simp [execOp, hop, h1]
            · cases h
          · cases hc
        · cases hc
      · cases hc
    · rename_i len e i ht hi
      split at hc
      · rename_i z ie hz hie
        split at hc
        · rename_i zs ps hzs hps
          cases hc
          simp only [aFun] at h
          split at h
          · rename_i cs hfill
            simp only [Option.some.injEq] at h
            subst h
            obtain ⟨v, h1, h2⟩ := build_soundA (P := P) ht hi hz hie (cVs_cells hzs) (cPartsA_sound hρ hps) hfill
            refine ⟨v, ?_, h2⟩
            have : parts.map (fun p => (p.1, ρ p.2)) = (parts.toList.map fun p => (p.1, ρ p.2)).toArray := by apply Array.ext'; simp
            rw [← this] at h1
            simp [execOp, hop, h1]
          · cases h
        · cases hc
      · cases hc
    · cases hc
  case makeSlice t l c =>
    split at hc
    · split at hc
      · split at hc
        · split at hc
          · split at hc
            · cases hc; simp [aFun] at h
            · cases hc
          · cases hc
        · cases hc
      · cases hc
    · cases hc
  case buildSlice t len parts =>
    split at hc
    · split at hc
      · split at hc
        · split at hc
          · cases hc; simp [aFun] at h
          · cases hc
        · cases hc
      · cases hc
    · cases hc
  case load t a =>
    split at hc
    · rename_i g n a' h1 h2 h3
      cases hc
      have ha := hρ a a' h3
      have h' : aFun env HF (.load g n a') = some s := h
      have key : aFun env H (.load g n a') = some s := by
        simp only [aFun] at h ⊢
        split at h
        · rename_i b i off he
          rw [he] at ha
          obtain ⟨l, hl, _, _⟩ := ha.ptr_inv
          split at h
          · rename_i r hrow
            rw [rowAt_of hF hl hrow]
            exact h
          · cases h
        · exact h
        · cases h
      obtain ⟨v, h4, h5⟩ := load_sound (P := P) hrep h1 h2 ha key
      exact ⟨v, by simp [execOp, hop, h4], h5⟩
    · cases hc
  case store t a v =>
    split at hc
    · cases hc; simp [aFun] at h
    · cases hc
  case nilCheck x =>
    obtain ⟨y, hy, rfl⟩ := one hc
    have hx := hρ x y hy
    simp only [aFun] at h
    split at h
    · rename_i b i off he
      rw [he] at hx
      simp only [Option.some.injEq] at h
      subst h
      obtain ⟨l, hl, hv, e⟩ := hx.ptr_inv
      exact ⟨ρ x, by simp [execOp, hop, e], hx⟩
    · rename_i d off he
      rw [he] at hx
      simp only [Option.some.injEq] at h
      subst h
      generalize hv : ρ x = v at hx
      have hx' := hx
      cases hx with
      | pptr blk o' => exact ⟨.pointer (some ⟨blk, o' + off, none⟩), by simp [execOp, hop, hv], hx'⟩
    · rename_i f a c he
      rw [he] at hx
      simp only [Option.some.injEq] at h
      subst h
      generalize hv : ρ x = v at hx
      have hx' := hx
      cases hx.pure_inv with
      | func => exact ⟨_, by simp [execOp, hop, hv], hx'⟩
    · rename_i f a c he
      rw [he] at hx
      simp only [Option.some.injEq] at h
      subst h
      generalize hv : ρ x = v at hx
      have hx' := hx
      cases hx with
      | func => exact ⟨_, by simp [execOp, hop, hv], hx'⟩
    · cases h
  case binOp bop t x y yt =>
    split at hc
    · rename_i a b i h1 h2 h3
      cases hc
      obtain ⟨v, h4, h5⟩ := bin_sound (P := P) (t := t) (hρ x a h1) (hρ y b h2) h x y
      exact ⟨v, by simp only [execOp, hop]; simp only [Sem.run_bind] at h4 ⊢; rw [h4]; rfl, h5⟩
    · rename_i a b h1 h2 h3
      split at hc
      · cases hc
        obtain ⟨v, h4, h5⟩ := eqb_sound (P := P) (neg := false) h3 (hρ x a h1) (hρ y b h2) h x y
        simp only [Bool.false_eq_true, if_false] at h4
        exact ⟨v, by simp only [execOp, hop]; simp only [Sem.run_bind] at h4 ⊢; rw [h4]; rfl, h5⟩
      · cases hc
        obtain ⟨v, h4, h5⟩ := eqb_sound (P := P) (neg := true) h3 (hρ x a h1) (hρ y b h2) h x y
        simp only [if_true] at h4
        exact ⟨v, by simp only [execOp, hop]; simp only [Sem.run_bind] at h4 ⊢; rw [h4]; rfl, h5⟩
      · cases hc
    · rename_i a b fs h1 h2 h3
      have hag : aggT P t = some true := by simp [aggT, h3]
      have key : ∀ (neg : Bool) (ks : List CK), kindsOf P 100 t = some ks → P.eqGuardType P.depth t = false → aFun env HF (.eqv neg ks a b) = some s → bop = (if neg = true then .neq else .eql) →
          ∃ v, (execOp ρ o).run P w = .ok (.value v) w ∧ Rep w (excl μ H) μ v s := by
        intro neg ks hk hg hs hb
        simp only [aFun] at hs
        split at hs
        · rename_i va vb hxe hye
          split at hs
          · rename_i hcell
            have hx := hρ x a h1
            have hy := hρ y b h2
            rw [hxe] at hx
            rw [hye] at hy
            cases hr : V.eqs ks va.cells vb.cells with
            | none => simp [hr] at hs
            | some r =>
              simp [hr] at hs
              subst hs
              have mk : ∀ {v : Value} {d : V}, PRep w (excl μ H) v d → d.isCell = false → ∃ cs, v = .agg cs ∧ VC w (excl μ H) true v d.cells := by
                intro v d hp hd
                cases hp with
                | agg cs vs hl hc' hh => exact ⟨cs, rfl, ⟨hl, hh, hc', (fun h => by cases h), (fun _ => ⟨_, rfl⟩)⟩⟩
                | _ => simp [V.isCell] at hd
              obtain ⟨xs, ex, vx⟩ := mk hx.pure_inv hcell.1
              obtain ⟨ys, ey, vy⟩ := mk hy.pure_inv hcell.2
              have heq := eqv_sound (P := P) 100 9900 t ks hk true _ _ _ _ _ hag vx vy hr
              rw [ex, ey] at heq
              have hgd : (eqGuard bop t x y (.agg xs) (.agg ys)).run P w = .ok () w := run_eqGuard_agg w bop t x y xs ys hg
              cases neg
              · simp only [Bool.false_eq_true, if_false] at hb
                subst hb
                refine ⟨.bool r, ?_, .mkBool⟩
                simp only [execOp, hop, ex, ey, Sem.run_bind, hgd, Result.andThen_ok, run_eql_struct, heq, Sem.run_pure]
              · simp only [if_true] at hb
                subst hb
                refine ⟨.bool !r, ?_, .mkBool⟩
                simp only [execOp, hop, ex, ey, Sem.run_bind, hgd, Result.andThen_ok, run_neq_struct, heq, Sem.run_pure]
          · cases hs
        · cases hs
      split at hc
      · rename_i ks hk
        split at hc
        · cases hc
          exact key false ks hk (by assumption) h rfl
        · cases hc
      · rename_i ks hk
        split at hc
        · cases hc
          exact key true ks hk (by assumption) h rfl
        · cases hc
      · cases hc
    · rename_i a b alen aelem h1 h2 h3
      have hag : aggT P t = some true := by simp [aggT, h3]
      have key : ∀ (neg : Bool) (ks : List CK), kindsOf P 100 t = some ks → P.eqGuardType P.depth t = false → aFun env HF (.eqv neg ks a b) = some s → bop = (if neg = true then .neq else .eql) →
          ∃ v, (execOp ρ o).run P w = .ok (.value v) w ∧ Rep w (excl μ H) μ v s := by
        intro neg ks hk hg hs hb
        simp only [aFun] at hs
        split at hs
        · rename_i va vb hxe hye
          split at hs
          · rename_i hcell
            have hx := hρ x a h1
            have hy := hρ y b h2
            rw [hxe] at hx
            rw [hye] at hy
            cases hr : V.eqs ks va.cells vb.cells with
            | none => simp [hr] at hs
            | some r =>
              simp [hr] at hs
              subst hs
              have mk : ∀ {v : Value} {d : V}, PRep w (excl μ H) v d → d.isCell = false → ∃ cs, v = .agg cs ∧ VC w (excl μ H) true v d.cells := by
                intro v d hp hd
                cases hp with
                | agg cs vs hl hc' hh => exact ⟨cs, rfl, ⟨hl, hh, hc', (fun h => by cases h), (fun _ => ⟨_, rfl⟩)⟩⟩
                | _ => simp [V.isCell] at hd
              obtain ⟨xs, ex, vx⟩ := mk hx.pure_inv hcell.1
              obtain ⟨ys, ey, vy⟩ := mk hy.pure_inv hcell.2
              have heq := eqv_sound (P := P) 100 9900 t ks hk true _ _ _ _ _ hag vx vy hr
              rw [ex, ey] at heq
              have hgd : (eqGuard bop t x y (.agg xs) (.agg ys)).run P w = .ok () w := run_eqGuard_agg w bop t x y xs ys hg
              cases neg
              · simp only [Bool.false_eq_true, if_false] at hb
                subst hb
                refine ⟨.bool r, ?_, .mkBool⟩
                simp only [execOp, hop, ex, ey, Sem.run_bind, hgd, Result.andThen_ok, run_eql_struct, heq, Sem.run_pure]
              · simp only [if_true] at hb
                subst hb
                refine ⟨.bool !r, ?_, .mkBool⟩
                simp only [execOp, hop, ex, ey, Sem.run_bind, hgd, Result.andThen_ok, run_neq_struct, heq, Sem.run_pure]
          · cases hs
        · cases hs
      split at hc
      · rename_i ks hk
        split at hc
        · cases hc
          exact key false ks hk (by assumption) h rfl
        · cases hc
      · rename_i ks hk
        split at hc
        · cases hc
          exact key true ks hk (by assumption) h rfl
        · cases hc
      · cases hc
    · split at hc
      · cases hc; simp [aFun] at h
      · cases hc; simp [aFun] at h
      · cases hc
    · cases hc
  case unOp uop t x =>
    obtain ⟨y, hy, rfl⟩ := one hc
    obtain ⟨v, h4, h5⟩ := un_sound (P := P) (w := w) (hρ x y hy) h
    exact ⟨v, by simp [execOp, hop, h4], h5⟩
  case convert src dst x =>
    split at hc
    · rename_i d k hs hd
      obtain ⟨y, hy, rfl⟩ := one hc
      obtain ⟨v, h4, h5⟩ := conv_sound (P := P) (w := w) hs hd (hρ x y hy) h
      exact ⟨v, by simp [execOp, hop, h4], h5⟩
    · cases hc
  case makeFunc fn f c =>
    split at hc
    · rename_i fs cs h1 h2
      cases hc
      simp only [aFun, Option.some.injEq] at h
      subst h
      obtain ⟨l1, r1⟩ := cOs_sound hρ h1
      obtain ⟨l2, r2⟩ := cOs_sound hρ h2
      refine ⟨.func fn (f.map ρ) (c.map ρ), by simp [execOp, hop, Instr.makeFunc], .func fn _ _ _ _ (by simpa using l1) (by simpa using l2) (fun i hi => ?_) (fun i hi => ?_)⟩
      · have := r1 i (by simpa using hi)
        rw [← Array.toList_map, Array.getD_toList'] at this
        exact this
      · have := r2 i (by simpa using hi)
        rw [← Array.toList_map, Array.getD_toList'] at this
        exact this
    · cases hc
  case slice t x lo hi mx =>
    split at hc
    · rename_i e ht
      split at hc
      · rename_i n x' lo' hi' mx' hn hx hlo hhi hmx
        split at hc
        · cases hc
        · rename_i hcnd
          cases hc
          obtain ⟨b1, s1⟩ := cOo_sound hρ hlo
          obtain ⟨b2, s2⟩ := cOo_sound hρ hhi
          obtain ⟨b3, s3⟩ := cOo_sound hρ hmx
          obtain ⟨v, h4, h5⟩ := slc_sound (P := P) hrep hF ht hn (hρ x x' hx) b1 b2 b3 (fun hm => by
            rw [Option.isSome_map] at hm ⊢
            rw [s2]
            rw [s3] at hm
            cases h0 : hi'.isSome with
            | true => rfl
            | false => exact absurd ⟨hm, h0⟩ hcnd) h
          exact ⟨v, by simp [execOp, hop, h4], h5⟩
      · cases hc
    · cases hc
  case field t x k =>
    split at hc
    · rename_i fs ht
      split at hc
      · rename_i f hf
        split at hc
        · rename_i g n x' hg hn hx
          cases hc
          obtain ⟨v, h4, h5⟩ := fld_sound (P := P) ht hf hn hg (hρ x x' hx) h
          exact ⟨v, by simp [execOp, hop, h4], h5⟩
        · cases hc
      · cases hc
    · cases hc
  case fieldAddr t x k =>
    split at hc
    · rename_i fs ht
      split at hc
      · rename_i f hf
        split at hc
        · rename_i n x' hn hx
          split at hc
          · cases hc
          · rename_i h0
            cases hc
            obtain ⟨v, h4, h5⟩ := fldA_sound (P := P) ht hf hn h0 (hρ x x' hx) h
            exact ⟨v, by simp [execOp, hop, h4], h5⟩
        · cases hc
      · cases hc
    · cases hc
  case indexAddr t x i =>
    split at hc
    · rename_i e ht
      split at hc
      · rename_i n x' i' hn hx hi
        cases hc
        obtain ⟨v, h4, h5⟩ := idxA_sound (P := P) hrep hF ht hn (hρ x x' hx) (hρ i i' hi) h
        exact ⟨v, by simp [execOp, hop, h4], h5⟩
      · cases hc
    · rename_i len e ht
      split at hc
      · rename_i n x' i' hn hx hi
        cases hc
        obtain ⟨v, h4, h5⟩ := idxAA_sound (P := P) ht hn (hρ x x' hx) (hρ i i' hi) h
        exact ⟨v, by simp [execOp, hop, h4], h5⟩
      · cases hc
    · cases hc
  case index t x i =>
    split at hc
    · rename_i len e ht
      split at hc
      · rename_i g n x' i' hg hn hx hi
        cases hc
        obtain ⟨v, h4, h5⟩ := idxV_sound (P := P) ht hn hg (hρ x x' hx) (hρ i i' hi) h
        exact ⟨v, by simp [execOp, hop, h4], h5⟩
      · cases hc
    · rename_i ht
      split at hc
      · rename_i x' i' hx hi
        cases hc
        obtain ⟨v, h4, h5⟩ := idxS_sound (P := P) ht (hρ x x' hx) (hρ i i' hi) h
        exact ⟨v, by simp [execOp, hop, h4], h5⟩
      · cases hc
    · cases hc
  case extract x i =>
    obtain ⟨y, hy, rfl⟩ := one hc
    obtain ⟨v, h4, h5⟩ := ext_sound (P := P) (w := w) (hρ x y hy) h
    exact ⟨v, by simp [execOp, hop, h4], h5⟩
  case call c =>
    split at hc
    · rename_i hcal
      split at hc
      · rename_i x t hargs htys
        have e1 := toList1 hargs
        have e2 := toList1 htys
        split at hc
        · rename_i e ht
          obtain ⟨y, hy, rfl⟩ := one hc
          obtain ⟨n, h4, h5, h6⟩ := len_sound (P := P) (w := w) (ty := o.type) ht (hρ x y hy) h
          refine ⟨_, by simp [execOp, hop, resolve, hcal, e1, e2, invoke, builtin, h4]; rfl, ?_⟩
          rw [h5]
          exact .mkInt (wf_len h6)
        · rename_i ht
          obtain ⟨y, hy, rfl⟩ := one hc
          obtain ⟨n, h4, h5, h6⟩ := lenS_sound (P := P) (w := w) (ty := o.type) ht (hρ x y hy) h
          refine ⟨_, by simp [execOp, hop, resolve, hcal, e1, e2, invoke, builtin, h4]; rfl, ?_⟩
          rw [h5]
          exact .mkInt (wf_len h6)
        · cases hc
      · cases hc
    · rename_i hcal
      split at hc
      · rename_i x y hargs
        have e1 := toList2 hargs
        split at hc
        · rename_i x' y' hx hy
          cases hc
          obtain ⟨v, h4, h5⟩ := mx_sound (P := P) (w := w) (ats := c.argTypes) (ty := o.type) (hρ x x' hx) (hρ y y' hy) h
          exact ⟨v, by simp [execOp, hop, resolve, hcal, e1, invoke, builtin, h4], h5⟩
        · cases hc
      · cases hc
    · rename_i hcal
      split at hc
      · rename_i x y hargs
        have e1 := toList2 hargs
        split at hc
        · rename_i x' y' hx hy
          cases hc
          obtain ⟨v, h4, h5⟩ := mn_sound (P := P) (w := w) (ats := c.argTypes) (ty := o.type) (hρ x x' hx) (hρ y y' hy) h
          exact ⟨v, by simp [execOp, hop, resolve, hcal, e1, invoke, builtin, h4], h5⟩
        · cases hc
      · cases hc
    · split at hc
      · split at hc
        · split at hc
          · split at hc
            · split at hc
              · cases hc; simp [aFun] at h
              · cases hc
            · cases hc
          · cases hc
        · cases hc
      · cases hc
    · cases hq : cOs c.args.toList with
      | none => simp [hq] at hc
      | some q => simp [hq] at hc; subst hc; simp [aFun] at h
    · split at hc
      · cases hc; simp [aFun] at h
      · cases hc
    · cases hc
end
end Go.Vm
