/-
  The abstract machine that the proofs of this seat walk on. No condition.
-/
import Derived.Test.YtcjmkpkhjhjepaaGreatVmA
import Derived.Scope
/-! The abstract machine, part 11: all operations. -/
namespace Go.Vm
open Go Go.RowKit
theorem toList2 {α : Type} {a : Array α} {x y : α} (h : a.toList = [x, y]) : a = #[x, y] := by
 apply Array.ext'; simpa using h
theorem toList1 {α : Type} {a : Array α} {x : α} (h : a.toList = [x]) : a = #[x] := by
 apply Array.ext'; simpa using h
section
variable {P : Program} {w : World} {μ : Mu} {H HF : Heap} {ρ : Operand → Value} {env : Env}
/-- the operations that only compute or read -/
theorem fun_sound (hrep : HRep w μ H) (hF : ∀ (b : Nat) (l : Loc), μ b = some l → HF[b]? = H[b]?) (hρ : Evs w (excl μ H) μ ρ env) {o : Oper} {op : AOp} (hc : cOp P o = some op) {s : S} (h : aFun env HF op = some s) :
  ∃ v, (execOp ρ o).run P w = .ok (.value v) w ∧ Rep w (excl μ H) μ v s := by
 have one : ∀ {x : Operand} {f : O → AOp}, (cO x).map f = some op → ∃ y, cO x = some y ∧ op = f y := by
  intro x f hx
  cases hy : cO x with
  | none => simp [hy] at hx
  | some y => simp [hy] at hx; exact ⟨y, rfl, hx.symm⟩
 cases hop : o.op <;> simp only [cOp, hop] at hc <;> try (cases hc; done)
 case move x =>
  obtain ⟨y, hy, rfl⟩ := one hc
  simp only [aFun, Option.some.injEq] at h
  subst h
  exact ⟨_, by simp [execOp, hop], hρ x y hy⟩
 case assign x =>
  obtain ⟨y, hy, rfl⟩ := one hc
  simp only [aFun, Option.some.injEq] at h
  subst h
  exact ⟨_, by simp [execOp, hop], hρ x y hy⟩
 case pick c a b =>
  split at hc
  ·rename_i c' a' b' h1 h2 h3
   cases hc
   have hcv := hρ c c' h1
   simp only [aFun] at h
   split at h
   ·rename_i t he
    rw [he] at hcv
    have e1 := hcv.bool_inv
    cases t
    ·simp at h; subst h
     exact ⟨ρ b, by simp [execOp, hop, e1, asBool], hρ b b' h3⟩
    ·simp at h; subst h
     exact ⟨ρ a, by simp [execOp, hop, e1, asBool], hρ a a' h2⟩
   ·cases h
  ·cases hc
 case alloc t =>
  split at hc
  ·split at hc
   ·rename_i i hi z hz
    cases hv : cV z with
    | none => simp [hv] at hc
    | some s0 => simp [hv] at hc; subst hc; simp [aFun] at h
   ·cases hc
  ·cases hc
 case box t x =>
  obtain ⟨y, hy, rfl⟩ := one hc
  simp [aFun] at h
 case build t parts =>
  split at hc
  ·rename_i fs i ht hi
   split at hc
   ·rename_i z hz
    split at hc
    ·rename_i zs ps hzs hps
     split at hc
     ·rename_i hall
      cases hc
      simp only [aFun] at h
      split at h
      ·rename_i cs hfill
       simp only [Option.some.injEq] at h
       subst h
       obtain ⟨v, h1, h2⟩ := build_sound (P := P) ht hi hz (List.all_eq_true.1 hall) (cVs_cells hzs) (cParts_sound hρ hps) hfill
       refine ⟨v, ?_, h2⟩
       have : parts.map (fun p => (p.1, ρ p.2)) = (parts.toList.map fun p => (p.1, ρ p.2)).toArray := by apply Array.ext'; simp
       rw [← this] at h1
       simp [execOp, hop, h1]
      ·cases h
     ·cases hc
    ·cases hc
   ·cases hc
  ·rename_i len e i ht hi
   split at hc
   ·rename_i z ie hz hie
    split at hc
    ·rename_i zs ps hzs hps
     cases hc
     simp only [aFun] at h
     split at h
     ·rename_i cs hfill
      simp only [Option.some.injEq] at h
      subst h
      obtain ⟨v, h1, h2⟩ := build_soundA (P := P) ht hi hz hie (cVs_cells hzs) (cPartsA_sound hρ hps) hfill
      refine ⟨v, ?_, h2⟩
      have : parts.map (fun p => (p.1, ρ p.2)) = (parts.toList.map fun p => (p.1, ρ p.2)).toArray := by apply Array.ext'; simp
      rw [← this] at h1
      simp [execOp, hop, h1]
     ·cases h
    ·cases hc
   ·cases hc
  ·cases hc
 case makeSlice t l c =>
  split at hc
  ·split at hc
   ·split at hc
    ·split at hc
     ·split at hc
      ·cases hc; simp [aFun] at h
      ·cases hc
     ·cases hc
    ·cases hc
   ·cases hc
  ·cases hc
 case buildSlice t len parts =>
  split at hc
  ·split at hc
   ·split at hc
    ·split at hc
     ·cases hc; simp [aFun] at h
     ·cases hc
    ·cases hc
   ·cases hc
  ·cases hc
 case load t a =>
  split at hc
  ·rename_i g n a' h1 h2 h3
   cases hc
   have ha := hρ a a' h3
   have h' : aFun env HF (.load g n a') = some s := h
   have key : aFun env H (.load g n a') = some s := by
    simp only [aFun] at h ⊢
    split at h
    ·rename_i b i off he
     rw [he] at ha
     obtain ⟨l, hl, _, _⟩ := ha.ptr_inv
     split at h
     ·rename_i r hrow
      rw [rowAt_of hF hl hrow]
      exact h
     ·cases h
    ·exact h
    ·cases h
   obtain ⟨v, h4, h5⟩ := load_sound (P := P) hrep h1 h2 ha key
   exact ⟨v, by simp [execOp, hop, h4], h5⟩
  ·cases hc
 case store t a v =>
  split at hc
  ·cases hc; simp [aFun] at h
  ·cases hc
 case nilCheck x =>
  obtain ⟨y, hy, rfl⟩ := one hc
  have hx := hρ x y hy
  simp only [aFun] at h
  split at h
  ·rename_i b i off he
   rw [he] at hx
   simp only [Option.some.injEq] at h
   subst h
   obtain ⟨l, hl, hv, e⟩ := hx.ptr_inv
   exact ⟨ρ x, by simp [execOp, hop, e], hx⟩
  ·rename_i d off he
   rw [he] at hx
   simp only [Option.some.injEq] at h
   subst h
   generalize hv : ρ x = v at hx
   have hx' := hx
   cases hx with
   | pptr blk o' => exact ⟨.pointer (some ⟨blk, o' + off, none⟩), by simp [execOp, hop, hv], hx'⟩
  ·rename_i f a c he
   rw [he] at hx
   simp only [Option.some.injEq] at h
   subst h
   generalize hv : ρ x = v at hx
   have hx' := hx
   cases hx.pure_inv with
   | func => exact ⟨_, by simp [execOp, hop, hv], hx'⟩
  ·rename_i f a c he
   rw [he] at hx
   simp only [Option.some.injEq] at h
   subst h
   generalize hv : ρ x = v at hx
   have hx' := hx
   cases hx with
   | func => exact ⟨_, by simp [execOp, hop, hv], hx'⟩
  ·cases h
 case binOp bop t x y yt =>
  split at hc
  ·rename_i a b i h1 h2 h3
   cases hc
   obtain ⟨v, h4, h5⟩ := bin_sound (P := P) (t := t) (hρ x a h1) (hρ y b h2) h x y
   exact ⟨v, by simp only [execOp, hop]; simp only [Sem.run_bind] at h4 ⊢; rw [h4]; rfl, h5⟩
  ·rename_i a b h1 h2 h3
   split at hc
   ·cases hc
    obtain ⟨v, h4, h5⟩ := eqb_sound (P := P) (neg := false) h3 (hρ x a h1) (hρ y b h2) h x y
    simp only [Bool.false_eq_true, if_false] at h4
    exact ⟨v, by simp only [execOp, hop]; simp only [Sem.run_bind] at h4 ⊢; rw [h4]; rfl, h5⟩
   ·cases hc
    obtain ⟨v, h4, h5⟩ := eqb_sound (P := P) (neg := true) h3 (hρ x a h1) (hρ y b h2) h x y
    simp only [if_true] at h4
    exact ⟨v, by simp only [execOp, hop]; simp only [Sem.run_bind] at h4 ⊢; rw [h4]; rfl, h5⟩
   ·cases hc
  ·rename_i a b h1 h2 h3
   split at hc
   ·cases hc
    obtain ⟨v, h4, h5⟩ := eqs_sound (P := P) (neg := false) (t := t) (hρ x a h1) (hρ y b h2) h x y
    simp only [Bool.false_eq_true, if_false] at h4
    exact ⟨v, by simp only [execOp, hop]; simp only [Sem.run_bind] at h4 ⊢; rw [h4]; rfl, h5⟩
   ·cases hc
    obtain ⟨v, h4, h5⟩ := eqs_sound (P := P) (neg := true) (t := t) (hρ x a h1) (hρ y b h2) h x y
    simp only [if_true] at h4
    exact ⟨v, by simp only [execOp, hop]; simp only [Sem.run_bind] at h4 ⊢; rw [h4]; rfl, h5⟩
   ·cases hc
  ·rename_i a b fs h1 h2 h3
   have hag : aggT P t = some true := by simp [aggT, h3]
   have key : ∀ (neg : Bool) (ks : List CK), kindsOf P 100 t = some ks → P.eqGuardType P.depth t = false → aFun env HF (.eqv neg ks a b) = some s → bop = (if neg = true then .neq else .eql) →
     ∃ v, (execOp ρ o).run P w = .ok (.value v) w ∧ Rep w (excl μ H) μ v s := by
    intro neg ks hk hg hs hb
    simp only [aFun] at hs
    split at hs
    ·rename_i va vb hxe hye
     split at hs
     ·rename_i hcell
      have hx := hρ x a h1
      have hy := hρ y b h2
      rw [hxe] at hx
      rw [hye] at hy
      cases hr : V.eqs ks va.cells vb.cells with
      | none => simp [hr] at hs
      | some r =>
       simp [hr] at hs
       subst hs
       have mk : ∀ {v : Value} {d : V}, PRep w (excl μ H) v d → d.isCell = false → ∃ cs, v = .agg cs ∧ VC w (excl μ H) true v d.cells := by
        intro v d hp hd
        cases hp with
        | agg cs vs hl hc' hh => exact ⟨cs, rfl, ⟨hl, hh, hc', (fun h => by cases h), (fun _ => ⟨_, rfl⟩)⟩⟩
        | _ => simp [V.isCell] at hd
       obtain ⟨xs, ex, vx⟩ := mk hx.pure_inv hcell.1
       obtain ⟨ys, ey, vy⟩ := mk hy.pure_inv hcell.2
       have heq := eqv_sound (P := P) 100 9900 t ks hk true _ _ _ _ _ hag vx vy hr
       rw [ex, ey] at heq
       have hgd : (eqGuard bop t x y (.agg xs) (.agg ys)).run P w = .ok () w := run_eqGuard_agg w bop t x y xs ys hg
       cases neg
       ·simp only [Bool.false_eq_true, if_false] at hb
        subst hb
        refine ⟨.bool r, ?_, .mkBool⟩
        simp only [execOp, hop, ex, ey, Sem.run_bind, hgd, Result.andThen_ok, run_eql_struct, heq, Sem.run_pure]
       ·simp only [if_true] at hb
        subst hb
        refine ⟨.bool !r, ?_, .mkBool⟩
        simp only [execOp, hop, ex, ey, Sem.run_bind, hgd, Result.andThen_ok, run_neq_struct, heq, Sem.run_pure]
     ·cases hs
    ·cases hs
   split at hc
   ·rename_i ks hk
    split at hc
    ·cases hc
     exact key false ks hk (by assumption) h rfl
    ·cases hc
   ·rename_i ks hk
    split at hc
    ·cases hc
     exact key true ks hk (by assumption) h rfl
    ·cases hc
   ·cases hc
  ·rename_i a b alen aelem h1 h2 h3
   have hag : aggT P t = some true := by simp [aggT, h3]
   have key : ∀ (neg : Bool) (ks : List CK), kindsOf P 100 t = some ks → P.eqGuardType P.depth t = false → aFun env HF (.eqv neg ks a b) = some s → bop = (if neg = true then .neq else .eql) →
     ∃ v, (execOp ρ o).run P w = .ok (.value v) w ∧ Rep w (excl μ H) μ v s := by
    intro neg ks hk hg hs hb
    simp only [aFun] at hs
    split at hs
    ·rename_i va vb hxe hye
     split at hs
     ·rename_i hcell
      have hx := hρ x a h1
      have hy := hρ y b h2
      rw [hxe] at hx
      rw [hye] at hy
      cases hr : V.eqs ks va.cells vb.cells with
      | none => simp [hr] at hs
      | some r =>
       simp [hr] at hs
       subst hs
       have mk : ∀ {v : Value} {d : V}, PRep w (excl μ H) v d → d.isCell = false → ∃ cs, v = .agg cs ∧ VC w (excl μ H) true v d.cells := by
        intro v d hp hd
        cases hp with
        | agg cs vs hl hc' hh => exact ⟨cs, rfl, ⟨hl, hh, hc', (fun h => by cases h), (fun _ => ⟨_, rfl⟩)⟩⟩
        | _ => simp [V.isCell] at hd
       obtain ⟨xs, ex, vx⟩ := mk hx.pure_inv hcell.1
       obtain ⟨ys, ey, vy⟩ := mk hy.pure_inv hcell.2
       have heq := eqv_sound (P := P) 100 9900 t ks hk true _ _ _ _ _ hag vx vy hr
       rw [ex, ey] at heq
       have hgd : (eqGuard bop t x y (.agg xs) (.agg ys)).run P w = .ok () w := run_eqGuard_agg w bop t x y xs ys hg
       cases neg
       ·simp only [Bool.false_eq_true, if_false] at hb
        subst hb
        refine ⟨.bool r, ?_, .mkBool⟩
        simp only [execOp, hop, ex, ey, Sem.run_bind, hgd, Result.andThen_ok, run_eql_struct, heq, Sem.run_pure]
       ·simp only [if_true] at hb
        subst hb
        refine ⟨.bool !r, ?_, .mkBool⟩
        simp only [execOp, hop, ex, ey, Sem.run_bind, hgd, Result.andThen_ok, run_neq_struct, heq, Sem.run_pure]
     ·cases hs
    ·cases hs
   split at hc
   ·rename_i ks hk
    split at hc
    ·cases hc
     exact key false ks hk (by assumption) h rfl
    ·cases hc
   ·rename_i ks hk
    split at hc
    ·cases hc
     exact key true ks hk (by assumption) h rfl
    ·cases hc
   ·cases hc
  ·split at hc
   ·cases hc; simp [aFun] at h
   ·cases hc; simp [aFun] at h
   ·cases hc
  ·cases hc
 case unOp uop t x =>
  obtain ⟨y, hy, rfl⟩ := one hc
  obtain ⟨v, h4, h5⟩ := un_sound (P := P) (w := w) (hρ x y hy) h
  exact ⟨v, by simp [execOp, hop, h4], h5⟩
 case convert src dst x =>
  split at hc
  ·rename_i d k hs hd
   obtain ⟨y, hy, rfl⟩ := one hc
   obtain ⟨v, h4, h5⟩ := conv_sound (P := P) (w := w) hs hd (hρ x y hy) h
   exact ⟨v, by simp [execOp, hop, h4], h5⟩
  ·cases hc
 case makeFunc fn f c =>
  split at hc
  ·rename_i fs cs h1 h2
   cases hc
   simp only [aFun, Option.some.injEq] at h
   subst h
   obtain ⟨l1, r1⟩ := cOs_sound hρ h1
   obtain ⟨l2, r2⟩ := cOs_sound hρ h2
   refine ⟨.func fn (f.map ρ) (c.map ρ), by simp [execOp, hop, Instr.makeFunc], .func fn _ _ _ _ (by simpa using l1) (by simpa using l2) (fun i hi => ?_) (fun i hi => ?_)⟩
   ·have := r1 i (by simpa using hi)
    rw [← Array.toList_map, Array.getD_toList'] at this
    exact this
   ·have := r2 i (by simpa using hi)
    rw [← Array.toList_map, Array.getD_toList'] at this
    exact this
  ·cases hc
 case slice t x lo hi mx =>
  split at hc
  ·rename_i e ht
   split at hc
   ·rename_i n x' lo' hi' mx' hn hx hlo hhi hmx
    split at hc
    ·cases hc
    ·rename_i hcnd
     cases hc
     obtain ⟨b1, s1⟩ := cOo_sound hρ hlo
     obtain ⟨b2, s2⟩ := cOo_sound hρ hhi
     obtain ⟨b3, s3⟩ := cOo_sound hρ hmx
     obtain ⟨v, h4, h5⟩ := slc_sound (P := P) hrep hF ht hn (hρ x x' hx) b1 b2 b3 (fun hm => by
      rw [Option.isSome_map] at hm ⊢
      rw [s2]
      rw [s3] at hm
      cases h0 : hi'.isSome with
      | true => rfl
      | false => exact absurd ⟨hm, h0⟩ hcnd) h
     exact ⟨v, by simp [execOp, hop, h4], h5⟩
   ·cases hc
  ·cases hc
 case field t x k =>
  split at hc
  ·rename_i fs ht
   split at hc
   ·rename_i f hf
    split at hc
    ·rename_i g n x' hg hn hx
     cases hc
     obtain ⟨v, h4, h5⟩ := fld_sound (P := P) ht hf hn hg (hρ x x' hx) h
     exact ⟨v, by simp [execOp, hop, h4], h5⟩
    ·cases hc
   ·cases hc
  ·cases hc
 case fieldAddr t x k =>
  split at hc
  ·rename_i fs ht
   split at hc
   ·rename_i f hf
    split at hc
    ·rename_i n x' hn hx
     split at hc
     ·cases hc
     ·rename_i h0
      cases hc
      obtain ⟨v, h4, h5⟩ := fldA_sound (P := P) ht hf hn h0 (hρ x x' hx) h
      exact ⟨v, by simp [execOp, hop, h4], h5⟩
    ·cases hc
   ·cases hc
  ·cases hc
 case indexAddr t x i =>
  split at hc
  ·rename_i e ht
   split at hc
   ·rename_i n x' i' hn hx hi
    cases hc
    obtain ⟨v, h4, h5⟩ := idxA_sound (P := P) hrep hF ht hn (hρ x x' hx) (hρ i i' hi) h
    exact ⟨v, by simp [execOp, hop, h4], h5⟩
   ·cases hc
  ·rename_i len e ht
   split at hc
   ·rename_i n x' i' hn hx hi
    cases hc
    obtain ⟨v, h4, h5⟩ := idxAA_sound (P := P) ht hn (hρ x x' hx) (hρ i i' hi) h
    exact ⟨v, by simp [execOp, hop, h4], h5⟩
   ·cases hc
  ·cases hc
 case index t x i =>
  split at hc
  ·rename_i len e ht
   split at hc
   ·rename_i g n x' i' hg hn hx hi
    cases hc
    obtain ⟨v, h4, h5⟩ := idxV_sound (P := P) ht hn hg (hρ x x' hx) (hρ i i' hi) h
    exact ⟨v, by simp [execOp, hop, h4], h5⟩
   ·cases hc
  ·rename_i ht
   split at hc
   ·rename_i x' i' hx hi
    cases hc
    obtain ⟨v, h4, h5⟩ := idxS_sound (P := P) ht (hρ x x' hx) (hρ i i' hi) h
    exact ⟨v, by simp [execOp, hop, h4], h5⟩
   ·cases hc
  ·cases hc
 case extract x i =>
  obtain ⟨y, hy, rfl⟩ := one hc
  obtain ⟨v, h4, h5⟩ := ext_sound (P := P) (w := w) (hρ x y hy) h
  exact ⟨v, by simp [execOp, hop, h4], h5⟩
 case call c =>
  split at hc
  ·rename_i hcal
   split at hc
   ·rename_i x t hargs htys
    have e1 := toList1 hargs
    have e2 := toList1 htys
    split at hc
    ·rename_i e ht
     obtain ⟨y, hy, rfl⟩ := one hc
     obtain ⟨n, h4, h5, h6⟩ := len_sound (P := P) (w := w) (ty := o.type) ht (hρ x y hy) h
     refine ⟨_, by simp [execOp, hop, resolve, hcal, e1, e2, invoke, builtin, h4]; rfl, ?_⟩
     rw [h5]
     exact .mkInt (wf_len h6)
    ·rename_i ht
     obtain ⟨y, hy, rfl⟩ := one hc
     obtain ⟨n, h4, h5, h6⟩ := lenS_sound (P := P) (w := w) (ty := o.type) ht (hρ x y hy) h
     refine ⟨_, by simp [execOp, hop, resolve, hcal, e1, e2, invoke, builtin, h4]; rfl, ?_⟩
     rw [h5]
     exact .mkInt (wf_len h6)
    ·cases hc
   ·cases hc
  ·rename_i hcal
   split at hc
   ·rename_i x y hargs
    have e1 := toList2 hargs
    split at hc
    ·rename_i x' y' hx hy
     cases hc
     obtain ⟨v, h4, h5⟩ := mx_sound (P := P) (w := w) (ats := c.argTypes) (ty := o.type) (hρ x x' hx) (hρ y y' hy) h
     exact ⟨v, by simp [execOp, hop, resolve, hcal, e1, invoke, builtin, h4], h5⟩
    ·cases hc
   ·cases hc
  ·rename_i hcal
   split at hc
   ·rename_i x y hargs
    have e1 := toList2 hargs
    split at hc
    ·rename_i x' y' hx hy
     cases hc
     obtain ⟨v, h4, h5⟩ := mn_sound (P := P) (w := w) (ats := c.argTypes) (ty := o.type) (hρ x x' hx) (hρ y y' hy) h
     exact ⟨v, by simp [execOp, hop, resolve, hcal, e1, invoke, builtin, h4], h5⟩
    ·cases hc
   ·cases hc
  ·split at hc
   ·split at hc
    ·split at hc
     ·split at hc
      ·split at hc
       ·cases hc; simp [aFun] at h
       ·cases hc
      ·cases hc
     ·cases hc
    ·cases hc
   ·cases hc
  ·cases hq : cOs c.args.toList with
   | none => simp [hq] at hc
   | some q => simp [hq] at hc; subst hc; simp [aFun] at h
  ·split at hc
   ·cases hc; simp [aFun] at h
   ·cases hc
  ·cases hc
end
end Go.Vm
/-! The abstract machine, part 12: operations with memory and calls; regions in the order of the text; code; the contract of a function. -/
namespace Go.Vm
open Go Go.RowKit
def isMem : AOp → Bool
 | .len _ | .lenS _ | .slnil _ _ | .box _ | .bslice _ _ | .mksl _ _ _ _ _ | .store _ _ _ | .app _ _ _ _ | .call _ _ | .callv _ _ => true
 | _ => false
theorem aVal_pure {P : Program} {env : Env} {H : Heap} {K : S → Heap → Prop} (op : AOp) (hm : isMem op = false) (h : aVal P env H op K) : ∃ s, aFun env H op = some s ∧ K s H := by
 cases op <;> simp [isMem] at hm <;> simp only [aVal] at h
 case pick c x y =>
  split at h
  ·rename_i t he
   cases t
   ·exact ⟨y.ev env, by simp [aFun, he], h.2 rfl⟩
   ·exact ⟨x.ev env, by simp [aFun, he], h.1 rfl⟩
  ·exact h.elim
 all_goals
  split at h
  ·rename_i s hs; exact ⟨s, hs, h⟩
  ·exact h.elim
section
variable {P : Program} {w : World} {μ : Mu} {H : Heap} {env : Env}
/-- a row of values, pointwise -/
def PW (w : World) (X : Nat → Prop) (μ : Mu) (cs : Array Value) (ss : List S) : Prop := cs.size = ss.length ∧ ∀ i, i < ss.length → Rep w X μ (cs.getD i undef) (ss.getD i .dead)
theorem PW.append {X : Nat → Prop} {A B : Array Value} {l m : List S} (h : PW w X μ A l) (k : PW w X μ B m) : PW w X μ (A ++ B) (l ++ m) := by
 refine ⟨by simp [h.1, k.1], fun i hi => ?_⟩
 rw [List.getD_append_cases]
 have e : (A ++ B).getD i undef = if i < l.length then A.getD i undef else B.getD (i - l.length) undef := by
  simp only [Array.getD_eq_getD_getElem?, Array.getElem?_append, h.1]
  split <;> rfl
 rw [e]
 split
 ·exact h.2 i (by assumption)
 ·exact k.2 _ (by simp at hi; omega)
theorem PW.pures {X : Nat → Prop} {A : Array Value} {l : List V} (h : A.size = l.length) (k : ∀ i, i < l.length → PRep w X (A.getD i undef) (l.getD i default)) : PW w X μ A (l.map .pure) := by
 refine ⟨by simp [h], fun i hi => ?_⟩
 have hi' : i < l.length := by simpa using hi
 have := k i hi'
 rw [List.getD_eq_getElem?_getD, List.getElem?_eq_getElem hi'] at this
 rw [List.getD_eq_getElem?_getD, List.getElem?_map, List.getElem?_eq_getElem hi']
 exact .pure _ _ this
theorem cOs_pw {X : Nat → Prop} {ρ : Operand → Value} (hρ : Evs w X μ ρ env) {l : Array Operand} {os : List O} (h : cOs l.toList = some os) : PW w X μ (l.map ρ) (os.map (·.ev env)) := by
 obtain ⟨l1, r1⟩ := cOs_sound hρ h
 refine ⟨by simp at l1 ⊢; exact l1, fun i hi => ?_⟩
 have := r1 i (by simpa using hi)
 rw [← Array.toList_map, Array.getD_toList'] at this
 exact this
/-- what an operation leaves -/
def After (a : Act) (o : Oper) (w : World) (μ : Mu) (H : Heap) (K : S → Heap → Prop) (a' : Act) (w' : World) : Prop :=
 ∃ v s H' μ', a' = a.put o.dst v ∧ K s H' ∧ Step w μ H w' μ' H' v s
theorem wp_value {o : Oper} {a : Act} {K : S → Heap → Prop} {Q : Exit → Act → World → Prop} {v : Value} {w' : World} (hr : (execOp a.eval o).run P w = .ok (.value v) w') (h : ∃ s H' μ', K s H' ∧ Step w μ H w' μ' H' v s) :
  o.wp P a w (After a o w μ H K) Q := by
 unfold Oper.wp
 rw [hr]
 obtain ⟨s, H', μ', h1, h2⟩ := h
 exact ⟨v, s, H', μ', rfl, h1, h2⟩
theorem wp_skipped {o : Oper} {a : Act} {K : S → Heap → Prop} {Q : Exit → Act → World → Prop} {w' : World} (hr : (execOp a.eval o).run P w = .ok .skip w') (h : ∃ s H' μ', K s H' ∧ Step w μ H w' μ' H' undef s) :
  o.wp P a w (After a o w μ H K) Q := by
 unfold Oper.wp
 rw [hr]
 obtain ⟨s, H', μ', h1, h2⟩ := h
 exact ⟨undef, s, H', μ', rfl, h1, h2⟩
theorem callFunc_run {f : Nat} {args : Array Value} {fn : Func} (h1 : P.funcs[f]? = some fn) (h2 : (fn.name == "runtime.NumGoroutine") = false) (h3 : fn.body.isNone = false) : (callFunc f args).run P w = .ok (.enter f args) w := by
 simp only [callFunc, Sem.run_bind, run_program, Result.andThen_ok, h1]
 simp only [h2, h3, Bool.false_eq_true, if_false]
 rfl
theorem wp_call {o : Oper} {a : Act} {K : S → Heap → Prop} {Q : Exit → Act → World → Prop} {f : Nat} {cargs : Array Value} {args : List S} (hrep : HRep w μ H)
  (hr : ∀ fn : Func, P.funcs[f]? = some fn → (fn.name == "runtime.NumGoroutine") = false → fn.body.isNone = false → (execOp a.eval o).run P w = .ok (.enter f cargs) w)
  (hl : cargs.size = args.length) (ha : ∀ i, i < args.length → Rep w (excl μ H) μ (cargs.getD i undef) (args.getD i .dead)) (h : CallA P f args H K) : o.wp P a w (After a o w μ H K) Q := by
 obtain ⟨⟨fn, h1, h2, h3⟩, hc⟩ := h
 unfold Oper.wp
 rw [hr fn h1 h2 h3]
 refine (hc w μ cargs hrep hl ha).mono fun e w' he => ?_
 obtain ⟨v, s, H', μ', rfl, h4, h5⟩ := he
 exact ⟨v, s, H', μ', rfl, h4, h5⟩
theorem op_sound (hrep : HRep w μ H) {a : Act} (hρ : Evs w (excl μ H) μ a.eval env) {o : Oper} {op : AOp} (hc : cOp P o = some op) {K : S → Heap → Prop} (h : aVal P env H op K) {Q : Exit → Act → World → Prop} :
  o.wp P a w (After a o w μ H K) Q := by
 have pureCase : ∀ {s : S}, aFun env H op = some s → K s H → o.wp P a w (After a o w μ H K) Q := by
  intro s hs hk
  obtain ⟨v, h1, h2⟩ := fun_sound (P := P) hrep (fun _ _ _ => rfl) hρ hc hs
  exact wp_value h1 ⟨s, H, μ, hk, Step.same hrep h2⟩
 by_cases hm : isMem op = false
 ·obtain ⟨s, hs, hk⟩ := aVal_pure op hm h
  exact pureCase hs hk
 ·have hc0 := hc
  cases hop : o.op <;> simp only [cOp, hop] at hc <;> try (cases hc; done)
  case alloc t =>
   split at hc
   ·rename_i i hi
    split at hc
    ·rename_i z hz
     cases hv : cV z with
     | none => simp [hv] at hc
     | some s0 =>
      simp [hv] at hc
      subst hc
      simp only [aVal, O.ev] at h
      obtain ⟨v, w', μ', h1, h2⟩ := box_sound (P := P) (elem := t) hrep (cV_sound hv) h.1
      have : (execOp a.eval o).run P w = .ok (.value v) w' := by
       simp only [Instr.box] at h1
       simp only [execOp, hop, Instr.alloc, Sem.run_bind, zeroValue, typeInfo, run_program, Result.andThen_ok, hi, Sem.run_pure, hz]
       rw [show (do pure (Value.pointer (some (← newVar t z))) : Sem Value) = (do let x ← newVar t z; pure (Value.pointer (some x))) from rfl] at h1
       simp only [Sem.run_bind, Sem.run_pure] at h1 ⊢
       rw [h1]; rfl
      exact wp_value this ⟨_, _, μ', h.2, h2⟩
    ·cases hc
   ·cases hc
  case box t x =>
   cases hx : cO x with
   | none => simp [hx] at hc
   | some y =>
    simp [hx] at hc
    subst hc
    simp only [aVal] at h
    obtain ⟨v, w', μ', h1, h2⟩ := box_sound (P := P) (elem := t) hrep (hρ x y hx) h.1
    exact wp_value (v := v) (w' := w') (by simp [execOp, hop, h1]) ⟨_, _, μ', h.2, h2⟩
  case buildSlice t len parts =>
   split at hc
   ·rename_i e ht
    split at hc
    ·rename_i i hi
     split at hc
     ·rename_i z os hz hos
      split at hc
      ·rename_i hcnd
       obtain ⟨hidx, hbig, hpos⟩ := hcnd
       cases hc
       simp only [aVal] at h
       obtain ⟨l1, r1⟩ := cOs_sound hρ hos
       have hlen : len = os.length := by
        have := congrArg List.length hidx
        simp at this
        simp at l1
        omega
       have hss : (os.map (·.ev env)).length = os.length := by simp
       obtain ⟨v, w', μ', h1, h2⟩ := bslice_sound (P := P) hrep ht hi hz hpos (vs := (parts.toList.map (·.2)).map a.eval) (ss := os.map (·.ev env)) (by simp at l1 ⊢; exact l1) (by rw [hss, ← hlen]; exact hbig)
        (fun s hs => by obtain ⟨o', ho', rfl⟩ := List.mem_map.1 hs; exact h.1 o' ho') (fun k hk => r1 k (by simpa using hk))
       rw [hss, ← hlen] at h1
       have hparts : (((parts.toList.map (·.2)).map a.eval).zipIdx.map fun p => (p.2, p.1)).toArray = parts.map fun (i, x) => (i, a.eval x) := by
        apply Array.ext'
        simp only [List.map_map, Array.toList_map]
        apply List.ext_getElem?
        intro k
        simp only [List.getElem?_map, List.getElem?_zipIdx]
        have hk := congrArg (fun l : List Nat => l[k]?) hidx
        simp only [List.getElem?_map] at hk
        cases hp : parts.toList[k]? with
        | none => simp
        | some p =>
         rw [hp] at hk
         simp only [Option.map_some] at hk
         have hkl : k < len := by
          have := (List.getElem?_eq_some_iff.1 hp).1
          have h9 := congrArg List.length hidx
          simp at h9 this
          omega
         rw [List.getElem?_range hkl] at hk
         simp only [Option.some.injEq] at hk
         simp [hk]
       rw [hparts] at h1
       refine wp_value (v := v) (w' := w') (by simp [execOp, hop, h1]) ⟨_, _, μ', ?_, h2⟩
       have := h.2
       rw [hss]
       exact this
      ·cases hc
     ·cases hc
    ·cases hc
   ·cases hc
  case makeSlice t l c =>
   split at hc
   ·rename_i e ht
    split at hc
    ·rename_i i x y hi hx hy
     split at hc
     ·rename_i z hz
      split at hc
      ·rename_i s0 hs0
       split at hc
       ·rename_i hcnd
        obtain ⟨c2, c3, c4⟩ := hcnd
        cases hc
        simp only [aVal] at h
        split at h
        ·rename_i kl n kc c' he he'
         obtain ⟨⟨g0, g3, g1, g2⟩, hk⟩ := h
         have e1 := int_at hρ hx he
         have e2 := int_at hρ hy he'
         obtain ⟨v, w', μ', h1, h2⟩ := mksl_sound (P := P) hrep ht hi hz c4 c2 c3 (cV_sound hs0) (kl := kl) (kc := kc) g0 g3 g1 g2
         exact wp_value (v := v) (w' := w') (by simp [execOp, hop, e1, e2, h1]) ⟨_, _, μ', hk, h2⟩
        ·exact h.elim
       ·cases hc
      ·cases hc
     ·cases hc
    ·cases hc
   ·cases hc
  case binOp bop t x y yt =>
   split at hc
   ·cases hc; exact absurd rfl hm
   ·split at hc <;> first | (cases hc; exact absurd rfl hm) | cases hc
   ·split at hc <;> first | (cases hc; exact absurd rfl hm) | cases hc
   ·split at hc
    ·split at hc
     ·cases hc; exact absurd rfl hm
     ·cases hc
    ·split at hc
     ·cases hc; exact absurd rfl hm
     ·cases hc
    ·cases hc
   ·split at hc
    ·split at hc
     ·cases hc; exact absurd rfl hm
     ·cases hc
    ·split at hc
     ·cases hc; exact absurd rfl hm
     ·cases hc
    ·cases hc
   ·rename_i a0 b0 e h1 h2 h3
    have key : ∀ (neg : Bool) (l c : Nat), y = .const (.slice none l c) → aVal P env H (.slnil neg a0) K → bop = (if neg = true then .neq else .eql) → o.wp P a w (After a o w μ H K) Q := by
     intro neg l c hy hh hb
     subst hy
     simp only [aVal] at hh
     split at hh
     ·rename_i n hn
      obtain ⟨b, g1, g2⟩ := slnil_sound (P := P) (w := w) neg h3 (hρ x a0 h1) hn l c x (.const (.slice none l c))
      refine wp_value (v := .bool b) (w' := w) ?_ ⟨_, H, μ, hh b g2, Step.same hrep .mkBool⟩
      subst hb
      simp only [execOp, hop]
      simp only [Sem.run_bind] at g1 ⊢
      show Result.andThen _ _ = _
      rw [show a.eval (.const (.slice none l c)) = .slice none l c from rfl, g1]
      rfl
     ·exact hh.elim
    split at hc
    ·cases hc
     exact key false _ _ rfl h rfl
    ·cases hc
     exact key true _ _ rfl h rfl
    ·cases hc
   ·cases hc
  case store t ad v =>
   split at hc
   ·rename_i n ad' v' hn ha hv
    cases hc
    simp only [aVal] at h
    split at h
    ·rename_i b i off he
     split at h
     ·rename_i r hb
      obtain ⟨hst, h⟩ := h
      split at h
      ·rename_i e hei
       obtain ⟨h1, h2, h3, h4⟩ := h
       have hav := hρ ad ad' ha
       rw [he] at hav
       obtain ⟨w', μ', h5, h6⟩ := store_sound (P := P) hrep hn hav (hρ v v' hv) hb hst hei h1 h2 h3
       exact wp_skipped (w' := w') (by simp [execOp, hop, h5]) ⟨_, _, μ', h4, h6⟩
      ·exact h.elim
     ·exact h.elim
    ·exact h.elim
   ·cases hc
  case call c =>
   split at hc
   · -- len
    rename_i hcal
    split at hc
    ·rename_i x t hargs htys
     split at hc
     ·rename_i e ht
      cases hx : cO x with
      | none => simp [hx] at hc
      | some y =>
       simp [hx] at hc
       subst hc
       have hxv := hρ x y hx
       simp only [aVal] at h
       split at h
       ·rename_i he; exact pureCase (s := .pure (.int .i64 0)) (by simp [aFun, he]) h
       ·rename_i es he
        have hf : aFun env H (.len y) = some (.pure (.int .i64 es.length)) := by simp [aFun, he]
        obtain ⟨n, _, h5, h6⟩ := len_sound (P := P) (w := w) (ty := o.type) ht hxv hf
        have : (es.length : Int) = n := by simpa using h5
        exact pureCase hf (h (by omega))
       ·rename_i b off n0 he
        have hf : aFun env H (.len y) = some (.pure (.int .i64 n0)) := by simp [aFun, he]
        obtain ⟨n, _, h5, h6⟩ := len_sound (P := P) (w := w) (ty := o.type) ht hxv hf
        have : (n0 : Int) = n := by simpa using h5
        exact pureCase hf (h (by omega))
       ·exact h.elim
     ·rename_i ht
      cases hx : cO x with
      | none => simp [hx] at hc
      | some y =>
       simp [hx] at hc
       subst hc
       have hxv := hρ x y hx
       simp only [aVal] at h
       split at h
       ·rename_i es he
        have hf : aFun env H (.lenS y) = some (.pure (.int .i64 es.length)) := by simp [aFun, he]
        obtain ⟨n, _, h5, h6⟩ := lenS_sound (P := P) (w := w) (ty := o.type) ht hxv hf
        have : (es.length : Int) = n := by simpa using h5
        exact pureCase hf (h (by omega))
       ·exact h.elim
     ·cases hc
    ·cases hc
   ·split at hc
    ·split at hc
     ·cases hc; simp [isMem] at hm
     ·cases hc
    ·cases hc
   ·split at hc
    ·split at hc
     ·cases hc; simp [isMem] at hm
     ·cases hc
    ·cases hc
   · -- append
    rename_i hcal
    split at hc
    ·rename_i x y t u hargs htys
     have e1 := toList2 hargs
     have e2 := toList2 htys
     split at hc
     ·rename_i e e' ht hu
      split at hc
      ·rename_i i x' y' hi hx hy
       split at hc
       ·rename_i z hz
        split at hc
        ·rename_i hcnd
         cases hc
         have T : AppT P t u e i z := ⟨ht, .inl ⟨e', hu⟩, hi, hz, hcnd.1, hcnd.2⟩
         simp only [aVal] at h
         split at h
         ·exact h.elim
         ·rename_i ys hys
          obtain ⟨hlens, h⟩ := h
          obtain ⟨news, hsrc⟩ := src_sound (P := P) hrep hcnd.2 (hρ y y' hy) hys hlens
          split at h
          ·rename_i he
           obtain ⟨h1, h2, h3⟩ := h
           have hxv := hρ x x' hx
           rw [he] at hxv
           obtain ⟨ad, hav, had⟩ := hxv.empty_inv
           obtain ⟨v, w', μ', h4, h5⟩ := app_empty hrep (ty := o.type) T had hsrc h1 h2 rfl (fun _ _ h _ => h)
           rw [← hav] at h4
           exact wp_value (v := v) (w' := w') (by simp [execOp, hop, resolve, hcal, e1, e2, invoke, builtin, h4]) ⟨_, _, μ', h3, h5⟩
          ·rename_i b off len he
           split at h
           ·rename_i r hb
            obtain ⟨h1, h2, h3, h4, h5, h6⟩ := h
            have hxv := hρ x x' hx
            rw [he] at hxv
            obtain ⟨v, w', μ', h7, h8⟩ := app_rsl hrep (ty := o.type) T hxv hb h1 h2 h3 hsrc h4 h5
            exact wp_value (v := v) (w' := w') (by simp [execOp, hop, resolve, hcal, e1, e2, invoke, builtin, h7]) ⟨_, _, μ', h6, h8⟩
           ·exact h.elim
          ·exact h.elim
        ·cases hc
       ·cases hc
      ·cases hc
     ·cases hc
    ·cases hc
   · -- a function by its number
    rename_i f hcal
    cases hq : cOs c.args.toList with
    | none => simp [hq] at hc
    | some q =>
     simp [hq] at hc
     subst hc
     simp only [aVal] at h
     obtain ⟨l1, r1⟩ := cOs_sound hρ hq
     refine wp_call (cargs := c.args.map a.eval) hrep (fun fn g1 g2 g3 => ?_) (by simp at l1 ⊢; exact l1) (fun i hi => ?_) h
     ·have := callFunc_run (P := P) (w := w) (args := c.args.map a.eval) g1 g2 g3
      simp [execOp, hop, resolve, hcal, Deferred.ofValue, Act.eval, invoke] at this ⊢
      exact this
     ·have := r1 i (by simpa using hi)
      rw [← Array.toList_map, Array.getD_toList'] at this
      exact this
   · -- a function value
    rename_i x hx0 hcal
    split at hc
    ·rename_i x' q hx hq
     cases hc
     simp only [aVal] at h
     have hq' := cOs_pw hρ hq
     have hxv := hρ x x' hx
     have hrun : ∀ (f : Nat) (A C : Array Value), a.eval x = .func (.func f) A C → ∀ fn : Func, P.funcs[f]? = some fn → (fn.name == "runtime.NumGoroutine") = false → fn.body.isNone = false →
       (execOp a.eval o).run P w = .ok (.enter f (A ++ c.args.map a.eval ++ C)) w := by
      intro f A C hv fn g1 g2 g3
      have := callFunc_run (P := P) (w := w) (args := A ++ c.args.map a.eval ++ C) g1 g2 g3
      simp only [execOp, hop, resolve, hcal, Deferred.ofValue, hv, Sem.run_bind, Sem.run_pure, Result.andThen_ok, invoke]
      exact this
     split at h
     ·rename_i f A C he
      rw [he] at hxv
      generalize hv : a.eval x = v at hxv
      cases hxv.pure_inv with
      | func _ fA fC _ _ l1 l2 r1 r2 =>
       have p1 : PW w (excl μ H) μ fA (A.map .pure) := PW.pures l1 r1
       have p2 : PW w (excl μ H) μ fC (C.map .pure) := PW.pures l2 r2
       have p3 := (p1.append hq').append p2
       exact wp_call hrep (hrun f fA fC hv) p3.1 p3.2 h
     ·rename_i f A C he
      rw [he] at hxv
      generalize hv : a.eval x = v at hxv
      cases hxv with
      | func _ fA fC _ _ l1 l2 r1 r2 =>
       have p3 : PW w (excl μ H) μ (fA ++ c.args.map a.eval ++ fC) (A ++ q.map (·.ev env) ++ C) := PW.append (PW.append ⟨l1, r1⟩ hq') ⟨l2, r2⟩
       exact wp_call hrep (hrun f fA fC hv) p3.1 p3.2 h
     ·exact h.elim
    ·cases hc
   ·cases hc
  all_goals first
   | (obtain ⟨y, hy, rfl⟩ := Option.map_eq_some_iff.1 hc; exact absurd rfl hm)
   | (exfalso; apply hm; clear hm pureCase h hc0
      repeat' split at hc
      all_goals first
        | (cases hc; done)
        | (cases hc; rfl)
        | (obtain ⟨y, hy, rfl⟩ := Option.map_eq_some_iff.1 hc; rfl))
end
end Go.Vm
/-! The abstract machine, part 13: weakening a state; regions in the order of the text; code. -/
namespace Go.Vm
open Go Go.RowKit
mutual
def S.ren (ρ : Nat → Nat) : S → S
 | .pure v => .pure v
 | .empty => .empty
 | .rsl b off len => .rsl (ρ b) off len
 | .ptr b i off => .ptr (ρ b) i off
 | .pptr v off => .pptr v off
 | .agg cs => .agg (S.rens ρ cs)
 | .func fn f c => .func fn (S.rens ρ f) (S.rens ρ c)
 | .iface t s => .iface t (S.ren ρ s)
 | .tup ss => .tup (S.rens ρ ss)
 | .dead => .dead
def S.rens (ρ : Nat → Nat) : List S → List S
 | [] => []
 | s :: r => S.ren ρ s :: S.rens ρ r
end
mutual
def S.inb (n : Nat) : S → Bool
 | .pure _ | .empty | .pptr _ _ | .dead => true
 | .rsl b _ _ => decide (b < n)
 | .ptr b _ _ => decide (b < n)
 | .agg cs => S.inbs n cs
 | .func _ f c => S.inbs n f && S.inbs n c
 | .iface _ s => S.inb n s
 | .tup ss => S.inbs n ss
def S.inbs (n : Nat) : List S → Bool
 | [] => true
 | s :: r => S.inb n s && S.inbs n r
end
theorem S.rens_eq (ρ : Nat → Nat) (l : List S) : S.rens ρ l = l.map (S.ren ρ) := by
 induction l with
 | nil => rfl
 | cons s r ih => simp [S.rens, ih]
theorem S.inbs_eq (n : Nat) (l : List S) : S.inbs n l = true ↔ ∀ s ∈ l, s.inb n = true := by
 induction l with
 | nil => simp [S.inbs]
 | cons s r ih => simp [S.inbs, ih]
theorem S.ren_isCell (ρ : Nat → Nat) (s : S) : (s.ren ρ).isCell = s.isCell := by cases s <;> simp [S.ren, S.isCell]
theorem S.ren_cells (ρ : Nat → Nat) (s : S) : (s.ren ρ).cells = s.cells.map (S.ren ρ) := by
 cases s <;> simp [S.ren, S.cells, S.rens_eq]
theorem Rep.unren {w : World} {X X' : Nat → Prop} {μ μ' : Mu} {ρ : Nat → Nat} {N : Nat} (hX : ∀ k, X' k → X k) (hμ : ∀ b l, b < N → μ (ρ b) = some l → μ' b = some l) {v : Value} {t : S} (h : Rep w X μ v t) :
  ∀ s, t = s.ren ρ → s.inb N = true → Rep w X' μ' v s := by
 induction h with
 | pure v d h =>
  intro s hs hb
  cases s <;> simp [S.ren] at hs
  subst hs
  exact .pure _ _ (h.less hX)
 | empty a ha =>
  intro s hs hb
  cases s <;> simp [S.ren] at hs
  exact .empty a ha
 | rsl b off len cap l hl hv hc hm hr =>
  intro s hs hb
  cases s <;> simp [S.ren] at hs
  obtain ⟨rfl, rfl, rfl⟩ := hs
  exact .rsl _ _ _ cap l (hμ _ _ (by simpa [S.inb] using hb) hl) hv hc hm hr
 | rslz a ha b off l hl =>
  intro s hs hb
  cases s <;> simp [S.ren] at hs
  obtain ⟨rfl, rfl, h3⟩ := hs
  subst h3
  exact .rslz a ha _ _ l (hμ _ _ (by simpa [S.inb] using hb) hl)
 | ptr b i off l hl hv =>
  intro s hs hb
  cases s <;> simp [S.ren] at hs
  obtain ⟨rfl, rfl, rfl⟩ := hs
  exact .ptr _ _ _ l (hμ _ _ (by simpa [S.inb] using hb) hl) hv
 | pptr blk o d off f hz hx hcell hw hr =>
  intro s hs hb
  cases s <;> simp [S.ren] at hs
  obtain ⟨rfl, rfl⟩ := hs
  exact .pptr blk o _ _ f hz (fun h => hx (hX _ h)) hcell hw (fun j hj => (hr j hj).less hX)
 | agg cs ss hl hc _ ih =>
  intro s hs hb
  cases s <;> simp [S.ren, S.rens_eq] at hs
  rename_i q
  subst hs
  simp only [S.inb] at hb
  rw [S.inbs_eq] at hb
  refine .agg cs q (by simpa using hl) (fun s hs => by have := hc (s.ren ρ) (List.mem_map_of_mem hs); rwa [S.ren_isCell] at this) fun i hi => ?_
  refine ih i (by simpa using hi) _ ?_ (hb _ (by rw [List.getD_eq_getElem?_getD, List.getElem?_eq_getElem hi]; exact List.getElem_mem _))
  simp [List.getD_eq_getElem?_getD, List.getElem?_map, List.getElem?_eq_getElem hi]
 | func fn f c fs cs h1 h2 _ _ ih1 ih2 =>
  intro s hs hb
  cases s <;> simp [S.ren, S.rens_eq] at hs
  rename_i q r
  obtain ⟨rfl, rfl, rfl⟩ := hs
  simp only [S.inb, Bool.and_eq_true] at hb
  rw [S.inbs_eq, S.inbs_eq] at hb
  refine .func _ f c q r (by simpa using h1) (by simpa using h2) (fun i hi => ?_) (fun i hi => ?_)
  ·refine ih1 i (by simpa using hi) _ ?_ (hb.1 _ (by rw [List.getD_eq_getElem?_getD, List.getElem?_eq_getElem hi]; exact List.getElem_mem _))
   simp [List.getD_eq_getElem?_getD, List.getElem?_map, List.getElem?_eq_getElem hi]
  ·refine ih2 i (by simpa using hi) _ ?_ (hb.2 _ (by rw [List.getD_eq_getElem?_getD, List.getElem?_eq_getElem hi]; exact List.getElem_mem _))
   simp [List.getD_eq_getElem?_getD, List.getElem?_map, List.getElem?_eq_getElem hi]
 | iface t v s0 _ ih =>
  intro s hs hb
  cases s <;> simp [S.ren] at hs
  obtain ⟨rfl, rfl⟩ := hs
  exact .iface _ _ _ (ih _ rfl (by simpa [S.inb] using hb))
 | tup vs ss hl _ ih =>
  intro s hs hb
  cases s <;> simp [S.ren, S.rens_eq] at hs
  rename_i q
  subst hs
  simp only [S.inb] at hb
  rw [S.inbs_eq] at hb
  refine .tup vs q (by simpa using hl) fun i hi => ?_
  refine ih i (by simpa using hi) _ ?_ (hb _ (by rw [List.getD_eq_getElem?_getD, List.getElem?_eq_getElem hi]; exact List.getElem_mem _))
  simp [List.getD_eq_getElem?_getD, List.getElem?_map, List.getElem?_eq_getElem hi]
 | dead v =>
  intro s hs hb
  cases s <;> simp [S.ren] at hs
  exact .dead v
/-- A state that says less: under a renaming of rows, with rows dropped or frozen, slots forgotten. -/
structure Weak (kp : Nat) (env : Env) (H : Heap) (E : Env) (HE : Heap) (ρ : Nat → Nat) : Prop where
 inj : ∀ i j, i < HE.length → j < HE.length → ρ i = ρ j → i = j
 fix : ∀ i, i < kp → i < HE.length ∧ ρ i = i
 env : ∀ p ∈ E, p.2.inb HE.length = true ∧ p.2.ren ρ = env.get p.1
 row : ∀ (b : Nat) (r' : Row), HE[b]? = some r' → r'.st = .dead ∨ ∃ r, H[ρ b]? = some r ∧ r.st ≠ .dead ∧ (r'.st = r.st ∨ r'.st = .frozen) ∧ r'.size = r.size ∧ r.es = r'.es.map (S.ren ρ) ∧ ∀ e ∈ r'.es, e.inb HE.length = true
theorem Env.get_mem {E : Env} {d : Nat} : E.get d = .dead ∨ (d, E.get d) ∈ E := by
 induction E with
 | nil => exact .inl rfl
 | cons p r ih =>
  obtain ⟨k, s⟩ := p
  rw [Env.get_cons]
  by_cases h : k = d
  ·rw [if_pos h]; subst h; exact .inr (by simp)
  ·rw [if_neg h]
   exact ih.imp id (fun h => by simp [h])
def Mu.re (μ : Mu) (ρ : Nat → Nat) (N : Nat) : Mu := ⟨fun b => if b < N then μ (ρ b) else none, μ.xo⟩
theorem S.inb_cells {n : Nat} {e : S} (h : e.inb n = true) : ∀ s ∈ e.cells, s.inb n = true := by
 intro s hs
 cases e with
 | pure v =>
  simp only [S.cells, List.mem_map] at hs
  obtain ⟨v', _, rfl⟩ := hs
  rfl
 | agg cs =>
  simp only [S.inb] at h
  rw [S.inbs_eq] at h
  exact h s hs
 | _ => simp [S.cells] at hs; subst hs; exact h
theorem HRep.weak {w : World} {μ : Mu} {kp : Nat} {env E : Env} {H HE : Heap} {ρ : Nat → Nat} (h : HRep w μ H) (hw : Weak kp env H E HE ρ) :
  HRep w (μ.re ρ HE.length) HE ∧ (∀ k, owned (μ.re ρ HE.length) HE k → owned μ H k) := by
 have hμ : ∀ b l, b < HE.length → μ (ρ b) = some l → (μ.re ρ HE.length) b = some l := fun b l hb hl => by simp [Mu.re, hb, hl]
 have hμ' : ∀ b l, (μ.re ρ HE.length) b = some l → b < HE.length ∧ μ (ρ b) = some l := by
  intro b l hl
  simp only [Mu.re] at hl
  split at hl
  ·exact ⟨by assumption, hl⟩
  ·cases hl
 have liveOf : ∀ (b : Nat) (r' : Row), HE[b]? = some r' → r'.st = .live → ∃ r, H[ρ b]? = some r ∧ r.st = .live := by
  intro b r' hb hst
  rcases hw.row b r' hb with h1 | ⟨r, h1, h2, h3, _⟩
  ·rw [hst] at h1; cases h1
  ·rcases h3 with h3 | h3
   ·exact ⟨r, h1, by rw [← h3, hst]⟩
   ·rw [hst] at h3; cases h3
 have ho : ∀ k, owned (μ.re ρ HE.length) HE k → owned μ H k := by
  rintro k ⟨b, r', l, hb, hst, hl, hv, rfl⟩
  obtain ⟨r, h1, h2⟩ := liveOf b r' hb hst
  exact ⟨ρ b, r, l, h1, h2, (hμ' b l hl).2, hv, rfl⟩
 have hX : ∀ k, excl (μ.re ρ HE.length) HE k → excl μ H k := fun k hk => hk.imp (ho k) id
 refine ⟨⟨fun b l hl => (hμ' b l hl).1, fun k hk => ⟨(h.xo k hk).1, fun h1 => (h.xo k hk).2 (ho k h1)⟩, ?_, ?_⟩, ho⟩
 ·intro b r' l hb hd hl
  rcases hw.row b r' hb with h1 | ⟨r, h1, h2, h3, h4, h5, h6⟩
  ·exact absurd h1 hd
  ·obtain ⟨hbl, hl'⟩ := hμ' b l hl
   have rr := h.row (ρ b) r l h1 h2 hl'
   have hlen : r.es.length = r'.es.length := by rw [h5]; simp
   refine ⟨by rw [h4, rr.size], rr.pos, (fun hv => ?_), (fun e he => ?_), (fun e he s hs => ?_), (fun hv => by rw [← hlen]; exact rr.fits hv), (fun hv i j hi hj => ?_), (fun hv hst => ?_), (fun hv hst hne hx => ?_)⟩
   ·have := rr.virt hv
    rw [h5] at this
    exact List.map_eq_nil_iff.1 this
   ·have := rr.lens (e.ren ρ) (by rw [h5]; exact List.mem_map_of_mem he)
    rw [S.ren_cells] at this
    simpa using this
   ·have := rr.cellOk (e.ren ρ) (by rw [h5]; exact List.mem_map_of_mem he) (s.ren ρ) (by rw [S.ren_cells]; exact List.mem_map_of_mem hs)
    rwa [S.ren_isCell] at this
   ·obtain ⟨v, h7, h8⟩ := rr.cells hv i j (by omega) hj
    have hi' : i < r'.es.length := hi
    have hm : r'.es[i] ∈ r'.es := List.getElem_mem _
    have he : r'.es.getD i .dead = r'.es[i] := by rw [List.getD_eq_getElem?_getD, List.getElem?_eq_getElem hi']; rfl
    have hcl : (r'.es[i]).cells.length = l.size := by
     have := rr.lens ((r'.es[i]).ren ρ) (by rw [h5]; exact List.mem_map_of_mem hm)
     rw [S.ren_cells] at this
     simpa using this
    refine ⟨v, h7, h8.unren hX hμ _ ?_ ?_⟩
    ·rw [h5, he]
     simp only [List.getD_eq_getElem?_getD, List.getElem?_map, List.getElem?_eq_getElem hi', Option.map_some, Option.getD_some, S.ren_cells]
     rw [List.getElem?_eq_getElem (by omega)]
     rfl
    ·rw [he]
     refine S.inb_cells (h6 _ hm) _ ?_
     rw [List.getD_eq_getElem?_getD, List.getElem?_eq_getElem (by omega)]
     exact List.getElem_mem _
   ·rcases h3 with h3 | h3
    ·exact rr.live hv (by rw [← h3, hst])
    ·rw [hst] at h3; cases h3
   ·have hne' : r.es ≠ [] := by rw [h5]; simpa using hne
    cases hrs : r.st with
    | dead => exact h2 hrs
    | frozen => exact rr.frozen hv hrs hne' (hX _ hx)
    | live =>
     rcases hx with ⟨b', r2', l2, g1, g2, g3, g4, g5⟩ | hx
     ·obtain ⟨r2, g6, g7⟩ := liveOf b' r2' g1 g2
      have := h.inj (ρ b') (ρ b) r2 r l2 l g6 h1 g7 hrs (hμ' b' l2 g3).2 hl' g4 hv g5
      have hbb := hw.inj b' b (hμ' b' l2 g3).1 hbl this
      subst hbb
      rw [hb] at g1
      cases g1
      rw [hst] at g2; cases g2
     ·exact (h.xo _ hx).2 ⟨ρ b, r, l, h1, hrs, hl', hv, rfl⟩
 ·intro b b' r r' l l' hb hb' hst hst' hl hl' hv hv' heq
  obtain ⟨r1, g1, g2⟩ := liveOf b r hb hst
  obtain ⟨r2, g3, g4⟩ := liveOf b' r' hb' hst'
  exact hw.inj b b' (hμ' b l hl).1 (hμ' b' l' hl').1 (h.inj (ρ b) (ρ b') r1 r2 l l' g1 g3 g2 g4 (hμ' b l hl).2 (hμ' b' l' hl').2 hv hv' heq)
theorem Rel.weak {w0 : World} {X0 : Nat → Prop} {μ0 : Mu} {n kp : Nat} {env E : Env} {H HE : Heap} {a : Act} {w : World} {μ : Mu} {ρ : Nat → Nat} (h : Rel w0 X0 μ0 n env H a w μ) (hk : ∀ (b : Nat) (l : Loc), μ0 b = some l → b < kp) (hw : Weak kp env H E HE ρ) :
  Rel w0 X0 μ0 n E HE a w (μ.re ρ HE.length) := by
 obtain ⟨h1, h2⟩ := h.heap.weak hw
 refine ⟨h.tmps, h.defers, fun d => ?_, h1, h.fr, fun k hk' => h.own k (h2 k hk'), fun b l hb => ?_, h.xo⟩
 ·rcases Env.get_mem (E := E) (d := d) with hd | hd
  ·rw [hd]; exact .dead _
  ·obtain ⟨h3, h4⟩ := hw.env _ hd
   exact (h.env d).unren (fun k hk' => hk'.imp (h2 k) id) (fun b l hb hl => by simp [Mu.re, hb, hl]) _ h4.symm h3
 ·obtain ⟨h3, h4⟩ := hw.fix b (hk b l hb)
  simp [Mu.re, h3, h4, h.pre b l hb]
/-- A slice that has no room gets a row of its own name. -/
theorem Rel.virt {w0 : World} {X0 : Nat → Prop} {μ0 : Mu} {n : Nat} {env : Env} {H : Heap} {a : Act} {w : World} {μ : Mu} (h : Rel w0 X0 μ0 n env H a w μ) {d : Nat} (hd : env.get d = .empty) (size : Nat) (hs : 0 < size) :
  ∃ μ', Rel w0 X0 μ0 n ((d, .rsl H.length 0 0) :: env) (H ++ [⟨[], size, .live⟩]) a w μ' := by
 have he := h.env d
 rw [hd] at he
 obtain ⟨ad, hv, had⟩ := he.empty_inv
 obtain ⟨μ', hst⟩ := virt_step h.heap hs (H1 := H) rfl (fun _ _ h _ => h) had
 have h2 := h.step_none hst
 refine ⟨μ', h2.tmps, h2.defers, fun d' => ?_, h2.heap, h2.fr, h2.own, h2.pre, h2.xo⟩
 rw [Env.get_cons]
 by_cases hdd : d = d'
 ·subst hdd
  rw [if_pos rfl, hv]
  exact hst.val
 ·rw [if_neg hdd]
  exact h2.env d'
/-! rows that are written no more -/
def frz1 (b : Nat) (H : Heap) : Heap := H.mapIdx fun i r => if i = b ∧ r.st = .live then ⟨r.es, r.size, .frozen⟩ else r
theorem frz1_get {b : Nat} {H : Heap} {i : Nat} {r : Row} (h : (frz1 b H)[i]? = some r) : ∃ r0, H[i]? = some r0 ∧ r.es = r0.es ∧ r.size = r0.size ∧ (r.st = .live → r = r0) ∧ (r.st = .frozen → r0.st = .frozen ∨ r0.st = .live) ∧ (r.st = .dead ↔ r0.st = .dead) := by
 simp only [frz1, List.getElem?_mapIdx] at h
 obtain ⟨r0, h1, rfl⟩ := Option.map_eq_some_iff.1 h
 refine ⟨r0, h1, ?_⟩
 split
 ·rename_i hc; simp [hc.2]
 ·simp; intro h; exact .inl h
theorem owned_frz1 {μ : Mu} {b : Nat} {H : Heap} {k : Nat} (h : owned μ (frz1 b H) k) : owned μ H k := by
 obtain ⟨i, r, l, hb, hst, hl, hv, rfl⟩ := h
 obtain ⟨r0, h1, _, _, h4, _⟩ := frz1_get hb
 obtain rfl := h4 hst
 exact ⟨i, r, l, h1, hst, hl, hv, rfl⟩
theorem HRep.frz1 {w : World} {μ : Mu} {H : Heap} {b : Nat} (h : HRep w μ H) : HRep w μ (frz1 b H) := by
 have hX : ∀ k, excl μ (Vm.frz1 b H) k → excl μ H k := fun k hk => hk.imp owned_frz1 id
 refine ⟨fun i l hl => by have := h.dom i l hl; simpa [Vm.frz1] using this, fun k hk => ⟨(h.xo k hk).1, fun h2 => (h.xo k hk).2 (owned_frz1 h2)⟩, ?_, ?_⟩
 ·intro i r l hb hd hl
  obtain ⟨r0, h1, h2, h3, h4, h5, h6⟩ := frz1_get hb
  have hd0 : r0.st ≠ .dead := fun e => hd (h6.2 e)
  have rr := h.row i r0 l h1 hd0 hl
  refine ⟨by rw [h3, rr.size], rr.pos, fun hv => by rw [h2]; exact rr.virt hv, fun e he => rr.lens e (by rw [← h2]; exact he), fun e he => rr.cellOk e (by rw [← h2]; exact he), fun hv => by rw [h2]; exact rr.fits hv, fun hv i j hi hj => ?_, fun hv hst => ?_, fun hv hst hne hx => ?_⟩
  ·rw [h2] at hi ⊢
   obtain ⟨v, g1, g2⟩ := rr.cells hv i j hi hj
   exact ⟨v, g1, g2.keeps (fun _ _ _ => rfl) (fun k hk => .inl (hX k hk)) (fun _ _ h => h)⟩
  ·obtain rfl := h4 hst
   exact rr.live hv hst
  ·rcases h5 hst with h7 | h7
   ·exact rr.frozen hv h7 (by rw [← h2]; exact hne) (hX _ hx)
   · -- the row was live: its block is no more among those that are written
    rcases hx with ⟨i', r', l', g1, g2, g3, g4, g5⟩ | hx
    ·obtain ⟨r0', k1, _, _, k4, _⟩ := frz1_get g1
     obtain rfl := k4 g2
     have := h.inj i' i r' r0 l' l k1 h1 g2 h7 g3 hl g4 hv g5
     subst this
     rw [hb] at g1
     cases g1
     rw [hst] at g2; cases g2
    ·exact (h.xo _ hx).2 ⟨i, r0, l, h1, h7, hl, hv, rfl⟩
 ·intro i i' r r' l l' hb hb' hst hst'
  obtain ⟨r0, h1, _, _, h4, _⟩ := frz1_get hb
  obtain ⟨r0', h1', _, _, h4', _⟩ := frz1_get hb'
  obtain rfl := h4 hst
  obtain rfl := h4' hst'
  exact h.inj i i' r r' l l' h1 h1' hst hst'
theorem Rel.frz1 {w0 : World} {X0 : Nat → Prop} {μ0 : Mu} {n : Nat} {env : Env} {H : Heap} {a : Act} {w : World} {μ : Mu} (b : Nat) (h : Rel w0 X0 μ0 n env H a w μ) : Rel w0 X0 μ0 n env (Vm.frz1 b H) a w μ :=
 ⟨h.tmps, h.defers, fun d => (h.env d).keeps (fun _ _ _ => rfl) (fun _ hk => .inl (hk.imp owned_frz1 id)) (fun _ _ h => h), h.heap.frz1, h.fr, fun k hk => h.own k (owned_frz1 hk), h.pre, h.xo⟩
/-- a cell that holds an empty slice holds one of a row of its own -/
theorem HRep.recell {w : World} {μ : Mu} {H : Heap} (h : HRep w μ H) {b i nb : Nat} {r : Row} {e e' : S} {l0 : Loc} (hb : H[b]? = some r) (he : r.es[i]? = some e) (hlen : e'.cells.length = e.cells.length)
  (hc : ∀ j, e'.cells.getD j .dead = e.cells.getD j .dead ∨ (e.cells.getD j .dead = .empty ∧ e'.cells.getD j .dead = .rsl nb 0 0)) (hnb : μ nb = some l0) : HRep w μ (H.set b ⟨r.es.set i e', r.size, r.st⟩) := by
 have hblt := (List.getElem?_eq_some_iff.1 hb).1
 have get : ∀ (b' : Nat) (r' : Row), (H.set b ⟨r.es.set i e', r.size, r.st⟩)[b']? = some r' → (b' = b ∧ r' = ⟨r.es.set i e', r.size, r.st⟩) ∨ (b' ≠ b ∧ H[b']? = some r') := by
  intro b' r' hg
  by_cases hbb : b = b'
  ·subst hbb
   rw [List.getElem?_set_self hblt] at hg
   exact .inl ⟨rfl, (Option.some.inj hg).symm⟩
  ·rw [List.getElem?_set_ne hbb] at hg
   exact .inr ⟨Ne.symm hbb, hg⟩
 have old : ∀ (b' : Nat) (r' : Row), (H.set b ⟨r.es.set i e', r.size, r.st⟩)[b']? = some r' → ∃ r0, H[b']? = some r0 ∧ r0.st = r'.st := by
  intro b' r' hg
  rcases get b' r' hg with ⟨rfl, rfl⟩ | ⟨_, hg⟩
  ·exact ⟨r, hb, rfl⟩
  ·exact ⟨r', hg, rfl⟩
 have ho : ∀ k, owned μ (H.set b ⟨r.es.set i e', r.size, r.st⟩) k → owned μ H k := by
  rintro k ⟨b', r', l, h1, h2, h3, h4, rfl⟩
  obtain ⟨r0, g1, g2⟩ := old b' r' h1
  exact ⟨b', r0, l, g1, by rw [g2, h2], h3, h4, rfl⟩
 have hX : ∀ k, excl μ (H.set b ⟨r.es.set i e', r.size, r.st⟩) k → excl μ H k := fun k hk => hk.imp (ho k) id
 have hlow : ∀ {v : Value} {s : S}, Rep w (excl μ H) μ v s → Rep w (excl μ (H.set b ⟨r.es.set i e', r.size, r.st⟩)) μ v s := fun hr => hr.keeps (fun _ _ _ => rfl) (fun k hk => .inl (hX k hk)) (fun _ _ h => h)
 have hilt := (List.getElem?_eq_some_iff.1 he).1
 have hmem : e ∈ r.es := List.mem_of_getElem? he
 have hes : ∀ k, k < r.es.length → (r.es.set i e').getD k .dead = if k = i then e' else r.es.getD k .dead := by
  intro k hk
  simp only [List.getD_eq_getElem?_getD]
  by_cases hki : k = i
  ·subst hki; simp [hk]
  ·rw [List.getElem?_set_ne (Ne.symm hki), if_neg hki]
 refine ⟨fun b' l hl => by have := h.dom b' l hl; simpa using this, fun k hk => ⟨(h.xo k hk).1, fun h2 => (h.xo k hk).2 (ho k h2)⟩, ?_, ?_⟩
 ·intro b' r' l hg hd hl
  rcases get b' r' hg with ⟨rfl, rfl⟩ | ⟨_, hg⟩
  ·have rr := h.row b' r l hb hd hl
   refine ⟨rr.size, rr.pos, fun hv => ?_, fun x hx => ?_, fun x hx s hs => ?_, fun hv => ?_, fun hv k j hk hj => ?_, fun hv hst => rr.live hv hst, fun hv hst hne hx => ?_⟩
   ·have := rr.virt hv
    rw [this] at hilt
    simp at hilt
   ·rcases List.mem_or_eq_of_mem_set hx with hx | rfl
    ·exact rr.lens x hx
    ·rw [hlen]; exact rr.lens e hmem
   ·rcases List.mem_or_eq_of_mem_set hx with hx | rfl
    ·exact rr.cellOk x hx s hs
    ·obtain ⟨j, hj, rfl⟩ := List.mem_iff_getElem.1 hs
     have hget : x.cells.getD j .dead = x.cells[j] := by rw [List.getD_eq_getElem?_getD, List.getElem?_eq_getElem hj]; rfl
     rcases hc j with h1 | ⟨_, h1⟩
     ·rw [← hget, h1, List.getD_eq_getElem?_getD, List.getElem?_eq_getElem (by omega)]
      exact rr.cellOk e hmem _ (List.getElem_mem _)
     ·rw [← hget, h1]; rfl
   ·have := rr.fits hv
    simpa using this
   ·have hk' : k < r.es.length := by simpa using hk
    obtain ⟨v, g1, g2⟩ := rr.cells hv k j hk' hj
    refine ⟨v, g1, ?_⟩
    rw [hes k hk']
    by_cases hki : k = i
    ·subst hki
     rw [if_pos rfl]
     rw [show r.es.getD k .dead = e by rw [List.getD_eq_getElem?_getD, he]; rfl] at g2
     rcases hc j with h1 | ⟨h1, h2⟩
     ·rw [h1]; exact hlow g2
     ·rw [h1] at g2
      rw [h2]
      obtain ⟨ad, rfl, had⟩ := g2.empty_inv
      exact .rslz ad had _ _ l0 hnb
    ·rw [if_neg hki]; exact hlow g2
   ·exact rr.frozen hv hst (by intro e0; apply hne; rw [e0]; rfl) (hX _ hx)
  ·have rr := h.row b' r' l hg hd hl
   exact ⟨rr.size, rr.pos, rr.virt, rr.lens, rr.cellOk, rr.fits, fun hv k j hk hj => by obtain ⟨v, g1, g2⟩ := rr.cells hv k j hk hj; exact ⟨v, g1, hlow g2⟩, rr.live, fun hv hst hne hx => rr.frozen hv hst hne (hX _ hx)⟩
 ·intro b1 b2 r1 r2 l1 l2 h1 h2 h3 h4
  obtain ⟨q1, g1, g2⟩ := old b1 r1 h1
  obtain ⟨q2, g3, g4⟩ := old b2 r2 h2
  exact h.inj b1 b2 q1 q2 l1 l2 g1 g3 (by rw [g2, h3]) (by rw [g4, h4])
theorem Rel.virtc {w0 : World} {X0 : Nat → Prop} {μ0 : Mu} {n : Nat} {env : Env} {H : Heap} {a : Act} {w : World} {μ : Mu} (h : Rel w0 X0 μ0 n env H a w μ) {b i : Nat} {r : Row} {e e' : S} (size : Nat) (hs : 0 < size) (hb : H[b]? = some r) (he : r.es[i]? = some e)
  (hlen : e'.cells.length = e.cells.length) (hc : ∀ j, e'.cells.getD j .dead = e.cells.getD j .dead ∨ (e.cells.getD j .dead = .empty ∧ e'.cells.getD j .dead = .rsl H.length 0 0)) :
  ∃ μ', Rel w0 X0 μ0 n env (H.set b ⟨r.es.set i e', r.size, r.st⟩ ++ [⟨[], size, .live⟩]) a w μ' := by
 obtain ⟨μ', hst⟩ := virt_step h.heap hs (H1 := H) rfl (fun _ _ h _ => h) (a := none) (fun _ h => by cases h)
 have h2 := h.step_none hst
 obtain ⟨l0, hl0⟩ : ∃ l0, μ' H.length = some l0 := by
  cases hst.val with
  | rslz _ _ _ _ l hl => exact ⟨l, hl⟩
 have hblt := (List.getElem?_eq_some_iff.1 hb).1
 have hb' : (H ++ [(⟨[], size, .live⟩ : Row)])[b]? = some r := by rw [List.getElem?_append_left hblt]; exact hb
 have hset : (H ++ [(⟨[], size, .live⟩ : Row)]).set b ⟨r.es.set i e', r.size, r.st⟩ = H.set b ⟨r.es.set i e', r.size, r.st⟩ ++ [⟨[], size, .live⟩] := by rw [List.set_append_left _ _ hblt]
 have h3 := h2.heap.recell (i := i) hb' he hlen hc hl0
 rw [hset] at h3
 have ho : ∀ k, owned μ' (H.set b ⟨r.es.set i e', r.size, r.st⟩ ++ [⟨[], size, .live⟩]) k → owned μ' (H ++ [⟨[], size, .live⟩]) k := by
  rw [← hset]
  rintro k ⟨b', r', l, g1, g2, g3, g4, rfl⟩
  by_cases hbb : b = b'
  ·subst hbb
   rw [List.getElem?_set_self (by simp; omega)] at g1
   cases g1
   exact ⟨b, r, l, hb', g2, g3, g4, rfl⟩
  ·rw [List.getElem?_set_ne hbb] at g1
   exact ⟨b', r', l, g1, g2, g3, g4, rfl⟩
 exact ⟨μ', h2.tmps, h2.defers, fun d => (h2.env d).keeps (fun _ _ _ => rfl) (fun k hk => .inl (hk.imp (ho k) id)) (fun _ _ h => h), h3, h2.fr, fun k hk => h2.own k (ho k hk), h2.pre, h2.xo⟩
/-- steps that touch no memory -/
inductive Up (kp : Nat) (K : Env → Heap → Prop) : Env → Heap → Prop where
 | here {env : Env} {H : Heap} (h : K env H) : Up kp K env H
 | weak {env : Env} {H : Heap} (E : Env) (HE : Heap) (ρ : Nat → Nat) (hw : Weak kp env H E HE ρ) (h : Up kp K E HE) : Up kp K env H
 | virt {env : Env} {H : Heap} (d size : Nat) (hd : env.get d = .empty) (hs : 0 < size) (h : Up kp K ((d, .rsl H.length 0 0) :: env) (H ++ [⟨[], size, .live⟩])) : Up kp K env H
 | virtc {env : Env} {H : Heap} (b i size : Nat) (r : Row) (e e' : S) (hs : 0 < size) (hb : H[b]? = some r) (he : r.es[i]? = some e) (hlen : e'.cells.length = e.cells.length)
   (hc : ∀ j, e'.cells.getD j .dead = e.cells.getD j .dead ∨ (e.cells.getD j .dead = .empty ∧ e'.cells.getD j .dead = .rsl H.length 0 0)) (h : Up kp K env (H.set b ⟨r.es.set i e', r.size, r.st⟩ ++ [⟨[], size, .live⟩])) : Up kp K env H
 | frz {env : Env} {H : Heap} (b : Nat) (h : Up kp K env (Vm.frz1 b H)) : Up kp K env H
theorem Up.rel {kp : Nat} {K : Env → Heap → Prop} {env : Env} {H : Heap} (hu : Up kp K env H) {w0 : World} {X0 : Nat → Prop} {μ0 : Mu} {n : Nat} (hk : ∀ (b : Nat) (l : Loc), μ0 b = some l → b < kp) {a : Act} {w : World} :
  ∀ {μ : Mu}, Rel w0 X0 μ0 n env H a w μ → ∃ E HE μ', K E HE ∧ Rel w0 X0 μ0 n E HE a w μ' := by
 induction hu with
 | here h => exact fun hr => ⟨_, _, _, h, hr⟩
 | weak E HE ρ hw _ ih => exact fun hr => ih (hr.weak hk hw)
 | virt d size hd hs _ ih =>
  intro μ hr
  obtain ⟨μ', hr'⟩ := hr.virt hd size hs
  exact ih hr'
 | virtc b i size r e e' hs hb he hlen hc _ ih =>
  intro μ hr
  obtain ⟨μ', hr'⟩ := hr.virtc size hs hb he hlen hc
  exact ih hr'
 | frz b _ ih => exact fun hr => ih (hr.frz1 b)
theorem Up.mono {kp : Nat} {K K' : Env → Heap → Prop} (hK : ∀ e h, K e h → K' e h) {env : Env} {H : Heap} (hu : Up kp K env H) : Up kp K' env H := by
 induction hu with
 | here h => exact .here (hK _ _ h)
 | weak E HE ρ hw _ ih => exact .weak E HE ρ hw ih
 | virt d size hd hs _ ih => exact .virt d size hd hs ih
 | virtc b i size r e e' hs hb he hlen hc _ ih => exact .virtc b i size r e e' hs hb he hlen hc ih
 | frz b _ ih => exact .frz b ih
end Go.Vm
/-! The abstract machine, part 14: code. -/
namespace Go.Vm
open Go Go.RowKit
inductive Ex where
 | normal
 | exit (id : Nat)
 | ret
 deriving DecidableEq, Inhabited
def Ex.up : Ex → Exit
 | .normal => .normal
 | .exit i => .exit i
 | .ret => .ret
inductive AC where
 | skip
 | reg (is : List AI)
 | regq (pre post : List AI)
 | regs (core : List AI) (st : AI) (lates post : List AI)
 | regm (core sts lates : List AI)
 | regd (pre mid pre2 post : List AI)
 | rege (pre mid lates pre2 post : List AI)
 | seq (a b : AC)
 | cond (c : O) (a b : AC)
 | block (id : Nat) (c : AC)
 | loop (c : AC)
 | exit (id : Nat)
 | ret
 deriving Inhabited
/-- a region that draws its order -/
def AC.isReg : AC → Bool
 | .regq _ _ | .regs _ _ _ _ | .regm _ _ _ | .regd _ _ _ _ | .rege _ _ _ _ _ => true
 | _ => false
abbrev APost := Ex → Env → Heap → Prop
def thenA (next : Env → Heap → Prop) (Q : APost) : APost
 | .normal => next
 | .exit i => Q (.exit i)
 | .ret => Q .ret
def blockA (id : Nat) (Q : APost) : APost
 | .normal => Q .normal
 | .exit i => if i = id then Q .normal else Q (.exit i)
 | .ret => Q .ret
/-- a loop: an invariant over a type of one's own, and a measure -/
def LoopW (kp : Nat) (W : APost → Env → Heap → Prop) (Q : APost) (env : Env) (H : Heap) : Prop :=
 ∃ (T : Type) (I : T → Env → Heap → Prop) (m : T → Nat), Up kp (fun e h => ∃ x, I x e h) env H ∧
  ∀ x e h, I x e h → W (thenA (Up kp fun e1 h1 => ∃ y, I y e1 h1 ∧ m y < m x) Q) e h
/-- a region whose operations may be carried out in several orders (part 15) -/
def aQop (P : Program) (op : AOp) (K : S → Heap → Prop) (env : Env) (H : Heap) (CQ : Nat → List S → Heap → (S → Prop) → Prop) : Prop :=
 match op with
 | .pick c x y => match c.ev env with
  | .pure (.bool t) => (t = true → K (x.ev env) H) ∧ (t = false → K (y.ev env) H)
  | _ => False
 | .box x => aVal P env H (.box x) K
 | .bslice n ps => aVal P env H (.bslice n ps) K
 | .mksl n b z x y => aVal P env H (.mksl n b z x y) K
 | .call f args => CQ f (args.map (·.ev env)) H fun r => K r H
 | .callv fv args => match fv.ev env with
  | .pure (.func (.func f) a c) => CQ f (a.map .pure ++ args.map (·.ev env) ++ c.map .pure) H fun r => K r H
  | .func (.func f) a c => CQ f (a ++ args.map (·.ev env) ++ c) H fun r => K r H
  | _ => False
 | op => match aFun env H op with
  | some s => K s H
  | none => False
def aWp (P : Program) (kp : Nat) (RQ : AC → (Env → Heap → Prop) → Env → Heap → Prop) : AC → APost → Env → Heap → Prop
 | .skip, Q => Q .normal
 | .reg is, Q => aOps P is (Q .normal)
 | .regq pre post, Q => RQ (.regq pre post) (Q .normal)
 | .regs core st lates post, Q => RQ (.regs core st lates post) (Q .normal)
 | .regm core sts lates, Q => RQ (.regm core sts lates) (Q .normal)
 | .regd a b c d, Q => RQ (.regd a b c d) (Q .normal)
 | .rege a b l c d, Q => RQ (.rege a b l c d) (Q .normal)
 | .seq a b, Q => aWp P kp RQ a (thenA (Up kp (aWp P kp RQ b Q)) Q)
 | .cond c a b, Q => fun env H => match c.ev env with
  | .pure (.bool t) => (t = true → aWp P kp RQ a Q env H) ∧ (t = false → aWp P kp RQ b Q env H)
  | _ => False
 | .block id c, Q => aWp P kp RQ c (blockA id Q)
 | .loop c, Q => LoopW kp (aWp P kp RQ c) Q
 | .exit id, Q => Q (.exit id)
 | .ret, Q => Q .ret
/-! ### the translation -/
def cIns (P : Program) (n : Nat) (ops : Array Oper) (o : Oper) : Option AI :=
 match cOp P o with
 | none => none
 | some op => if (o.dst.all fun d => decide (d < n)) = true then (match o.guard with
  | none => some ⟨o.dst, none, op⟩
  | some (j, b) => match (ops[j]?).bind (·.dst) with
   | some t => if t < n then some ⟨o.dst, some (t, b), op⟩ else none
   | none => none) else none
def cReg (P : Program) (n : Nat) (ops : Array Oper) : List Oper → Option (List AI)
 | [] => some []
 | o :: r => match cIns P n ops o, cReg P n ops r with
  | some i, some q => some (i :: q)
  | _, _ => none
def cCode (P : Program) (n : Nat) (RC : Array Oper → List AI → Option AC) : Code → Option AC
 | .skip => some .skip
 | .region _ ops draw => match cReg P n ops ops.toList with
  | some is => if draw = true then RC ops is else some (.reg is)
  | none => none
 | .seq a b => match cCode P n RC a, cCode P n RC b with
  | some a, some b => some (.seq a b)
  | _, _ => none
 | .cond c a b => match cO c, cCode P n RC a, cCode P n RC b with
  | some c, some a, some b => some (.cond c a b)
  | _, _, _ => none
 | .block id c => (cCode P n RC c).map (.block id)
 | .loop c => (cCode P n RC c).map .loop
 | .exit id => some (.exit id)
 | .label _ => some .skip
 | .scope c => cCode P n RC c
 | .ret => some .ret
 | _ => none
/-! ### regions in the order of the text -/
section
variable {P : Program} {w0 : World} {X0 : Nat → Prop} {μ0 : Mu} {n : Nat}
/-- the state behind: any place for the rows -/
def Lands (w0 : World) (X0 : Nat → Prop) (μ0 : Mu) (n : Nat) (K : Env → Heap → Prop) (a : Act) (w : World) : Prop := ∃ env H μ, K env H ∧ Rel w0 X0 μ0 n env H a w μ
theorem Rel.put {env : Env} {H H' : Heap} {a : Act} {w w' : World} {μ μ' : Mu} {v : Value} {s : S} (h : Rel w0 X0 μ0 n env H a w μ) (st : Step w μ H w' μ' H' v s) {d : Option Nat} (hd : (d.all fun d => decide (d < n)) = true) :
  Rel w0 X0 μ0 n (putD d s env) H' (a.put d v) w' μ' := by
 cases d with
 | none => exact h.step_none st
 | some d => exact h.step st d (by simpa using hd)
theorem guard_val {env : Env} {H : Heap} {a : Act} {w : World} {μ : Mu} (h : Rel w0 X0 μ0 n env H a w μ) {ops : Array Oper} {j t : Nat} {c : Bool} (hj : (ops[j]?).bind (·.dst) = some t) (ht : t < n) (he : env.get t = .pure (.bool c)) :
  yielded ops a.tmps j = some c := by
 have h1 := h.env t
 rw [he] at h1
 have h2 := h1.bool_inv
 have h3 : a.tmps[t]? = some (.bool c) := by
  rw [Array.getD_eq_getD_getElem?, Array.getElem?_eq_getElem (by rw [h.tmps]; exact ht)] at h2
  rw [Array.getElem?_eq_getElem (by rw [h.tmps]; exact ht)]
  simpa using h2
 simp [yielded, hj, h3]
theorem guard_skip {env : Env} {H : Heap} {a : Act} {w : World} {μ : Mu} (h : Rel w0 X0 μ0 n env H a w μ) {ops : Array Oper} {j t : Nat} (hj : (ops[j]?).bind (·.dst) = some t) (he : env.get t = .tup []) :
  yielded ops a.tmps j = none := by
 have h1 := h.env t
 rw [he] at h1
 have h2 : a.tmps.getD t undef = .tuple #[] := by
  generalize a.tmps.getD t undef = v at h1
  cases h1 with
  | tup vs _ hl _ => rw [show vs = #[] from Array.eq_empty_of_size_eq_zero (by simpa using hl)]
 simp only [yielded, hj, Option.bind_some]
 cases ht : a.tmps[t]? with
 | none => rfl
 | some v =>
  rw [Array.getD_eq_getD_getElem?, ht] at h2
  simp only [Option.getD_some] at h2
  subst h2
  rfl
theorem rep_skip {w : World} {X : Nat → Prop} {μ : Mu} : Rep w X μ undef (.tup []) := .tup #[] [] rfl (fun i hi => by simp at hi)
theorem ins_sound {env : Env} {H : Heap} {a : Act} {w : World} {μ : Mu} (h : Rel w0 X0 μ0 n env H a w μ) {ops : Array Oper} {o : Oper} {i : AI} (hc : cIns P n ops o = some i) {K : Env → Heap → Prop} (hK : aIns P i K env H) {Q : Exit → Act → World → Prop} {j : Nat} (hj : ops[j]? = some o) :
  wpOp P ops Q j (Lands w0 X0 μ0 n K) a w := by
 unfold cIns at hc
 split at hc
 ·cases hc
 ·rename_i op hop
  split at hc
  ·rename_i hd
   have run : aVal P env H op (fun s H' => K (putD o.dst s env) H') → o.wp P a w (Lands w0 X0 μ0 n K) Q := by
    intro hv
    refine Oper.wp_mono ?_ (op_sound h.heap (evs_of h.env) hop hv)
    rintro a' w' ⟨v, s, H', μ', rfl, h1, h2⟩
    exact ⟨_, _, μ', h1, h.put h2 hd⟩
   unfold wpOp
   rw [hj]
   split at hc
   ·rename_i hg
    cases hc
    simp only [aIns] at hK
    simp only [Region.wanted, hg, if_true]
    exact .inl (run hK)
   ·rename_i k b hg
    split at hc
    ·rename_i t ht
     split at hc
     ·rename_i htn
      cases hc
      simp only [aIns] at hK
      split at hK
      ·rename_i c he
       have hy := guard_val h ht htn he
       simp only [Region.wanted, hg, hy]
       by_cases hcb : c = b
       ·subst hcb
        simp only [BEq.rfl, if_true]
        exact .inl (run (hK.1 rfl))
       ·have hne : (some c == some b) = false := by simpa using hcb
        simp only [hne, Bool.false_eq_true, if_false]
        refine ⟨_, _, μ, hK.2 (by cases c <;> cases b <;> simp_all), h.put (Step.same h.heap rep_skip) hd⟩
      ·rename_i he
       simp only [Region.wanted, hg, guard_skip h ht he]
       exact ⟨_, _, μ, hK, h.put (Step.same h.heap rep_skip) hd⟩
      ·exact hK.elim
     ·cases hc
    ·cases hc
  ·cases hc
theorem ops_sound {ops : Array Oper} {Q : Exit → Act → World → Prop} {K : Env → Heap → Prop} (hQ : ∀ a w, Lands w0 X0 μ0 n K a w → Q .normal a w) : ∀ (l : List Oper) (is : List AI) (k : Nat), (∀ j, l[j]? = ops[k + j]?) → cReg P n ops l = some is →
  ∀ {env : Env} {H : Heap} {a : Act} {w : World} {μ : Mu}, Rel w0 X0 μ0 n env H a w μ → aOps P is K env H → wpOps P ops Q (List.range' k l.length) a w
 | [], is, k, _, hc, env, H, a, w, μ, h, hK => by
  simp [cReg] at hc
  subst hc
  exact hQ _ _ ⟨env, H, μ, hK, h⟩
 | o :: r, is, k, hl, hc, env, H, a, w, μ, h, hK => by
  simp only [cReg] at hc
  split at hc
  ·rename_i i q hi hq
   cases hc
   simp only [List.length_cons, List.range'_succ]
   rw [wpOps_cons]
   have h0 : ops[k]? = some o := by have := hl 0; simpa using this.symm
   refine wpOp_mono ?_ (ins_sound h hi hK h0)
   rintro a' w' ⟨env', H', μ', h1, h2⟩
   exact ops_sound hQ r q (k + 1) (fun j => by have := hl (j + 1); rw [show k + 1 + j = k + (j + 1) by omega]; simpa using this) hq h2 h1
  ·cases hc
/-- what the translation of a region that draws its order is good for -/
def RegQ (P : Program) (RQ : AC → (Env → Heap → Prop) → Env → Heap → Prop) (RC : Array Oper → List AI → Option AC) : Prop :=
 (∀ ops is ac, RC ops is = some ac → ac.isReg = true) ∧ ∀ (w0 : World) (X0 : Nat → Prop) (μ0 : Mu) (n : Nat) (ops : Array Oper) (is : List AI) (ac : AC) (id : Nat) (K : Env → Heap → Prop) (Q : Exit → Act → World → Prop) (env : Env) (H : Heap) (a : Act) (w : World) (μ : Mu), P.follows .mixedOrders = true →
  (∀ a w, Lands w0 X0 μ0 n K a w → Q .normal a w) → cReg P n ops ops.toList = some is → RC ops is = some ac → Rel w0 X0 μ0 n env H a w μ → RQ ac K env H → (Code.region id ops true).wp P Q a w
/-- the postcondition of a piece of code -/
def PostA (w0 : World) (X0 : Nat → Prop) (μ0 : Mu) (n : Nat) (Q : APost) : Exit → Act → World → Prop := fun e a w => ∃ ex : Ex, e = ex.up ∧ Lands w0 X0 μ0 n (Q ex) a w
theorem least {p : Nat → Prop} (h : ∃ k, p k) : ∃ k, p k ∧ ∀ j, p j → k ≤ j := by
 obtain ⟨k, hk⟩ := h
 induction k using Nat.strongRecOn with
 | _ k ih =>
  by_cases hj : ∃ j, j < k ∧ p j
  ·obtain ⟨j, h1, h2⟩ := hj
   exact ih j h1 h2
  ·exact ⟨k, hk, fun j hpj => by
    rcases Nat.lt_or_ge j k with h | h
    ·exact absurd ⟨j, h, hpj⟩ hj
    ·exact h⟩
theorem wp_loop_any {c : Code} {Q : Exit → Act → World → Prop} {a : Act} {w : World} {T : Type} (J : T → Act → World → Prop) (m : T → Nat) (h0 : ∃ x, J x a w)
  (round : ∀ x a w, J x a w → c.wp P (Exit.then (fun a' w' => ∃ y, J y a' w' ∧ m y < m x) Q) a w) : (Code.loop c).wp P Q a w := by
 have hex : ∀ a w, (∃ x, J x a w) → ∃ k, (∃ x, J x a w ∧ m x = k) ∧ ∀ j, (∃ x, J x a w ∧ m x = j) → k ≤ j := fun a w ⟨x, hx⟩ => least ⟨m x, x, hx, rfl⟩
 refine wp_loop (fun a w => ∃ x, J x a w) (fun a w => open Classical in if h : ∃ x, J x a w then (hex a w h).choose else 0) h0 ?_
 intro a1 w1 h1
 obtain ⟨⟨x, hx, hm⟩, _⟩ := (hex a1 w1 h1).choose_spec
 refine wp_mono (round x a1 w1 hx) ?_
 intro e a2 w2 he
 cases e with
 | normal =>
  obtain ⟨y, hy, hlt⟩ := he
  have h2 : ∃ x, J x a2 w2 := ⟨y, hy⟩
  refine ⟨h2, ?_⟩
  simp only [dif_pos h1, dif_pos h2]
  have := (hex a2 w2 h2).choose_spec.2 (m y) ⟨y, hy, rfl⟩
  omega
 | _ => exact he
theorem aWp_sound {kp : Nat} {RQ : AC → (Env → Heap → Prop) → Env → Heap → Prop} {RC : Array Oper → List AI → Option AC} (hm : P.follows .mixedOrders = true) (hR : RegQ P RQ RC) (hk : ∀ (b : Nat) (l : Loc), μ0 b = some l → b < kp) :
  ∀ (c : Code) (ac : AC), cCode P n RC c = some ac → ∀ {Q : APost} {env : Env} {H : Heap} {a : Act} {w : World} {μ : Mu}, Rel w0 X0 μ0 n env H a w μ → aWp P kp RQ ac Q env H → c.wp P (PostA w0 X0 μ0 n Q) a w
 | .skip, ac, hc, Q, env, H, a, w, μ, h, hw => by
  cases hc
  exact wp_skip ⟨.normal, rfl, env, H, μ, hw, h⟩
 | .label l, ac, hc, Q, env, H, a, w, μ, h, hw => by
  cases hc
  exact wp_label ⟨.normal, rfl, env, H, μ, hw, h⟩
 | .exit id, ac, hc, Q, env, H, a, w, μ, h, hw => by
  cases hc
  exact wp_exit ⟨.exit id, rfl, env, H, μ, hw, h⟩
 | .ret, ac, hc, Q, env, H, a, w, μ, h, hw => by
  cases hc
  exact wp_ret ⟨.ret, rfl, env, H, μ, hw, h⟩
 | .region id ops draw, ac, hc, Q, env, H, a, w, μ, h, hw => by
  simp only [cCode] at hc
  split at hc
  ·rename_i is his
   cases draw with
   | true =>
    simp only [if_true] at hc
    have hreg := hR.1 ops is ac hc
    have fin := fun hw' => hR.2 w0 X0 μ0 n ops is ac id (Q .normal) (PostA w0 X0 μ0 n Q) env H a w μ hm (fun a w hl => ⟨.normal, rfl, hl⟩) his hc h hw'
    cases ac with
    | regq pre post => exact fin hw
    | regs core st lates post => exact fin hw
    | regm core sts lates => exact fin hw
    | regd a b c d => exact fin hw
    | rege a b l c d => exact fin hw
    | _ => cases hreg
   | false =>
    simp only [Bool.false_eq_true, if_false] at hc
    cases hc
    refine wp_region ?_
    have := ops_sound (P := P) (ops := ops) (Q := PostA w0 X0 μ0 n Q) (K := Q .normal) (fun a w hl => ⟨.normal, rfl, hl⟩) ops.toList is 0 (fun j => by simp) his h hw
    rw [List.range_eq_range']
    simpa using this
  ·cases hc
 | .seq x y, ac, hc, Q, env, H, a, w, μ, h, hw => by
  simp only [cCode] at hc
  split at hc
  ·rename_i ax ay hx hy
   cases hc
   simp only [aWp] at hw
   refine wp_seq (wp_mono (aWp_sound hm hR hk x ax hx h hw) ?_)
   rintro e a' w' ⟨ex, rfl, env', H', μ', h1, h2⟩
   cases ex with
   | normal =>
    obtain ⟨E, HE, μ2, h3, h4⟩ := Up.rel h1 hk h2
    exact aWp_sound hm hR hk y ay hy h4 h3
   | exit i => exact ⟨.exit i, rfl, env', H', μ', h1, h2⟩
   | ret => exact ⟨.ret, rfl, env', H', μ', h1, h2⟩
  ·cases hc
 | .cond c x y, ac, hc, Q, env, H, a, w, μ, h, hw => by
  simp only [cCode] at hc
  split at hc
  ·rename_i oc ax ay ho hx hy
   cases hc
   simp only [aWp] at hw
   split at hw
   ·rename_i t he
    have hv := evs_of h.env c oc ho
    rw [he] at hv
    refine wp_cond_split hv.bool_inv (fun ht => aWp_sound hm hR hk x ax hx h (hw.1 ht)) (fun ht => aWp_sound hm hR hk y ay hy h (hw.2 ht))
   ·exact hw.elim
  ·cases hc
 | .block id c, ac, hc, Q, env, H, a, w, μ, h, hw => by
  simp only [cCode] at hc
  obtain ⟨ax, hx, rfl⟩ := Option.map_eq_some_iff.1 hc
  simp only [aWp] at hw
  refine wp_block (wp_mono (aWp_sound hm hR hk c ax hx h hw) ?_)
  rintro e a' w' ⟨ex, rfl, env', H', μ', h1, h2⟩
  cases ex with
  | normal => exact ⟨.normal, rfl, env', H', μ', h1, h2⟩
  | exit i =>
   simp only [blockA] at h1
   simp only [Ex.up, Exit.inBlock]
   split at h1
   ·rename_i hi
    rw [if_pos hi]
    exact ⟨.normal, rfl, env', H', μ', h1, h2⟩
   ·rename_i hi
    rw [if_neg hi]
    exact ⟨.exit i, rfl, env', H', μ', h1, h2⟩
  | ret => exact ⟨.ret, rfl, env', H', μ', h1, h2⟩
 | .loop c, ac, hc, Q, env, H, a, w, μ, h, hw => by
  simp only [cCode] at hc
  obtain ⟨ax, hx, rfl⟩ := Option.map_eq_some_iff.1 hc
  simp only [aWp] at hw
  obtain ⟨T, I, m, h1, h2⟩ := hw
  refine wp_loop_any (fun x a w => Lands w0 X0 μ0 n (I x) a w) m ?_ ?_
  ·obtain ⟨E, HE, μ2, ⟨x, h3⟩, h4⟩ := Up.rel h1 hk h
   exact ⟨x, E, HE, μ2, h3, h4⟩
  ·rintro x a1 w1 ⟨env1, H1, μ1, h3, h4⟩
   refine wp_mono (aWp_sound hm hR hk c ax hx h4 (h2 x env1 H1 h3)) ?_
   rintro e a' w' ⟨ex, rfl, env', H', μ', h5, h6⟩
   cases ex with
   | normal =>
    obtain ⟨E, HE, μ2, ⟨y, h7, h8⟩, h9⟩ := Up.rel h5 hk h6
    exact ⟨y, ⟨E, HE, μ2, h7, h9⟩, h8⟩
   | exit i => exact ⟨.exit i, rfl, env', H', μ', h5, h6⟩
   | ret => exact ⟨.ret, rfl, env', H', μ', h5, h6⟩
 | .scope c, ac, hc, Q, env, H, a, w, μ, h, hw => by
  simp only [cCode] at hc
  refine wp_scope_straight (wp_mono (aWp_sound hm hR hk c ac hc h hw) ?_)
  rintro e a' w' ⟨ex, rfl, h1⟩
  cases ex <;> exact ⟨_, rfl, h1⟩
 | .rangeFunc .., _, hc, _, _, _, _, _, _, _, _ => by cases hc
 | .goto _, _, hc, _, _, _, _, _, _, _, _ => by cases hc
 | .refuse _, _, hc, _, _, _, _, _, _, _, _ => by cases hc
end
end Go.Vm
/-! The abstract machine, part 15: functions: from the code to the contract, and the contract at a call. -/
namespace Go.Vm
open Go Go.RowKit
/-! ### slots that are data -/
def toV0 (lv : Bool) (H : Heap) : S → Option V
 | .pure v => some v
 | .empty => some (.sl [])
 | .rsl b off len => match H[b]? with
  | some r => if (r.st = .frozen ∨ (lv = true ∧ r.st = .live)) ∧ off + len ≤ r.es.length then (match S.allPure ((r.es.drop off).take len) with
   | some vs => some (.sl vs)
   | none => none) else none
  | none => none
 | _ => none
def toVs0 (lv : Bool) (H : Heap) : List S → Option (List V)
 | [] => some []
 | s :: r => match toV0 lv H s, toVs0 lv H r with
  | some v, some q => some (v :: q)
  | _, _ => none
def toVo (lv : Bool) (H : Heap) : S → Option V
 | .agg cs => match toVs0 lv H cs with
  | some vs => some (.agg vs)
  | none => none
 | .func fn f c => match toVs0 lv H f, toVs0 lv H c with
  | some a, some b => some (.func fn a b)
  | _, _ => none
 | s => toV0 lv H s
def mapO (f : S → Option V) : List S → Option (List V)
 | [] => some []
 | s :: r => match f s, mapO f r with
  | some v, some q => some (v :: q)
  | _, _ => none
/-- slots that are data, to a depth -/
def toVn (lv : Bool) (H : Heap) : Nat → S → Option V
 | 0, _ => none
 | d + 1, s => match s with
  | .pure v => some v
  | .empty => some (.sl [])
  | .rsl b off len => match H[b]? with
   | some r => if (r.st = .frozen ∨ (lv = true ∧ r.st = .live)) ∧ off + len ≤ r.es.length then (match mapO (toVn lv H d) ((r.es.drop off).take len) with
    | some vs => some (.sl vs)
    | none => none) else none
   | none => none
  | .agg cs => match mapO (toVn lv H d) cs with
   | some vs => some (.agg vs)
   | none => none
  | _ => none
def toV (lv : Bool) (H : Heap) (s : S) : Option V := match toVo lv H s with
 | some v => some v
 | none => toVn lv H 8 s
def toVs (lv : Bool) (H : Heap) : List S → Option (List V)
 | [] => some []
 | s :: r => match toV lv H s, toVs lv H r with
  | some v, some q => some (v :: q)
  | _, _ => none
section
variable {w : World} {μ : Mu} {H HF : Heap} {lv : Bool} {X : Nat → Prop}
theorem PRep.empty (a : Option Addr) (_ : ∀ x, a = some x → True) : PRep w X (.slice a 0 0) (.sl []) := .nils a
theorem toV0_sound (hrep : HRep w μ H) (hF : ∀ (b : Nat) (l : Loc), μ b = some l → HF[b]? = H[b]?) (hX : ∀ k, X k → excl μ H k) (hlv : lv = true → ∀ k, ¬ X k) {v : Value} {s : S} {d : V} (hr : Rep w (excl μ H) μ v s) (h : toV0 lv HF s = some d) : PRep w X v d := by
 cases s with
 | pure v' => simp [toV0] at h; subst h; exact hr.pure_inv.less hX
 | empty =>
  simp [toV0] at h
  subst h
  obtain ⟨a, rfl, ha⟩ := hr.empty_inv
  exact .empty a ha
 | rsl b off len =>
  simp only [toV0] at h
  split at h
  ·rename_i r hb
   split at h
   ·rename_i hc
    obtain ⟨hst, hlen⟩ := hc
    split at h
    ·rename_i vs hvs
     simp only [Option.some.injEq] at h
     subst h
     have hes := S.allPure_eq hvs
     have hvl : vs.length = len := by
      have := congrArg List.length hes
      simp at this
      omega
     cases hr with
     | rslz a ha _ _ l hl =>
      have : vs = [] := List.eq_nil_of_length_eq_zero hvl
      subst this
      exact .empty a ha
     | rsl _ _ _ cap l hl hv hcap hm hroom =>
      have hnd : r.st ≠ .dead := by
       rcases hst with h | ⟨_, h⟩ <;> rw [h] <;> decide
      rw [hF b l hl] at hb
      have rr := hrep.row b r l hb hnd hl
      have hcell : ∀ i j, i < vs.length → j < l.size → ∃ u, w.cell? ⟨l.blk, l.base + (off + i) * l.size + j, none⟩ = some u ∧ PRep w X u ((vs.getD i default).cells.getD j default) ∧ (vs.getD i default).cells.length = l.size := by
       intro i j hi hj
       obtain ⟨u, h1, h2⟩ := rr.cells hv (off + i) j (by omega) hj
       have he : r.es.getD (off + i) .dead = .pure (vs.getD i default) := by
        have : ((r.es.drop off).take len)[i]? = some (.pure (vs.getD i default)) := by
         rw [hes, List.getElem?_map, List.getElem?_eq_getElem hi]
         simp [List.getD_eq_getElem?_getD, List.getElem?_eq_getElem hi]
        rw [List.getElem?_take_of_lt (by omega), List.getElem?_drop] at this
        rw [List.getD_eq_getElem?_getD, this]
        rfl
       have hm' : S.pure (vs.getD i default) ∈ r.es := by
        rw [← he, List.getD_eq_getElem?_getD, List.getElem?_eq_getElem (by omega)]
        exact List.getElem_mem _
       have hl' := rr.lens _ hm'
       simp [S.cells] at hl'
       rw [he] at h2
       simp only [S.cells] at h2
       rw [List.getD_eq_getElem?_getD, List.getElem?_map, List.getElem?_eq_getElem (by rw [List.getD_eq_getElem?_getD]; omega)] at h2
       refine ⟨u, h1, ?_, by rw [List.getD_eq_getElem?_getD]; exact hl'⟩
       rw [List.getD_eq_getElem?_getD (l := (vs.getD i default).cells), List.getElem?_eq_getElem (by rw [List.getD_eq_getElem?_getD]; omega)]
       exact (Rep.pure_inv h2).less hX
      have hmem : ∀ e ∈ vs, S.pure e ∈ r.es := by
       intro e he
       have : S.pure e ∈ (r.es.drop off).take len := by rw [hes]; exact List.mem_map_of_mem he
       exact List.mem_of_mem_drop (List.mem_of_mem_take this)
      refine .sl l.blk (l.base + off * l.size) len cap l.size vs (fun k => (w.cell? ⟨l.blk, l.base + off * l.size + k, none⟩).getD undef) rr.pos hvl hcap hm ?_ ?_ ?_ ?_ ?_
      ·intro hne hx
       rcases hst with hst | ⟨hl1, hst⟩
       ·refine rr.frozen hv hst ?_ (hX _ hx)
        intro e
        rw [e] at hlen
        have : 0 < vs.length := List.length_pos_iff.2 hne
        simp at hlen
        omega
       ·exact hlv hl1 _ hx
      ·intro e he
       have := rr.lens _ (hmem e he)
       simpa [S.cells] using this
      ·intro e he c hc
       have := rr.cellOk _ (hmem e he) (.pure c) (by simp only [S.cells]; exact List.mem_map_of_mem hc)
       exact this
      ·intro i j hi hj
       obtain ⟨u, h1, _, _⟩ := hcell i j hi hj
       rw [Nat.add_mul] at h1
       rw [show l.base + off * l.size + i * l.size + j = l.base + (off * l.size + i * l.size) + j by omega, h1]
       rw [show l.base + off * l.size + (i * l.size + j) = l.base + (off * l.size + i * l.size) + j by omega, h1]
       rfl
      ·intro i j hi hj
       obtain ⟨u, h1, h2, _⟩ := hcell i j hi hj
       rw [Nat.add_mul] at h1
       rw [show l.base + off * l.size + (i * l.size + j) = l.base + (off * l.size + i * l.size) + j by omega, h1]
       exact h2
    ·cases h
   ·cases h
  ·cases h
 | _ => simp [toV0] at h
theorem toVs0_sound (hrep : HRep w μ H) (hF : ∀ (b : Nat) (l : Loc), μ b = some l → HF[b]? = H[b]?) (hX : ∀ k, X k → excl μ H k) (hlv : lv = true → ∀ k, ¬ X k) : ∀ {ss : List S} {ds : List V}, toVs0 lv HF ss = some ds → ss.length = ds.length ∧ ∀ {cs : Array Value}, cs.size = ss.length → (∀ i, i < ss.length → Rep w (excl μ H) μ (cs.getD i undef) (ss.getD i .dead)) →
  ∀ i, i < ds.length → PRep w X (cs.getD i undef) (ds.getD i default) := by
 intro ss
 induction ss with
 | nil => intro ds h; simp [toVs0] at h; subst h; exact ⟨rfl, fun _ _ i hi => by simp at hi⟩
 | cons s r ih =>
  intro ds h
  simp only [toVs0] at h
  split at h
  ·rename_i v q hv hq
   cases h
   obtain ⟨h1, h2⟩ := ih hq
   refine ⟨by simp [h1], fun {cs} hl hrep' i hi => ?_⟩
   cases i with
   | zero => exact toV0_sound hrep hF hX hlv (by simpa using hrep' 0 (by simp)) hv
   | succ i =>
    have := h2 (cs := cs.extract 1 cs.size) (by simp at hl ⊢; omega) (fun k hk => by
     have := hrep' (k + 1) (by simp; omega)
     simp only [Array.getD_eq_getD_getElem?, List.getD_eq_getElem?_getD] at this ⊢
     rw [Array.getElem?_extract, if_pos (by simp at hl; omega), Nat.add_comm 1 k]
     simpa using this) i (by simpa using hi)
    simp only [Array.getD_eq_getD_getElem?] at this ⊢
    rw [Array.getElem?_extract, if_pos (by simp at hl hi; omega), Nat.add_comm 1 i] at this
    simpa using this
  ·cases h
theorem isCell_of_toV0 {s : S} {d : V} (h : toV0 lv H s = some d) (hs : s.isCell = true) : d.isCell = true := by
 cases s with
 | pure v => simp [toV0] at h; subst h; exact hs
 | empty => simp [toV0] at h; subst h; rfl
 | rsl b off len =>
  simp only [toV0] at h
  split at h
  ·split at h
   ·split at h
    ·cases h; rfl
    ·cases h
   ·cases h
  ·cases h
 | _ => simp [toV0] at h
theorem isCells_of_toVs0 : ∀ {ss : List S} {ds : List V}, toVs0 lv H ss = some ds → (∀ s ∈ ss, s.isCell = true) → ∀ d ∈ ds, d.isCell = true
 | [], ds, h, _ => by simp [toVs0] at h; subst h; simp
 | s :: r, ds, h, hs => by
  simp only [toVs0] at h
  split at h
  ·rename_i v q hv hq
   cases h
   intro d hd
   rcases List.mem_cons.1 hd with rfl | hd
   ·exact isCell_of_toV0 hv (hs s (by simp))
   ·exact isCells_of_toVs0 hq (fun s h => hs s (by simp [h])) d hd
  ·cases h
theorem toVo_sound (hrep : HRep w μ H) (hF : ∀ (b : Nat) (l : Loc), μ b = some l → HF[b]? = H[b]?) (hX : ∀ k, X k → excl μ H k) (hlv : lv = true → ∀ k, ¬ X k) {v : Value} {s : S} {d : V} (hr : Rep w (excl μ H) μ v s) (h : toVo lv HF s = some d) : PRep w X v d := by
 cases s with
 | agg cs =>
  simp only [toVo] at h
  split at h
  ·rename_i vs hvs
   cases h
   cases hr with
   | agg cv _ hl hc hh =>
    obtain ⟨h1, h2⟩ := toVs0_sound hrep hF hX hlv hvs
    exact .agg cv vs (by omega) (isCells_of_toVs0 hvs hc) (h2 hl hh)
  ·cases h
 | func fn f c =>
  simp only [toVo] at h
  split at h
  ·rename_i a b ha hb
   cases h
   cases hr with
   | func _ fv cv _ _ l1 l2 r1 r2 =>
    obtain ⟨h1, h2⟩ := toVs0_sound hrep hF hX hlv ha
    obtain ⟨h3, h4⟩ := toVs0_sound hrep hF hX hlv hb
    exact .func fn fv cv a b (by omega) (by omega) (h2 l1 r1) (h4 l2 r2)
  ·cases h
 | _ => exact toV0_sound hrep hF hX hlv hr h
theorem mapO_get {f : S → Option V} : ∀ {l : List S} {vs : List V}, mapO f l = some vs → l.length = vs.length ∧ ∀ i, i < l.length → f (l.getD i .dead) = some (vs.getD i default)
 | [], vs, h => by simp [mapO] at h; subst h; exact ⟨rfl, fun i hi => by simp at hi⟩
 | s :: r, vs, h => by
  simp only [mapO] at h
  split at h
  ·rename_i v q hv hq
   cases h
   obtain ⟨h1, h2⟩ := mapO_get hq
   refine ⟨by simp [h1], fun i hi => ?_⟩
   cases i with
   | zero => simpa using hv
   | succ i => simpa using h2 i (by simpa using hi)
  ·cases h
theorem mapO_imp {f g : S → Option V} (hfg : ∀ s v, f s = some v → g s = some v) : ∀ {l : List S} {vs : List V}, mapO f l = some vs → mapO g l = some vs
 | [], vs, h => h
 | s :: r, vs, h => by
  simp only [mapO] at h ⊢
  split at h
  ·rename_i v q hv hq
   rw [hfg s v hv, mapO_imp hfg hq]
   exact h
  ·cases h
theorem mapO_pure {f : S → Option V} (hf : ∀ v, f (.pure v) = some v) {l : List S} {vs : List V} (h : S.allPure l = some vs) : mapO f l = some vs := by
 rw [S.allPure_eq h]
 clear h
 induction vs with
 | nil => rfl
 | cons v r ih => simp only [List.map_cons, mapO, hf, ih]
theorem mapO_vs0 {f : S → Option V} (hf : ∀ s v, toV0 lv H s = some v → f s = some v) : ∀ {l : List S} {vs : List V}, toVs0 lv H l = some vs → mapO f l = some vs
 | [], vs, h => h
 | s :: r, vs, h => by
  simp only [toVs0] at h
  split at h
  ·rename_i v q hv hq
   simp only [mapO, hf s v hv, mapO_vs0 hf hq]
   exact h
  ·cases h
theorem toVn_agg {d : Nat} {cs : List S} : toVn lv H (d + 1) (.agg cs) = (match mapO (toVn lv H d) cs with
 | some vs => some (.agg vs)
 | none => none) := rfl
theorem toVn_rsl {d b off len : Nat} : toVn lv H (d + 1) (.rsl b off len) = (match H[b]? with
 | some r => if (r.st = .frozen ∨ (lv = true ∧ r.st = .live)) ∧ off + len ≤ r.es.length then (match mapO (toVn lv H d) ((r.es.drop off).take len) with
  | some vs => some (.sl vs)
  | none => none) else none
 | none => none) := rfl
theorem toV0_n {d : Nat} {s : S} {v : V} (h : toV0 lv H s = some v) : toVn lv H (d + 2) s = some v := by
 cases s with
 | pure v' => exact h
 | empty => exact h
 | rsl b off len =>
  simp only [toV0] at h
  rw [toVn_rsl]
  split at h
  ·rename_i r hb
   split at h
   ·rename_i hc
    rw [if_pos hc]
    split at h
    ·rename_i vs hvs
     rw [mapO_pure (f := toVn lv H (d + 1)) (fun v => rfl) hvs]
     exact h
    ·cases h
   ·cases h
  ·cases h
 | _ => simp [toV0] at h
theorem toVo_n {n : Nat} {s : S} {v u : V} (h : toVo lv H s = some v) (g : toVn lv H (n + 3) s = some u) : v = u := by
 cases s with
 | agg cs =>
  simp only [toVo] at h
  rw [toVn_agg] at g
  split at h
  ·rename_i vs hvs
   rw [mapO_vs0 (f := toVn lv H (n + 2)) (fun s v hs => toV0_n (d := n) hs) hvs] at g
   cases h
   cases g
   rfl
  ·cases h
 | func fn f c => cases (show (none : Option V) = some u from g)
 | _ =>
  simp only [toVo] at h
  have := toV0_n (d := n + 1) h
  rw [this] at g
  exact Option.some.inj g
theorem isCell_of_toVn {d : Nat} {s : S} {v : V} (h : toVn lv H d s = some v) (hs : s.isCell = true) : v.isCell = true := by
 cases d with
 | zero => cases h
 | succ d =>
  cases s with
  | pure v' => cases h; exact hs
  | empty => cases h; rfl
  | rsl b off len =>
   simp only [toVn] at h
   split at h
   ·split at h
    ·split at h
     ·cases h; rfl
     ·cases h
    ·cases h
   ·cases h
  | agg cs => cases hs
  | _ => simp [toVn] at h
theorem toVn_cells {d : Nat} {s : S} {v : V} (h : toVn lv H d s = some v) : v.cells.length = s.cells.length ∧ ∀ j, j < s.cells.length → ∃ m, m ≤ d ∧ toVn lv H m (s.cells.getD j .dead) = some (v.cells.getD j default) := by
 cases d with
 | zero => cases h
 | succ d =>
  cases s with
  | pure v' =>
   cases h
   refine ⟨by simp [S.cells], fun j hj => ⟨d + 1, Nat.le_refl _, ?_⟩⟩
   have hj' : j < v.cells.length := by simpa [S.cells] using hj
   simp only [S.cells, List.getD_eq_getElem?_getD, List.getElem?_map, List.getElem?_eq_getElem hj', Option.map_some, Option.getD_some]
   rfl
  | empty =>
   cases h
   refine ⟨rfl, fun j hj => ⟨d + 1, Nat.le_refl _, ?_⟩⟩
   obtain rfl : j = 0 := by simpa [S.cells] using hj
   rfl
  | rsl b off len =>
   have h0 := h
   simp only [toVn] at h
   split at h
   ·split at h
    ·split at h
     ·cases h
      refine ⟨rfl, fun j hj => ⟨d + 1, Nat.le_refl _, ?_⟩⟩
      obtain rfl : j = 0 := by simpa [S.cells] using hj
      exact h0
     ·cases h
    ·cases h
   ·cases h
  | agg cs =>
   simp only [toVn] at h
   split at h
   ·rename_i vs hvs
    cases h
    obtain ⟨h1, h2⟩ := mapO_get hvs
    exact ⟨by simp [S.cells, V.cells, h1], fun j hj => ⟨d, by omega, h2 j (by simpa [S.cells] using hj)⟩⟩
   ·cases h
  | _ => simp [toVn] at h
theorem toVn_sound (hrep : HRep w μ H) (hF : ∀ (b : Nat) (l : Loc), μ b = some l → HF[b]? = H[b]?) (hX : ∀ k, X k → excl μ H k) (hlv : lv = true → ∀ k, ¬ X k) (n : Nat) : ∀ {v : Value} {s : S} {d : V}, Rep w (excl μ H) μ v s → toVn lv HF n s = some d → PRep w X v d := by
 induction n using Nat.strongRecOn with
 | ind n ih =>
  intro v s d hr h
  cases n with
  | zero => cases h
  | succ n =>
   cases s with
   | pure v' => cases h; exact hr.pure_inv.less hX
   | empty =>
    cases h
    obtain ⟨a, rfl, ha⟩ := hr.empty_inv
    exact .empty a ha
   | agg cs =>
    simp only [toVn] at h
    split at h
    ·rename_i vs hvs
     cases h
     obtain ⟨h1, h2⟩ := mapO_get hvs
     cases hr with
     | agg cv _ hl hc hh =>
      refine .agg cv vs (by omega) (fun x hx => ?_) (fun i hi => ih n (by omega) (hh i (by omega)) (h2 i (by omega)))
      obtain ⟨i, hi, rfl⟩ := List.mem_iff_getElem.1 hx
      have := h2 i (by omega)
      rw [List.getD_eq_getElem?_getD, List.getD_eq_getElem?_getD, List.getElem?_eq_getElem (show i < cs.length by omega), List.getElem?_eq_getElem hi] at this
      exact isCell_of_toVn this (hc _ (List.getElem_mem _))
    ·cases h
   | rsl b off len =>
    simp only [toVn] at h
    split at h
    ·rename_i r hb
     split at h
     ·rename_i hc
      obtain ⟨hst, hlen⟩ := hc
      split at h
      ·rename_i vs hvs
       cases h
       obtain ⟨g1, g2⟩ := mapO_get hvs
       have hvl : vs.length = len := by
        rw [← g1]
        simp
        omega
       cases hr with
       | rslz a ha _ _ l hl =>
        have : vs = [] := List.eq_nil_of_length_eq_zero hvl
        subst this
        exact .empty a ha
       | rsl _ _ _ cap l hl hv hcap hm hroom =>
        have hnd : r.st ≠ .dead := by
         rcases hst with h | ⟨_, h⟩ <;> rw [h] <;> decide
        rw [hF b l hl] at hb
        have rr := hrep.row b r l hb hnd hl
        have hel : ∀ i, i < vs.length → toVn lv HF n (r.es.getD (off + i) .dead) = some (vs.getD i default) := by
         intro i hi
         have := g2 i (by omega)
         rw [List.getD_eq_getElem?_getD, List.getElem?_take_of_lt (by omega), List.getElem?_drop, ← List.getD_eq_getElem?_getD] at this
         exact this
        have hmem : ∀ i, i < vs.length → r.es.getD (off + i) .dead ∈ r.es := by
         intro i hi
         rw [List.getD_eq_getElem?_getD, List.getElem?_eq_getElem (by omega)]
         exact List.getElem_mem _
        have hcell : ∀ i j, i < vs.length → j < l.size → ∃ u, w.cell? ⟨l.blk, l.base + (off + i) * l.size + j, none⟩ = some u ∧ PRep w X u ((vs.getD i default).cells.getD j default) := by
         intro i j hi hj
         obtain ⟨u, h1, h2⟩ := rr.cells hv (off + i) j (by omega) hj
         obtain ⟨_, c2⟩ := toVn_cells (hel i hi)
         obtain ⟨m, hm1, hm2⟩ := c2 j (by rw [rr.lens _ (hmem i hi)]; exact hj)
         exact ⟨u, h1, ih m (by omega) h2 hm2⟩
        refine .sl l.blk (l.base + off * l.size) len cap l.size vs (fun k => (w.cell? ⟨l.blk, l.base + off * l.size + k, none⟩).getD undef) rr.pos hvl hcap hm ?_ ?_ ?_ ?_ ?_
        ·intro hne hx
         rcases hst with hst | ⟨hl1, hst⟩
         ·refine rr.frozen hv hst ?_ (hX _ hx)
          intro e
          rw [e] at hlen
          have : 0 < vs.length := List.length_pos_iff.2 hne
          simp at hlen
          omega
         ·exact hlv hl1 _ hx
        ·intro e he
         obtain ⟨i, hi, rfl⟩ := List.mem_iff_getElem.1 he
         have := hel i hi
         rw [List.getD_eq_getElem?_getD (l := vs), List.getElem?_eq_getElem hi] at this
         simp only [Option.getD_some] at this
         rw [(toVn_cells this).1, rr.lens _ (hmem i hi)]
        ·intro e he c hcm
         obtain ⟨i, hi, rfl⟩ := List.mem_iff_getElem.1 he
         have := hel i hi
         rw [List.getD_eq_getElem?_getD (l := vs), List.getElem?_eq_getElem hi] at this
         simp only [Option.getD_some] at this
         obtain ⟨c1, c2⟩ := toVn_cells this
         obtain ⟨j, hj, rfl⟩ := List.mem_iff_getElem.1 hcm
         obtain ⟨m, _, hm2⟩ := c2 j (by omega)
         rw [List.getD_eq_getElem?_getD (l := (vs[i]).cells), List.getElem?_eq_getElem hj] at hm2
         refine isCell_of_toVn hm2 (rr.cellOk _ (hmem i hi) _ ?_)
         rw [List.getD_eq_getElem?_getD (i := j), List.getElem?_eq_getElem (by omega)]
         exact List.getElem_mem _
        ·intro i j hi hj
         obtain ⟨u, h1, _⟩ := hcell i j hi hj
         rw [Nat.add_mul] at h1
         rw [show l.base + off * l.size + i * l.size + j = l.base + (off * l.size + i * l.size) + j by omega, h1]
         rw [show l.base + off * l.size + (i * l.size + j) = l.base + (off * l.size + i * l.size) + j by omega, h1]
         rfl
        ·intro i j hi hj
         obtain ⟨u, h1, h2⟩ := hcell i j hi hj
         rw [Nat.add_mul] at h1
         rw [show l.base + off * l.size + (i * l.size + j) = l.base + (off * l.size + i * l.size) + j by omega, h1]
         exact h2
      ·cases h
     ·cases h
    ·cases h
   | _ => simp [toVn] at h
theorem toV_sound (hrep : HRep w μ H) (hF : ∀ (b : Nat) (l : Loc), μ b = some l → HF[b]? = H[b]?) (hX : ∀ k, X k → excl μ H k) (hlv : lv = true → ∀ k, ¬ X k) {v : Value} {s : S} {d : V} (hr : Rep w (excl μ H) μ v s) (h : toV lv HF s = some d) : PRep w X v d := by
 unfold toV at h
 split at h
 ·rename_i v' hv
  cases h
  exact toVo_sound hrep hF hX hlv hr hv
 ·exact toVn_sound hrep hF hX hlv 8 hr h
theorem toVs_sound (hrep : HRep w μ H) (hF : ∀ (b : Nat) (l : Loc), μ b = some l → HF[b]? = H[b]?) (hX : ∀ k, X k → excl μ H k) (hlv : lv = true → ∀ k, ¬ X k) : ∀ {ss : List S} {ds : List V}, toVs lv HF ss = some ds → ss.length = ds.length ∧ ∀ {cs : Array Value}, cs.size = ss.length → (∀ i, i < ss.length → Rep w (excl μ H) μ (cs.getD i undef) (ss.getD i .dead)) →
  ∀ i, i < ds.length → PRep w X (cs.getD i undef) (ds.getD i default) := by
 intro ss
 induction ss with
 | nil => intro ds h; simp [toVs] at h; subst h; exact ⟨rfl, fun _ _ i hi => by simp at hi⟩
 | cons s r ih =>
  intro ds h
  simp only [toVs] at h
  split at h
  ·rename_i v q hv hq
   cases h
   obtain ⟨h1, h2⟩ := ih hq
   refine ⟨by simp [h1], fun {cs} hl hrep' i hi => ?_⟩
   cases i with
   | zero => exact toV_sound hrep hF hX hlv (by simpa using hrep' 0 (by simp)) hv
   | succ i =>
    have := h2 (cs := cs.extract 1 cs.size) (by simp at hl ⊢; omega) (fun k hk => by
     have := hrep' (k + 1) (by simp; omega)
     simp only [Array.getD_eq_getD_getElem?, List.getD_eq_getElem?_getD] at this ⊢
     rw [Array.getElem?_extract, if_pos (by simp at hl; omega), Nat.add_comm 1 k]
     simpa using this) i (by simpa using hi)
    simp only [Array.getD_eq_getD_getElem?] at this ⊢
    rw [Array.getElem?_extract, if_pos (by simp at hl hi; omega), Nat.add_comm 1 i] at this
    simpa using this
  ·cases h
end
/-! ### the contract of a function -/
def retS : List S → S
 | [s] => s
 | ss => .tup ss
/-- the slots of the results -/
def resSlots : List ResultVar → Option (List Nat)
 | [] => some []
 | .tmp t :: r => (resSlots r).map (t :: ·)
 | _ :: _ => none
def argEnv : Nat → List S → Env
 | _, [] => []
 | k, s :: r => (k, s) :: argEnv (k + 1) r
theorem argEnv_get : ∀ (l : List S) (k d : Nat), (argEnv k l).get d = if d < k then .dead else l.getD (d - k) .dead
 | [], k, d => by simp [argEnv, Env.get]
 | s :: r, k, d => by
  simp only [argEnv, Env.get_cons]
  by_cases h : k = d
  ·subst h; simp
  ·rw [if_neg h, argEnv_get r (k + 1) d]
   by_cases h1 : d < k
   ·rw [if_pos (by omega), if_pos h1]
   ·rw [if_neg (by omega), if_neg h1]
    obtain ⟨m, hm⟩ : ∃ m, d - k = m + 1 := ⟨d - k - 1, by omega⟩
    rw [hm, show d - (k + 1) = m by omega]
    rfl
def PostF (kp : Nat) (ts : List Nat) (K : S → Heap → Prop) : APost
 | .normal => Up kp fun env H => K (retS (ts.map env.get)) H
 | .ret => Up kp fun env H => K (retS (ts.map env.get)) H
 | .exit _ => fun _ _ => False
end Go.Vm
/-! The abstract machine, part 16: regions that draw their order: the text's order serves every order. -/
namespace Go.Vm
open Go Go.RowKit
/-! ### which slots an operation looks at -/
def optOs : Option O → List O
 | none => []
 | some o => [o]
def AOp.os : AOp → List O
 | .mov x | .load _ _ x | .nilck x | .un _ x | .conv _ x | .fld _ _ _ x | .fldA _ x | .ext _ x | .len x | .lenS x | .slnil _ x | .box x => [x]
 | .pick c x y => [c, x, y]
 | .build _ ps => ps.map (·.2.2)
 | .bin _ x y | .eqb _ x y | .eqs _ x y | .eqv _ _ x y | .idxA _ x y | .idxAA _ _ x y | .idxV _ _ _ x y | .idxS x y | .mx x y | .mn x y | .app _ _ x y | .store _ x y | .mksl _ _ _ x y => [x, y]
 | .mkfn _ f c => f ++ c
 | .slc _ x lo hi m => x :: (optOs lo ++ optOs hi ++ optOs m)
 | .bslice _ ps => ps
 | .call _ args => args
 | .callv f args => f :: args
theorem optInt_congr {e e' : Env} {d : Nat} {o : Option O} (h : ∀ x ∈ optOs o, x.ev e = x.ev e') : optInt e d o = optInt e' d o := by
 cases o with
 | none => rfl
 | some x => simp [optInt, h x (by simp [optOs])]
theorem fillA_congr {e e' : Env} : ∀ (ps : List (Nat × Nat × O)) (cs : List S), (∀ x ∈ ps.map (·.2.2), x.ev e = x.ev e') → fillA e cs ps = fillA e' cs ps
 | [], cs, _ => rfl
 | (off, n, o) :: r, cs, h => by
  simp only [fillA]
  rw [h o (by simp)]
  split
  ·exact fillA_congr r _ (fun x hx => h x (by simp at hx ⊢; exact .inr hx))
  ·rfl
theorem rowAt_mono {H H' : Heap} (hH : ∀ (b : Nat) (r : Row), H[b]? = some r → H'[b]? = some r) {b : Nat} {r : Row} (h : rowAt H b = some r) : rowAt H' b = some r := by
 obtain ⟨h1, h2⟩ := rowAt_inv h
 simp [rowAt, hH b r h1, h2]
/-- what only computes or reads yields the same where its operands, and the rows, are the same -/
theorem aFun_congr {e e' : Env} {H H' : Heap} (hH : ∀ (b : Nat) (r : Row), H[b]? = some r → H'[b]? = some r) (op : AOp) (h : ∀ x ∈ op.os, x.ev e = x.ev e') {s : S} (hs : aFun e H op = some s) : aFun e' H' op = some s := by
 cases op <;> simp only [AOp.os] at h
 case build z ps => simp only [aFun] at hs ⊢; rw [← fillA_congr ps z h]; exact hs
 case mkfn fn f c =>
  simp only [aFun] at hs ⊢
  rw [← hs]
  congr 2
  ·exact List.map_congr_left fun x hx => (h x (by simp [hx])).symm
  ·exact List.map_congr_left fun x hx => (h x (by simp [hx])).symm
 case slc n x lo hi mx =>
  have h1 := h x (by simp)
  have h2 : ∀ d, optInt e d lo = optInt e' d lo := fun d => optInt_congr fun y hy => h y (by simp [hy])
  have h3 : ∀ d, optInt e d hi = optInt e' d hi := fun d => optInt_congr fun y hy => h y (by simp [hy])
  have h4 : ∀ d, optInt e d mx = optInt e' d mx := fun d => optInt_congr fun y hy => h y (by simp [hy])
  simp only [aFun, h1, h2, h3, h4] at hs ⊢
  split at hs
  ·exact hs
  ·exact hs
  ·split at hs
   ·rename_i r hl hh hr
    rw [hl, hh, rowAt_mono hH hr]
    exact hs
   ·cases hs
  ·cases hs
 case load g n x =>
  have h1 := h x (by simp)
  simp only [aFun, h1] at hs ⊢
  split at hs
  ·split at hs
   ·rename_i r hr
    rw [rowAt_mono hH hr]
    exact hs
   ·cases hs
  ·exact hs
  ·cases hs
 case idxA n x i =>
  have h1 := h x (by simp)
  have h2 := h i (by simp)
  simp only [aFun, h1, h2] at hs ⊢
  split at hs
  ·exact hs
  ·split at hs
   ·rename_i hc
    split at hs
    ·rename_i r hr
     rw [rowAt_mono hH hr]
     rw [if_pos hc]
     exact hs
    ·cases hs
   ·cases hs
  ·cases hs
 case pick c x y => simp only [aFun, h c (by simp), h x (by simp), h y (by simp)] at hs ⊢; exact hs
 case bslice => simp [aFun] at hs
 case mksl => simp [aFun] at hs
 case call => simp [aFun] at hs
 case callv => simp [aFun] at hs
 case box => simp [aFun] at hs
 case store => simp [aFun] at hs
 case app => simp [aFun] at hs
 case mov x => simp only [aFun, h x (by simp)] at hs ⊢; exact hs
 case nilck x => simp only [aFun, h x (by simp)] at hs ⊢; exact hs
 case un op x => simp only [aFun, h x (by simp)] at hs ⊢; exact hs
 case conv k x => simp only [aFun, h x (by simp)] at hs ⊢; exact hs
 case fld a b c x => simp only [aFun, h x (by simp)] at hs ⊢; exact hs
 case fldA b x => simp only [aFun, h x (by simp)] at hs ⊢; exact hs
 case ext b x => simp only [aFun, h x (by simp)] at hs ⊢; exact hs
 case len x => simp only [aFun, h x (by simp)] at hs ⊢; exact hs
 case lenS x => simp only [aFun, h x (by simp)] at hs ⊢; exact hs
 case slnil => simp [aFun] at hs
 case bin op x y => simp only [aFun, h x (by simp), h y (by simp)] at hs ⊢; exact hs
 case eqb op x y => simp only [aFun, h x (by simp), h y (by simp)] at hs ⊢; exact hs
 case eqs op x y => simp only [aFun, h x (by simp), h y (by simp)] at hs ⊢; exact hs
 case eqv op k x y => simp only [aFun, h x (by simp), h y (by simp)] at hs ⊢; exact hs
 case idxAA a b x y => simp only [aFun, h x (by simp), h y (by simp)] at hs ⊢; exact hs
 case idxV a b c x y => simp only [aFun, h x (by simp), h y (by simp)] at hs ⊢; exact hs
 case idxS x y => simp only [aFun, h x (by simp), h y (by simp)] at hs ⊢; exact hs
 case mx x y => simp only [aFun, h x (by simp), h y (by simp)] at hs ⊢; exact hs
 case mn x y => simp only [aFun, h x (by simp), h y (by simp)] at hs ⊢; exact hs
/-! ### a function that is called with data, and gives data back -/
def V.flat : V → Bool
 | .int _ _ | .bool _ | .str _ => true
 | .agg cs => V.flats cs
 | _ => false
where V.flats : List V → Bool
 | [] => true
 | .int _ _ :: r => V.flats r
 | .bool _ :: r => V.flats r
 | .str _ :: r => V.flats r
 | _ :: _ => false
theorem flats_mem : ∀ {l : List V}, V.flat.V.flats l = true → ∀ v ∈ l, ∀ {w w' : World} {X X' : Nat → Prop} {u : Value}, PRep w X u v → PRep w' X' u v
 | [], _, v, hv => by cases hv
 | .int k n :: r, h, v, hv => by
  intro hp
  rcases List.mem_cons.1 hv with rfl | hv
  ·cases hp; constructor; assumption
  ·exact flats_mem (by simpa [V.flat.V.flats] using h) v hv hp
 | .bool b :: r, h, v, hv => by
  intro hp
  rcases List.mem_cons.1 hv with rfl | hv
  ·cases hp; constructor
  ·exact flats_mem (by simpa [V.flat.V.flats] using h) v hv hp
 | .str s :: r, h, v, hv => by
  intro hp
  rcases List.mem_cons.1 hv with rfl | hv
  ·cases hp; constructor; assumption
  ·exact flats_mem (by simpa [V.flat.V.flats] using h) v hv hp
 | .agg _ :: _, h, _, _ => by simp [V.flat.V.flats] at h
 | .sl _ :: _, h, _, _ => by simp [V.flat.V.flats] at h
 | .nilp :: _, h, _, _ => by simp [V.flat.V.flats] at h
 | .func _ _ _ :: _, h, _, _ => by simp [V.flat.V.flats] at h
 | .nilf :: _, h, _, _ => by simp [V.flat.V.flats] at h
 | .iface _ _ :: _, h, _, _ => by simp [V.flat.V.flats] at h
 | .nili :: _, h, _, _ => by simp [V.flat.V.flats] at h
theorem PRep.flat {w w' : World} {X X' : Nat → Prop} {u : Value} {v : V} (hf : v.flat = true) (h : PRep w X u v) : PRep w' X' u v := by
 cases h with
 | int k n h => exact .int k n h
 | bool b => exact .bool b
 | str s h => exact .str s h
 | agg cs vs hl hc hh =>
  simp only [V.flat] at hf
  refine .agg cs vs hl hc fun i hi => ?_
  refine flats_mem hf _ ?_ (hh i hi)
  rw [List.getD_eq_getElem?_getD, List.getElem?_eq_getElem hi]
  exact List.getElem_mem _
 | _ => simp [V.flat] at hf
/-- what a call with data gives back -/
def PRes (w : World) (X : Nat → Prop) (v : Value) : List V → Prop
 | [d] => PRep w X v d
 | ds => ∃ vs, v = .tuple vs ∧ vs.size = ds.length ∧ ∀ i, i < ds.length → PRep w X (vs.getD i undef) (ds.getD i default)
theorem PRes.rep {w : World} {X : Nat → Prop} {μ : Mu} {v : Value} {ds : List V} (h : PRes w X v ds) : Rep w X μ v (retS (ds.map .pure)) := by
 cases ds with
 | nil =>
  obtain ⟨vs, rfl, h1, h2⟩ := h
  exact .tup vs _ (by simpa using h1) (fun i hi => by simp at hi)
 | cons d r =>
  cases r with
  | nil => exact .pure _ _ h
  | cons d2 r =>
   obtain ⟨vs, rfl, h1, h2⟩ := h
   refine .tup vs _ (by simpa using h1) fun i hi => ?_
   have hi' : i < (d :: d2 :: r).length := by simpa using hi
   have := h2 i hi'
   rw [List.getD_eq_getElem?_getD, List.getElem?_eq_getElem hi'] at this
   rw [List.getD_eq_getElem?_getD]
   show Rep w X μ _ ((((d :: d2 :: r).map S.pure)[i]?).getD .dead)
   rw [List.getElem?_map, List.getElem?_eq_getElem hi']
   exact .pure _ _ this
theorem PRes.flat {w w' : World} {X X' : Nat → Prop} {v : Value} {ds : List V} (hf : ∀ d ∈ ds, d.flat = true) (h : PRes w X v ds) : PRes w' X' v ds := by
 cases ds with
 | nil =>
  obtain ⟨vs, rfl, h1, h2⟩ := h
  exact ⟨vs, rfl, h1, fun i hi => by simp at hi⟩
 | cons d r =>
  cases r with
  | nil => exact PRep.flat (hf d (by simp)) h
  | cons d2 r =>
   obtain ⟨vs, rfl, h1, h2⟩ := h
   refine ⟨vs, rfl, h1, fun i hi => PRep.flat (hf _ ?_) (h2 i hi)⟩
   rw [List.getD_eq_getElem?_getD, List.getElem?_eq_getElem hi]
   exact List.getElem_mem _
/-- THE CONTRACT OF A FUNCTION OF DATA. -/
def FnQ (P : Program) (f : Nat) (vs rs : List V) : Prop :=
 (∃ fn, P.funcs[f]? = some fn ∧ (fn.name == "runtime.NumGoroutine") = false ∧ fn.body.isNone = false) ∧
 ∀ (w : World) (X : Nat → Prop) (cargs : Array Value), (∀ k, X k → k < w.heap.size) → cargs.size = vs.length → (∀ i, i < vs.length → PRep w X (cargs.getD i undef) (vs.getD i default)) →
  Calls P f cargs w fun e w' => ∃ v, e = .returned v ∧ PRes w' X v rs ∧ Fr (fun _ => False) w w'
theorem PRes.less {w : World} {X X' : Nat → Prop} (hX : ∀ k, X' k → X k) {v : Value} {ds : List V} (h : PRes w X v ds) : PRes w X' v ds := by
 cases ds with
 | nil =>
  obtain ⟨vs, rfl, h1, h2⟩ := h
  exact ⟨vs, rfl, h1, fun i hi => (h2 i hi).less hX⟩
 | cons d r =>
  cases r with
  | nil => exact PRep.less hX h
  | cons d2 r =>
   obtain ⟨vs, rfl, h1, h2⟩ := h
   exact ⟨vs, rfl, h1, fun i hi => (h2 i hi).less hX⟩
/-- THE CONTRACT OF A FUNCTION OF DATA whose results lie in no block that was there. -/
def FnF (P : Program) (f : Nat) (vs rs : List V) : Prop :=
 (∃ fn, P.funcs[f]? = some fn ∧ (fn.name == "runtime.NumGoroutine") = false ∧ fn.body.isNone = false) ∧
 ∀ (w : World) (cargs : Array Value), cargs.size = vs.length → (∀ i, i < vs.length → PRep w (fun _ => False) (cargs.getD i undef) (vs.getD i default)) →
  Calls P f cargs w fun e w' => ∃ v, e = .returned v ∧ PRes w' (fun k => k < w.heap.size) v rs ∧ Fr (fun _ => False) w w'
theorem FnF.fnQ {P : Program} {f : Nat} {vs rs : List V} (h : FnF P f vs rs) : FnQ P f vs rs :=
 ⟨h.1, fun w _ cargs hX hl ha => (h.2 w cargs hl fun i hi => (ha i hi).less fun _ h => h.elim).mono fun _ _ ⟨v, h1, h2, h3⟩ => ⟨v, h1, h2.less hX, h3⟩⟩
theorem HRep.kept {w w' : World} {μ : Mu} {H : Heap} (h : HRep w μ H) (hf : Fr (fun _ => False) w w') : HRep w' μ H := by
 have hk : ∀ X, Keeps X w w' := fun X k hk _ => hf.keep k hk id
 exact h.alter (hk _) (fun k hk' => .inl hk') (fun _ _ h => h) rfl hf.size h.dom (fun b r l hb hd hl => .inr ⟨hb, hl, fun hst hv => hf.keep _ (live_lt h hb hst hl hv) id⟩) h.inj
theorem callQ_sound {P : Program} {w : World} {μ : Mu} {H HF : Heap} (hrep : HRep w μ H) (hF : ∀ (b : Nat) (l : Loc), μ b = some l → HF[b]? = H[b]?) {f : Nat} {args : List S} {lv : Bool} {vs rs : List V} (hv : toVs lv HF args = some vs) (hfn : FnQ P f vs rs) (hflat : lv = true → (∀ r ∈ rs, r.flat = true) ∨ FnF P f vs rs)
  {cargs : Array Value} (hl : cargs.size = args.length) (ha : ∀ i, i < args.length → Rep w (excl μ H) μ (cargs.getD i undef) (args.getD i .dead)) :
  Calls P f cargs w fun e w' => ∃ v, e = .returned v ∧ Step w μ H w' μ H v (retS (rs.map .pure)) := by
 have hlt : ∀ k, excl μ H k → k < w.heap.size := by
  rintro k (h | h)
  ·exact owned_lt hrep h
  ·exact (hrep.xo k h).1
 have fin : ∀ {w' : World} {v : Value}, PRes w' (excl μ H) v rs → Fr (fun _ => False) w w' → Step w μ H w' μ H v (retS (rs.map .pure)) := by
  intro w' v h1 h2
  exact ⟨hrep.kept h2, h1.rep, fun _ _ h => h, rfl, ⟨h2.os, h2.tape, h2.output, h2.size, fun k hk _ => h2.keep k hk id⟩, fun _ h => .inl h⟩
 cases lv with
 | false =>
  obtain ⟨h1, h2⟩ := toVs_sound (X := excl μ H) hrep hF (fun _ h => h) (fun h => by cases h) hv
  refine (hfn.2 w (excl μ H) cargs hlt (by omega) (h2 hl ha)).mono fun e w' he => ?_
  obtain ⟨v, rfl, h3, h4⟩ := he
  exact ⟨v, rfl, fin h3 h4⟩
 | true =>
  obtain ⟨h1, h2⟩ := toVs_sound (X := fun _ => False) hrep hF (fun _ h => h.elim) (fun _ _ h => h) hv
  rcases hflat rfl with hfl | hff
  ·refine (hfn.2 w (fun _ => False) cargs (fun _ h => h.elim) (by omega) (h2 hl ha)).mono fun e w' he => ?_
   obtain ⟨v, rfl, h3, h4⟩ := he
   exact ⟨v, rfl, fin (h3.flat hfl) h4⟩
  ·refine (hff.2 w cargs (by omega) (h2 hl ha)).mono fun e w' he => ?_
   obtain ⟨v, rfl, h3, h4⟩ := he
   exact ⟨v, rfl, fin (h3.less hlt) h4⟩
theorem allPure_mono_aux {H H' : Heap} (hH : ∀ (b : Nat) (r : Row), H[b]? = some r → H'[b]? = some r) {lv : Bool} {s : S} {d : V} (h : toV0 lv H s = some d) : toV0 lv H' s = some d := by
 cases s with
 | rsl b off len =>
  simp only [toV0] at h ⊢
  split at h
  ·rename_i r hr
   rw [hH b r hr]
   exact h
  ·cases h
 | _ => exact h
theorem toVs0_mono {H H' : Heap} (hH : ∀ (b : Nat) (r : Row), H[b]? = some r → H'[b]? = some r) {lv : Bool} : ∀ {ss : List S} {ds : List V}, toVs0 lv H ss = some ds → toVs0 lv H' ss = some ds
 | [], ds, h => h
 | s :: r, ds, h => by
  simp only [toVs0] at h ⊢
  split at h
  ·rename_i v q hv hq
   rw [allPure_mono_aux hH hv, toVs0_mono hH hq]
   exact h
  ·cases h
theorem toVo_mono {H H' : Heap} (hH : ∀ (b : Nat) (r : Row), H[b]? = some r → H'[b]? = some r) {lv : Bool} {s : S} {d : V} (h : toVo lv H s = some d) : toVo lv H' s = some d := by
 cases s with
 | agg cs =>
  simp only [toVo] at h ⊢
  split at h
  ·rename_i vs hvs; rw [toVs0_mono hH hvs]; exact h
  ·cases h
 | func fn f c =>
  simp only [toVo] at h ⊢
  split at h
  ·rename_i a b ha hb; rw [toVs0_mono hH ha, toVs0_mono hH hb]; exact h
  ·cases h
 | _ =>
  simp only [toVo] at h ⊢
  exact allPure_mono_aux hH h
theorem toVn_mono {H H' : Heap} (hH : ∀ (b : Nat) (r : Row), H[b]? = some r → H'[b]? = some r) {lv : Bool} : ∀ (n : Nat) {s : S} {d : V}, toVn lv H n s = some d → toVn lv H' n s = some d
 | 0, _, _, h => by cases h
 | n + 1, s, d, h => by
  cases s with
  | rsl b off len =>
   simp only [toVn] at h ⊢
   split at h
   ·rename_i r hr
    simp only [hH b r hr]
    split at h
    ·rename_i hc
     rw [if_pos hc]
     split at h
     ·rename_i vs hvs
      rw [mapO_imp (fun s v => toVn_mono hH n) hvs]
      exact h
     ·cases h
    ·cases h
   ·cases h
  | agg cs =>
   simp only [toVn] at h ⊢
   split at h
   ·rename_i vs hvs
    rw [mapO_imp (fun s v => toVn_mono hH n) hvs]
    exact h
   ·cases h
  | _ => exact h
theorem toV_mono {H H' : Heap} (hH : ∀ (b : Nat) (r : Row), H[b]? = some r → H'[b]? = some r) {lv : Bool} {s : S} {d : V} (h : toV lv H s = some d) : toV lv H' s = some d := by
 unfold toV at h ⊢
 split at h
 ·rename_i v hv
  cases h
  rw [toVo_mono hH hv]
 ·have hn := toVn_mono hH 8 h
  split
  ·rename_i v hv
   rw [toVo_n hv hn]
  ·exact hn
theorem toVs_mono {H H' : Heap} (hH : ∀ (b : Nat) (r : Row), H[b]? = some r → H'[b]? = some r) {lv : Bool} : ∀ {ss : List S} {ds : List V}, toVs lv H ss = some ds → toVs lv H' ss = some ds
 | [], ds, h => h
 | s :: r, ds, h => by
  simp only [toVs] at h ⊢
  split at h
  ·rename_i v q hv hq
   rw [toV_mono hH hv, toVs_mono hH hq]
   exact h
  ·cases h
/-- A CALL IN THE MIDDLE OF OTHER WORK: it reads what it is given, writes nothing that was there, and its results are data. -/
def CallR (P : Program) (f : Nat) (args : List S) (H : Heap) (rs : List V) : Prop :=
 (∃ fn, P.funcs[f]? = some fn ∧ (fn.name == "runtime.NumGoroutine") = false ∧ fn.body.isNone = false) ∧
 ∀ HF : Heap, (∀ (b : Nat) (r : Row), H[b]? = some r → HF[b]? = some r) → ∀ (w : World) (μ : Mu) (G : Heap) (cargs : Array Value), HRep w μ G → (∀ (b : Nat) (l : Loc), μ b = some l → HF[b]? = G[b]?) → cargs.size = args.length →
  (∀ i, i < args.length → Rep w (excl μ G) μ (cargs.getD i undef) (args.getD i .dead)) →
  Calls P f cargs w fun e w' => ∃ v, e = .returned v ∧ Step w μ G w' μ G v (retS (rs.map .pure))
theorem CallR.mono {P : Program} {f : Nat} {args : List S} {H H' : Heap} {rs : List V} (hH : ∀ (b : Nat) (r : Row), H[b]? = some r → H'[b]? = some r) (h : CallR P f args H rs) : CallR P f args H' rs :=
 ⟨h.1, fun HF hF => h.2 HF fun b r hb => hF b r (hH b r hb)⟩
theorem CallR.data {P : Program} {f : Nat} {args : List S} {H : Heap} (lv : Bool) (vs rs : List V) (hv : toVs lv H args = some vs) (hf : FnQ P f vs rs) (hl : lv = true → (∀ r ∈ rs, r.flat = true) ∨ FnF P f vs rs) : CallR P f args H rs :=
 ⟨hf.1, fun _ hF _ _ _ _ hrep hG hs ha => callQ_sound hrep hG (toVs_mono hF hv) hf hl hs ha⟩
/-- a call with data, in the middle of other work -/
def CallQ (P : Program) (f : Nat) (args : List S) (H : Heap) (K : S → Prop) : Prop :=
 ∃ rs, CallR P f args H rs ∧ K (retS (rs.map .pure))
end Go.Vm
/-! The abstract machine, part 17: the operations of a region that draws its order, one by one. -/
namespace Go.Vm
open Go Go.RowKit
/-- What an operation ahead of the region's tail yields, and the row that it makes, under the name 'nb'. -/
inductive QV (P : Program) (env : Env) (H : Heap) (nb : Nat) : AOp → S → Option Row → Prop where
 | fn (op : AOp) (s : S) (h : aFun env H op = some s) : QV P env H nb op s none
 | box (x : O) (h : (x.ev env).okv = true) : QV P env H nb (.box x) (.ptr nb 0 0) (some ⟨[x.ev env], (x.ev env).cells.length, .live⟩)
 | bslice (n : Nat) (ps : List O) (h : ∀ o ∈ ps, (o.ev env).okv = true ∧ (o.ev env).cells.length = n) : QV P env H nb (.bslice n ps) (.rsl nb 0 ps.length) (some ⟨ps.map (·.ev env), n, .live⟩)
 | mksl (size bytes : Nat) (z : S) (x y : O) (k k' : IntKind) (n c : Int) (he : x.ev env = .pure (.int k n)) (he' : y.ev env = .pure (.int k' c)) (h : 0 ≤ n ∧ n ≤ c ∧ bytes * c.toNat ≤ 281474976710656 ∧ c.toNat ≤ maxLen) : QV P env H nb (.mksl size bytes z x y) (.rsl nb 0 n.toNat) (some ⟨List.replicate c.toNat z, size, .live⟩)
 | call (f : Nat) (args : List O) (rs : List V) (h : CallR P f (args.map (·.ev env)) H rs) : QV P env H nb (.call f args) (retS (rs.map .pure)) none
 | callv (fv : O) (args : List O) (f : Nat) (a c : List V) (rs : List V) (he : fv.ev env = .pure (.func (.func f) a c)) (h : CallR P f (a.map .pure ++ args.map (·.ev env) ++ c.map .pure) H rs) : QV P env H nb (.callv fv args) (retS (rs.map .pure)) none
 | calls (fv : O) (args : List O) (f : Nat) (a c : List S) (rs : List V) (he : fv.ev env = .func (.func f) a c) (h : CallR P f (a ++ args.map (·.ev env) ++ c) H rs) : QV P env H nb (.callv fv args) (retS (rs.map .pure)) none
theorem aQop_inv {P : Program} {op : AOp} {K : S → Heap → Prop} {env : Env} {H : Heap} (h : aQop P op K env H (CallQ P)) : ∃ s row, QV P env H H.length op s row ∧ K s (H ++ row.toList) := by
 have pure' : ∀ {s : S}, aFun env H op = some s → K s H → ∃ s row, QV P env H H.length op s row ∧ K s (H ++ row.toList) := fun hs hk => ⟨_, none, .fn _ _ hs, by simpa using hk⟩
 cases op <;> simp only [aQop] at h
 case pick c x y =>
  split at h
  ·rename_i t he
   cases t
   ·exact pure' (s := y.ev env) (by simp [aFun, he]) (h.2 rfl)
   ·exact pure' (s := x.ev env) (by simp [aFun, he]) (h.1 rfl)
  ·exact h.elim
 case box x =>
  simp only [aVal] at h
  exact ⟨_, some _, .box x h.1, by simpa using h.2⟩
 case bslice n ps =>
  simp only [aVal] at h
  exact ⟨_, some _, .bslice n ps h.1, by simpa using h.2⟩
 case mksl size bytes z x y =>
  simp only [aVal] at h
  split at h
  ·rename_i k n k' c he he'
   exact ⟨_, some _, .mksl size bytes z x y k k' n c he he' h.1, by simpa using h.2⟩
  ·exact h.elim
 case call f args =>
  obtain ⟨rs, h1, h4⟩ := h
  exact ⟨_, none, .call f args rs h1, by simpa using h4⟩
 case callv fv args =>
  split at h
  ·rename_i f a c he
   obtain ⟨rs, h1, h4⟩ := h
   exact ⟨_, none, .callv fv args f a c rs he h1, by simpa using h4⟩
  ·rename_i f a c he
   obtain ⟨rs, h1, h4⟩ := h
   exact ⟨_, none, .calls fv args f a c rs he h1, by simpa using h4⟩
  ·exact h.elim
 all_goals
  split at h
  ·rename_i s hs; exact pure' hs h
  ·exact h.elim
theorem QV.congr {P : Program} {e e' : Env} {H H' : Heap} {nb : Nat} (hH : ∀ (b : Nat) (r : Row), H[b]? = some r → H'[b]? = some r) {op : AOp} (h : ∀ x ∈ op.os, x.ev e = x.ev e') {s : S} {row : Option Row} (hq : QV P e H nb op s row) : QV P e' H' nb op s row := by
 cases hq with
 | fn _ _ hs => exact .fn _ _ (aFun_congr hH op h hs)
 | box x hx =>
  have := h x (by simp [AOp.os])
  rw [this] at hx ⊢
  exact .box x hx
 | bslice n ps hx =>
  have hm : ps.map (·.ev e) = ps.map (·.ev e') := List.map_congr_left fun x hx => h x (by simpa [AOp.os] using hx)
  rw [hm]
  exact .bslice n ps fun o ho => by rw [← h o (by simpa [AOp.os] using ho)]; exact hx o ho
 | mksl size bytes z x y k k' n c he he' hx =>
  exact .mksl size bytes z x y k k' n c (by rw [← h x (by simp [AOp.os])]; exact he) (by rw [← h y (by simp [AOp.os])]; exact he') hx
 | call f args rs h1 =>
  have hm : args.map (·.ev e) = args.map (·.ev e') := List.map_congr_left fun x hx => h x (by simpa [AOp.os] using hx)
  rw [hm] at h1
  exact .call f args rs (h1.mono hH)
 | callv fv args f a c rs he h1 =>
  have hm : args.map (·.ev e) = args.map (·.ev e') := List.map_congr_left fun x hx => h x (by simp [AOp.os, hx])
  rw [hm] at h1
  exact .callv fv args f a c rs (by rw [← h fv (by simp [AOp.os])]; exact he) (h1.mono hH)
 | calls fv args f a c rs he h1 =>
  have hm : args.map (·.ev e) = args.map (·.ev e') := List.map_congr_left fun x hx => h x (by simp [AOp.os, hx])
  rw [hm] at h1
  exact .calls fv args f a c rs (by rw [← h fv (by simp [AOp.os])]; exact he) (h1.mono hH)
section
variable {P : Program} {w : World} {μ : Mu} {H HF H1 : Heap} {env : Env} {nb : Nat}
/-- what has become of the rows: none, or one more under its name -/
def RowStep (μ : Mu) (H H1 : Heap) (nb : Nat) : Option Row → Prop
 | none => H1 = H
 | some r => μ nb = none ∧ H1[nb]? = some r ∧ H.length ≤ H1.length ∧ ∀ (b : Nat) (r : Row), b ≠ nb → H1[b]? = some r → r.st ≠ .dead → H[b]? = some r
theorem qv_sound (hrep : HRep w μ H) (hF : ∀ (b : Nat) (l : Loc), μ b = some l → HF[b]? = H[b]?) {a : Act} (hρ : Evs w (excl μ H) μ a.eval env) {o : Oper} {op : AOp} (hc : cOp P o = some op) {s : S} {row : Option Row} (hq : QV P env HF nb op s row)
  (hrow : RowStep μ H H1 nb row) {Q : Exit → Act → World → Prop} :
  o.wp P a w (fun a' w' => ∃ v μ', a' = a.put o.dst v ∧ Step w μ H w' μ' H1 v s ∧ ∀ b, (row.isSome = true → b ≠ nb) → μ' b = μ b) Q := by
 have val : ∀ {v : Value} {w' : World} {μ' : Mu}, (execOp a.eval o).run P w = .ok (.value v) w' → Step w μ H w' μ' H1 v s → (∀ b, (row.isSome = true → b ≠ nb) → μ' b = μ b) →
   o.wp P a w (fun a' w' => ∃ v μ', a' = a.put o.dst v ∧ Step w μ H w' μ' H1 v s ∧ ∀ b, (row.isSome = true → b ≠ nb) → μ' b = μ b) Q := by
  intro v w' μ' h1 h2 h3
  unfold Oper.wp
  rw [h1]
  exact ⟨v, μ', rfl, h2, h3⟩
 have callCase : ∀ {f : Nat} {cargs : Array Value} {args : List S} {rs : List V}, row = none → (∀ fn : Func, P.funcs[f]? = some fn → (fn.name == "runtime.NumGoroutine") = false → fn.body.isNone = false → (execOp a.eval o).run P w = .ok (.enter f cargs) w) →
   PW w (excl μ H) μ cargs args → CallR P f args HF rs → s = retS (rs.map .pure) →
   o.wp P a w (fun a' w' => ∃ v μ', a' = a.put o.dst v ∧ Step w μ H w' μ' H1 v s ∧ ∀ b, (row.isSome = true → b ≠ nb) → μ' b = μ b) Q := by
  intro f cargs args rs hn hr hp hf hs
  subst hn
  obtain rfl : H1 = H := hrow
  obtain ⟨fn, g1, g2, g3⟩ := hf.1
  unfold Oper.wp
  rw [hr fn g1 g2 g3]
  refine (hf.2 HF (fun _ _ h => h) w μ H1 cargs hrep hF hp.1 hp.2).mono fun e w' he => ?_
  obtain ⟨v, rfl, h1⟩ := he
  exact ⟨v, μ, rfl, hs ▸ h1, fun _ _ => rfl⟩
 cases hq with
 | fn _ _ h =>
  obtain rfl : H1 = H := hrow
  obtain ⟨v, h1, h2⟩ := fun_sound (P := P) hrep hF hρ hc h
  exact val h1 (Step.same hrep h2) (fun _ _ => rfl)
 | box x hx =>
  obtain ⟨r1, r2, r3, r4⟩ := hrow
  cases hop : o.op <;> simp only [cOp, hop] at hc <;> try (cases hc; done)
  case alloc t =>
   split at hc
   ·rename_i i hi
    split at hc
    ·rename_i z hz
     cases hv : cV z with
     | none => simp [hv] at hc
     | some s0 =>
      simp [hv] at hc
      subst hc
      simp only [O.ev] at hx r2
      obtain ⟨v, w', μ', h1, h2, h3⟩ := box_soundN (P := P) (elem := t) hrep (cV_sound hv) hx r1 r2 r3 r4
      have : (execOp a.eval o).run P w = .ok (.value v) w' := by
       simp only [Instr.box] at h1
       simp only [execOp, hop, Instr.alloc, Sem.run_bind, zeroValue, typeInfo, run_program, Result.andThen_ok, hi, Sem.run_pure, hz]
       rw [show (do pure (Value.pointer (some (← newVar t z))) : Sem Value) = (do let x ← newVar t z; pure (Value.pointer (some x))) from rfl] at h1
       simp only [Sem.run_bind, Sem.run_pure] at h1 ⊢
       rw [h1]; rfl
      exact val this h2 (fun b hb => h3 b (hb rfl))
    ·cases hc
   ·cases hc
  case box t x' =>
   cases hx' : cO x' with
   | none => simp [hx'] at hc
   | some y =>
    simp [hx'] at hc
    subst hc
    obtain ⟨v, w', μ', h1, h2, h3⟩ := box_soundN (P := P) (elem := t) hrep (hρ x' y hx') hx r1 r2 r3 r4
    exact val (v := v) (w' := w') (by simp [execOp, hop, h1]) h2 (fun b hb => h3 b (hb rfl))
  all_goals (exfalso; repeat' split at hc)
  all_goals first
   | (cases hc; done)
   | (obtain ⟨y, hy, hyy⟩ := Option.map_eq_some_iff.1 hc; cases hyy; done)
 | bslice n ps hx =>
  obtain ⟨r1, r2, r3, r4⟩ := hrow
  cases hop : o.op <;> simp only [cOp, hop] at hc <;> try (cases hc; done)
  case buildSlice t len parts =>
   split at hc
   ·rename_i e ht
    split at hc
    ·rename_i i hi
     split at hc
     ·rename_i z os hz hos
      split at hc
      ·rename_i hcnd
       obtain ⟨hidx, hbig, hpos⟩ := hcnd
       cases hc
       obtain ⟨l1, q1⟩ := cOs_sound hρ hos
       have hlen : len = ps.length := by
        have := congrArg List.length hidx
        simp at this
        simp at l1
        omega
       have hss : (ps.map (·.ev env)).length = ps.length := by simp
       obtain ⟨v, w', μ', h1, h2, h3⟩ := bslice_soundN (P := P) hrep ht hi hz hpos (vs := (parts.toList.map (·.2)).map a.eval) (ss := ps.map (·.ev env)) (by simp at l1 ⊢; exact l1) (by rw [hss, ← hlen]; exact hbig)
        (fun s hs => by obtain ⟨o', ho', rfl⟩ := List.mem_map.1 hs; exact hx o' ho') (fun k hk => q1 k (by simpa using hk)) r1 r2 r3 r4
       rw [hss, ← hlen] at h1
       have hparts : (((parts.toList.map (·.2)).map a.eval).zipIdx.map fun p => (p.2, p.1)).toArray = parts.map fun (i, x) => (i, a.eval x) := by
        apply Array.ext'
        simp only [List.map_map, Array.toList_map]
        apply List.ext_getElem?
        intro k
        simp only [List.getElem?_map, List.getElem?_zipIdx]
        have hk := congrArg (fun l : List Nat => l[k]?) hidx
        simp only [List.getElem?_map] at hk
        cases hp : parts.toList[k]? with
        | none => simp
        | some p =>
         rw [hp] at hk
         simp only [Option.map_some] at hk
         have hkl : k < len := by
          have := (List.getElem?_eq_some_iff.1 hp).1
          have h9 := congrArg List.length hidx
          simp at h9 this
          omega
         rw [List.getElem?_range hkl] at hk
         simp only [Option.some.injEq] at hk
         simp [hk]
       rw [hparts] at h1
       refine val (v := v) (w' := w') (by simp [execOp, hop, h1]) ?_ (fun b hb => h3 b (hb rfl))
       rw [hss] at h2
       exact h2
      ·cases hc
     ·cases hc
    ·cases hc
   ·cases hc
  all_goals (exfalso; repeat' split at hc)
  all_goals first
   | (cases hc; done)
   | (obtain ⟨y, hy, hyy⟩ := Option.map_eq_some_iff.1 hc; cases hyy; done)
 | mksl size bytes z x y kl kc n cc he he' hx =>
  obtain ⟨r1, r2, r3, r4⟩ := hrow
  cases hop : o.op <;> simp only [cOp, hop] at hc <;> try (cases hc; done)
  case makeSlice t l c =>
   split at hc
   ·rename_i e ht
    split at hc
    ·rename_i i x' y' hi hx' hy'
     split at hc
     ·rename_i z' hz
      split at hc
      ·rename_i s0 hs0
       split at hc
       ·rename_i hcnd
        obtain ⟨c2, c3, c4⟩ := hcnd
        cases hc
        obtain ⟨g0, g3, g1, g2⟩ := hx
        have e1 := int_at hρ hx' he
        have e2 := int_at hρ hy' he'
        obtain ⟨v, w', μ', h1, h2, h3⟩ := mksl_soundN (P := P) hrep ht hi hz c4 c2 c3 (cV_sound hs0) (kl := kl) (kc := kc) g0 g3 g1 g2 r1 r2 r3 r4
        exact val (v := v) (w' := w') (by simp [execOp, hop, e1, e2, h1]) h2 (fun b hb => h3 b (hb rfl))
       ·cases hc
      ·cases hc
     ·cases hc
    ·cases hc
   ·cases hc
  all_goals (exfalso; repeat' split at hc)
  all_goals first
   | (cases hc; done)
   | (obtain ⟨y, hy, hyy⟩ := Option.map_eq_some_iff.1 hc; cases hyy; done)
 | call f args rs h1 =>
  cases hop : o.op <;> simp only [cOp, hop] at hc <;> try (cases hc; done)
  case call c =>
   split at hc
   case h_5 f' hcal =>
    obtain ⟨q, hq, e⟩ := Option.map_eq_some_iff.1 hc
    cases e
    refine callCase (cargs := c.args.map a.eval) rfl (fun fn g1 g2 g3 => ?_) (cOs_pw hρ hq) h1 rfl
    have := callFunc_run (P := P) (w := w) (args := c.args.map a.eval) g1 g2 g3
    simp [execOp, hop, resolve, hcal, Deferred.ofValue, Act.eval, invoke] at this ⊢
    exact this
   all_goals (exfalso; repeat' split at hc)
   all_goals first
    | (cases hc; done)
    | (obtain ⟨y, hy, hyy⟩ := Option.map_eq_some_iff.1 hc; cases hyy; done)
  all_goals (exfalso; repeat' split at hc)
  all_goals first
   | (cases hc; done)
   | (obtain ⟨y, hy, hyy⟩ := Option.map_eq_some_iff.1 hc; cases hyy; done)
 | callv fv args f A C rs he h1 =>
  cases hop : o.op <;> simp only [cOp, hop] at hc <;> try (cases hc; done)
  case call c =>
   split at hc
   case h_6 x hx0 hcal =>
    split at hc
    ·rename_i x' q hx hq
     cases hc
     have hxv := hρ x fv hx
     rw [he] at hxv
     generalize hv : a.eval x = v at hxv
     cases hxv.pure_inv with
     | func _ fA fC _ _ l1 l2 q1 q2 =>
      refine callCase (cargs := fA ++ c.args.map a.eval ++ fC) rfl (fun fn g1 g2 g3 => ?_) (PW.append (PW.append (PW.pures l1 q1) (cOs_pw hρ hq)) (PW.pures l2 q2)) h1 rfl
      have := callFunc_run (P := P) (w := w) (args := fA ++ c.args.map a.eval ++ fC) g1 g2 g3
      simp only [execOp, hop, resolve, hcal, Deferred.ofValue, hv, Sem.run_bind, Sem.run_pure, Result.andThen_ok, invoke]
      exact this
    ·cases hc
   all_goals (exfalso; repeat' split at hc)
   all_goals first
    | (cases hc; done)
    | (obtain ⟨y, hy, hyy⟩ := Option.map_eq_some_iff.1 hc; cases hyy; done)
  all_goals (exfalso; repeat' split at hc)
  all_goals first
   | (cases hc; done)
   | (obtain ⟨y, hy, hyy⟩ := Option.map_eq_some_iff.1 hc; cases hyy; done)
 | calls fv args f A C rs he h1 =>
  cases hop : o.op <;> simp only [cOp, hop] at hc <;> try (cases hc; done)
  case call c =>
   split at hc
   case h_6 x hx0 hcal =>
    split at hc
    ·rename_i x' q hx hq
     cases hc
     have hxv := hρ x fv hx
     rw [he] at hxv
     generalize hv : a.eval x = v at hxv
     cases hxv with
     | func _ fA fC _ _ l1 l2 q1 q2 =>
      refine callCase (cargs := fA ++ c.args.map a.eval ++ fC) rfl (fun fn g1 g2 g3 => ?_) (PW.append (PW.append ⟨l1, q1⟩ (cOs_pw hρ hq)) ⟨l2, q2⟩) h1 rfl
      have := callFunc_run (P := P) (w := w) (args := fA ++ c.args.map a.eval ++ fC) g1 g2 g3
      simp only [execOp, hop, resolve, hcal, Deferred.ofValue, hv, Sem.run_bind, Sem.run_pure, Result.andThen_ok, invoke]
      exact this
    ·cases hc
   all_goals (exfalso; repeat' split at hc)
   all_goals first
    | (cases hc; done)
    | (obtain ⟨y, hy, hyy⟩ := Option.map_eq_some_iff.1 hc; cases hyy; done)
  all_goals (exfalso; repeat' split at hc)
  all_goals first
   | (cases hc; done)
   | (obtain ⟨y, hy, hyy⟩ := Option.map_eq_some_iff.1 hc; cases hyy; done)
end
end Go.Vm
/-! The abstract machine, part 18: a region that draws its order. -/
namespace Go.Vm
open Go Go.RowKit
/-- the operations ahead of the tail, one behind the other -/
def aQs (P : Program) : List AI → (Env → Heap → Prop) → Env → Heap → Prop
 | [], K => K
 | i :: is, K => fun env H => match i.guard with
  | none => aQop P i.op (fun s H' => aQs P is K (putD i.dst s env) H') env H (CallQ P)
  | some (t, b) => match env.get t with
   | .pure (.bool c) => (c = b → aQop P i.op (fun s H' => aQs P is K (putD i.dst s env) H') env H (CallQ P)) ∧ (c = !b → aQs P is K (putD i.dst (.tup []) env) H)
   | .tup [] => aQs P is K (putD i.dst (.tup []) env) H
   | _ => False
structure QI where
 s : S
 row : Option Row
 wanted : Bool
 deriving Inhabited
def QOk (P : Program) (i : AI) (env : Env) (H : Heap) (q : QI) : Prop :=
 match i.guard with
 | none => q.wanted = true ∧ QV P env H H.length i.op q.s q.row
 | some (t, b) => (env.get t = .tup [] ∧ q.s = .tup [] ∧ q.row = none) ∨ ∃ c, env.get t = .pure (.bool c) ∧ ((c = b ∧ q.wanted = true ∧ QV P env H H.length i.op q.s q.row) ∨ (c = (!b) ∧ q.wanted = false ∧ q.s = .tup [] ∧ q.row = none))
def QRun (P : Program) : List AI → List QI → Env → Heap → Prop
 | [], [], _, _ => True
 | i :: is, q :: qs, env, H => QOk P i env H q ∧ QRun P is qs (putD i.dst q.s env) (H ++ q.row.toList)
 | _, _, _, _ => False
def envOf : List AI → List QI → Env → Env
 | i :: is, q :: qs, env => envOf is qs (putD i.dst q.s env)
 | _, _, env => env
def heapOf : List QI → Heap → Heap
 | q :: qs, H => heapOf qs (H ++ q.row.toList)
 | [], H => H
theorem aQs_inv {P : Program} : ∀ (is : List AI) {K : Env → Heap → Prop} {env : Env} {H : Heap}, aQs P is K env H → ∃ qs, QRun P is qs env H ∧ K (envOf is qs env) (heapOf qs H)
 | [], K, env, H, h => ⟨[], trivial, h⟩
 | i :: is, K, env, H, h => by
  have run : aQop P i.op (fun s H' => aQs P is K (putD i.dst s env) H') env H (CallQ P) → ∃ q : QI, q.wanted = true ∧ QV P env H H.length i.op q.s q.row ∧ aQs P is K (putD i.dst q.s env) (H ++ q.row.toList) := by
   intro hq
   obtain ⟨s, row, h1, h2⟩ := aQop_inv hq
   exact ⟨⟨s, row, true⟩, rfl, h1, h2⟩
  simp only [aQs] at h
  split at h
  ·rename_i hg
   obtain ⟨q, h1, h2, h3⟩ := run h
   obtain ⟨qs, h4, h5⟩ := aQs_inv is h3
   exact ⟨q :: qs, ⟨by simp only [QOk, hg]; exact ⟨h1, h2⟩, h4⟩, h5⟩
  ·rename_i t b hg
   split at h
   ·rename_i c he
    by_cases hcb : c = b
    ·obtain ⟨q, h1, h2, h3⟩ := run (h.1 hcb)
     obtain ⟨qs, h4, h5⟩ := aQs_inv is h3
     exact ⟨q :: qs, ⟨by simp only [QOk, hg]; exact .inr ⟨c, he, .inl ⟨hcb, h1, h2⟩⟩, h4⟩, h5⟩
    ·have hc' : c = !b := by cases c <;> cases b <;> simp_all
     obtain ⟨qs, h4, h5⟩ := aQs_inv is (h.2 hc')
     refine ⟨⟨.tup [], none, false⟩ :: qs, ⟨by unfold QOk; rw [hg]; exact .inr ⟨c, he, .inr ⟨hc', rfl, rfl, rfl⟩⟩, ?_⟩, ?_⟩
     ·simpa using h4
     ·simpa [envOf, heapOf] using h5
   ·rename_i he
    obtain ⟨qs, h4, h5⟩ := aQs_inv is h
    refine ⟨⟨.tup [], none, false⟩ :: qs, ⟨by unfold QOk; rw [hg]; exact .inl ⟨he, rfl, rfl⟩, ?_⟩, ?_⟩
    ·simpa using h4
    ·simpa [envOf, heapOf] using h5
   ·exact h.elim
theorem QRun.len {P : Program} : ∀ {is : List AI} {qs : List QI} {env : Env} {H : Heap}, QRun P is qs env H → is.length = qs.length
 | [], [], _, _, _ => rfl
 | [], _ :: _, _, _, h => h.elim
 | _ :: _, [], _, _, h => h.elim
 | i :: is, q :: qs, _, _, h => by simp [QRun.len h.2]
/-- the state ahead of operation number k -/
theorem QRun.at {P : Program} : ∀ {is : List AI} {qs : List QI} {env : Env} {H : Heap}, QRun P is qs env H → ∀ {k : Nat} {i : AI} {q : QI}, is[k]? = some i → qs[k]? = some q → QOk P i (envOf (is.take k) (qs.take k) env) (heapOf (qs.take k) H) q
 | [], [], _, _, _, k, i, q, h, _ => by simp at h
 | [], _ :: _, _, _, h, _, _, _, _, _ => h.elim
 | _ :: _, [], _, _, h, _, _, _, _, _ => h.elim
 | i0 :: is, q0 :: qs, env, H, h, k, i, q, hi, hq => by
  cases k with
  | zero => simp at hi hq; subst hi hq; exact h.1
  | succ k => exact QRun.at h.2 (by simpa using hi) (by simpa using hq)
theorem putD_get (d : Option Nat) (s : S) (env : Env) (t : Nat) : (putD d s env).get t = if d = some t then s else env.get t := by
 cases d with
 | none => simp [putD]
 | some d => simp only [putD, Env.get_cons, Option.some.injEq]
/-- a slot that none of the operations writes -/
theorem envOf_other : ∀ (is : List AI) (qs : List QI) (env : Env) (t : Nat), (∀ i ∈ is, i.dst ≠ some t) → (envOf is qs env).get t = env.get t
 | [], _, _, _, _ => rfl
 | _ :: _, [], _, _, _ => rfl
 | i :: is, q :: qs, env, t, h => by
  simp only [envOf]
  rw [envOf_other is qs _ t (fun j hj => h j (by simp [hj])), putD_get, if_neg (h i (by simp))]
/-- a slot that one operation writes, and no later one -/
theorem envOf_at : ∀ (is : List AI) (qs : List QI) (env : Env) (t k : Nat) (i : AI) (q : QI), is[k]? = some i → qs[k]? = some q → i.dst = some t → (∀ j i', k < j → is[j]? = some i' → i'.dst ≠ some t) → (envOf is qs env).get t = q.s
 | [], _, _, _, _, _, _, h, _, _, _ => by simp at h
 | _ :: _, [], _, _, _, _, _, _, h, _, _ => by simp at h
 | i0 :: is, q0 :: qs, env, t, k, i, q, hi, hq, hd, hl => by
  simp only [envOf]
  cases k with
  | zero =>
   simp at hi hq
   subst hi hq
   rw [envOf_other is qs _ t (fun j hj => by
    obtain ⟨m, hm, rfl⟩ := List.mem_iff_getElem.1 hj
    exact hl (m + 1) _ (by omega) (by simp [List.getElem?_eq_getElem hm])), putD_get, if_pos hd]
  | succ k => exact envOf_at is qs _ t k i q (by simpa using hi) (by simpa using hq) hd (fun j i' hj hi' => hl (j + 1) i' (by omega) (by simpa using hi'))
theorem heapOf_append : ∀ (qs : List QI) (H : Heap), ∃ R, heapOf qs H = H ++ R ∧ ∀ r ∈ R, True
 | [], H => ⟨[], by simp [heapOf]⟩
 | q :: qs, H => by
  obtain ⟨R, h, _⟩ := heapOf_append qs (H ++ q.row.toList)
  exact ⟨q.row.toList ++ R, by rw [heapOf, h, List.append_assoc], fun _ _ => trivial⟩
theorem heapOf_take {qs : List QI} {H : Heap} (k : Nat) : ∃ R, heapOf qs H = heapOf (qs.take k) H ++ R := by
 induction qs generalizing k H with
 | nil => exact ⟨[], by simp [heapOf]⟩
 | cons q qs ih =>
  cases k with
  | zero =>
   obtain ⟨R, h, _⟩ := heapOf_append (q :: qs) H
   exact ⟨R, by rw [h]; simp [heapOf]⟩
  | succ k =>
   obtain ⟨R, h⟩ := ih (H := H ++ q.row.toList) k
   exact ⟨R, by simp only [heapOf, List.take_succ_cons]; exact h⟩
theorem heapOf_pre {qs : List QI} {H : Heap} (k : Nat) {b : Nat} {r : Row} (h : (heapOf (qs.take k) H)[b]? = some r) : (heapOf qs H)[b]? = some r := by
 obtain ⟨R, hR⟩ := heapOf_take (qs := qs) (H := H) k
 rw [hR, List.getElem?_append_left (List.getElem?_eq_some_iff.1 h).1]
 exact h
theorem heapOf_succ {qs : List QI} {H : Heap} {k : Nat} {q : QI} (hq : qs[k]? = some q) : heapOf (qs.take (k + 1)) H = heapOf (qs.take k) H ++ q.row.toList := by
 induction qs generalizing k H with
 | nil => simp at hq
 | cons q0 qs ih =>
  cases k with
  | zero => simp at hq; subst hq; simp [heapOf]
  | succ k => simp only [List.take_succ_cons, heapOf]; exact ih (by simpa using hq)
/-- the name of the row that operation k makes -/
def nameAt (qs : List QI) (H : Heap) (k : Nat) : Nat := (heapOf (qs.take k) H).length
theorem nameAt_mono {qs : List QI} {H : Heap} {j k : Nat} {q : QI} (hq : qs[j]? = some q) (hr : q.row.isSome = true) (h : j < k) : nameAt qs H j < nameAt qs H k := by
 have h1 : nameAt qs H (j + 1) = nameAt qs H j + 1 := by
  unfold nameAt
  rw [heapOf_succ hq]
  obtain ⟨r, hr⟩ := Option.isSome_iff_exists.1 hr
  simp [hr]
 have h2 : nameAt qs H (j + 1) ≤ nameAt qs H k := by
  unfold nameAt
  have : qs.take (j + 1) = (qs.take k).take (j + 1) := by rw [List.take_take, Nat.min_eq_left (by omega)]
  rw [this]
  obtain ⟨R, hR⟩ := heapOf_take (qs := qs.take k) (H := H) (j + 1)
  rw [hR]
  simp
 omega
theorem nameAt_inj {qs : List QI} {H : Heap} {j k : Nat} {q q' : QI} (hq : qs[j]? = some q) (hr : q.row.isSome = true) (hq' : qs[k]? = some q') (hr' : q'.row.isSome = true) (h : nameAt qs H j = nameAt qs H k) : j = k := by
 rcases Nat.lt_trichotomy j k with h1 | h1 | h1
 ·have := nameAt_mono (H := H) hq hr h1; omega
 ·exact h1
 ·have := nameAt_mono (H := H) hq' hr' h1; omega
theorem nameAt_ge {qs : List QI} {H : Heap} (k : Nat) : H.length ≤ nameAt qs H k := by
 unfold nameAt
 obtain ⟨R, h, _⟩ := heapOf_append (qs.take k) H
 rw [h]; simp
theorem nameAt_row {qs : List QI} {H : Heap} {k : Nat} {q : QI} {r : Row} (hq : qs[k]? = some q) (hr : q.row = some r) : (heapOf qs H)[nameAt qs H k]? = some r := by
 have h1 := heapOf_succ (H := H) hq
 refine heapOf_pre (k + 1) ?_
 rw [h1, hr]
 simp [nameAt]
/-- the rows of the operations that have been carried out -/
def deadAt (qs : List QI) (H : Heap) (L : Nat → Bool) (b : Nat) : Bool := (List.range qs.length).any fun j => !L j && (qs.getD j default).row.isSome && nameAt qs H j == b
def heapL (qs : List QI) (H : Heap) (L : Nat → Bool) : Heap := (heapOf qs H).mapIdx fun b r => if deadAt qs H L b = true then ⟨[], 0, .dead⟩ else r
theorem heapL_len (qs : List QI) (H : Heap) (L : Nat → Bool) : (heapL qs H L).length = (heapOf qs H).length := by simp [heapL]
theorem heapL_get (qs : List QI) (H : Heap) (L : Nat → Bool) (b : Nat) : (heapL qs H L)[b]? = ((heapOf qs H)[b]?).map fun r => if deadAt qs H L b = true then ⟨[], 0, .dead⟩ else r := by simp [heapL]
theorem heapL_of {qs : List QI} {H : Heap} {L : Nat → Bool} {b : Nat} (h : deadAt qs H L b = false) : (heapL qs H L)[b]? = (heapOf qs H)[b]? := by
 rw [heapL_get, h]
 cases (heapOf qs H)[b]? <;> rfl
theorem heapL_alive {qs : List QI} {H : Heap} {L : Nat → Bool} {b : Nat} {r : Row} (h : (heapL qs H L)[b]? = some r) (hd : r.st ≠ .dead) : deadAt qs H L b = false ∧ (heapOf qs H)[b]? = some r := by
 cases hb : deadAt qs H L b with
 | false => rw [heapL_of hb] at h; exact ⟨rfl, h⟩
 | true =>
  rw [heapL_get, hb] at h
  cases hx : (heapOf qs H)[b]? with
  | none => simp [hx] at h
  | some r' => simp [hx] at h; subst h; exact absurd rfl hd
theorem deadAt_true {qs : List QI} {H : Heap} {L : Nat → Bool} {b : Nat} (h : deadAt qs H L b = true) : ∃ j q, qs[j]? = some q ∧ L j = false ∧ q.row.isSome = true ∧ nameAt qs H j = b := by
 simp only [deadAt, List.any_eq_true, List.mem_range, Bool.and_eq_true, Bool.not_eq_true', beq_iff_eq] at h
 obtain ⟨j, hj, ⟨h1, h2⟩, h3⟩ := h
 refine ⟨j, qs[j], List.getElem?_eq_getElem hj, h1, ?_, h3⟩
 simpa [List.getD_eq_getElem?_getD, List.getElem?_eq_getElem hj] using h2
theorem deadAt_of {qs : List QI} {H : Heap} {L : Nat → Bool} {j : Nat} {q : QI} (hq : qs[j]? = some q) (h1 : L j = false) (h2 : q.row.isSome = true) : deadAt qs H L (nameAt qs H j) = true := by
 simp only [deadAt, List.any_eq_true, List.mem_range, Bool.and_eq_true, Bool.not_eq_true', beq_iff_eq]
 exact ⟨j, (List.getElem?_eq_some_iff.1 hq).1, ⟨h1, by rw [List.getD_eq_getElem?_getD, hq]; exact h2⟩, rfl⟩
end Go.Vm
/-! The abstract machine, part 19: every order that a region may draw comes to what the text's order comes to. -/
namespace Go.Vm
open Go Go.RowKit
def O.slot : O → Option Nat
 | .s t => some t
 | .c _ => none
def insSlots (i : AI) : List Nat := i.op.os.filterMap O.slot ++ (match i.guard with | some (t, _) => [t] | none => [])
def directs (o : Oper) : List Nat := (o.after.toList.filter (Region.binds .any ·)).map (·.on)
def ancs : List Oper → List (List Nat) → List (List Nat)
 | [], acc => acc
 | o :: r, acc => ancs r (acc ++ [(List.range acc.length).filter fun j => (directs o).contains j || (directs o).any fun k => (acc.getD k []).contains j])
def fullFrom (A : List (List Nat)) (n N : Nat) : Bool := (List.range N).all fun k => decide (k < n) || (List.range k).all fun j => (A.getD k []).contains j
/-- the look at a region: how many operations stand ahead of the tail -/
def regC (ops : Array Oper) (is : List AI) : Option Nat :=
 match (List.range (ops.size + 1)).find? (fun n => fullFrom (ancs ops.toList []) n ops.size) with
 | none => none
 | some n =>
  if ((List.range ops.size).all fun i => (directs (ops.getD i default)).all fun j => decide (j < i)) = true ∧
     ((List.range n).all fun i => (insSlots (is.getD i default)).all fun t => (List.range n).all fun j => (is.getD j default).dst != some t || (directs (ops.getD i default)).contains j) = true ∧
     ((List.range n).all fun j => (List.range n).all fun k => j == k || (is.getD j default).dst == none || (is.getD j default).dst != (is.getD k default).dst) = true ∧ n ≤ ops.size
  then some n else none
/-- a set of operations with each of which stand those that it waits for -/
def Closed (ops : Array Oper) (L : Nat → Bool) : Prop := ∀ i o, ops[i]? = some o → L i = true → ∀ d ∈ directs o, L d = true
theorem ancs_sound (ops : Array Oper) : ∀ (l : List Oper) (acc : List (List Nat)), (∀ j, l[j]? = ops[acc.length + j]?) →
  (∀ (i : Nat) (A : List Nat), acc[i]? = some A → ∀ L, Closed ops L → ∀ o, ops[i]? = some o → (∀ d ∈ directs o, L d = true) → ∀ j ∈ A, L j = true) →
  ∀ (i : Nat) (A : List Nat), (ancs l acc)[i]? = some A → ∀ L, Closed ops L → ∀ o, ops[i]? = some o → (∀ d ∈ directs o, L d = true) → ∀ j ∈ A, L j = true
 | [], acc, _, h => h
 | o0 :: r, acc, hl, h => by
  simp only [ancs]
  refine ancs_sound ops r _ (fun j => by
   have := hl (j + 1)
   simp only [List.length_append, List.length_singleton]
   rw [show acc.length + 1 + j = acc.length + (j + 1) by omega]
   simpa using this) ?_
  intro i A hA L hL o ho hd j hj
  rcases get_push hA with hA | ⟨rfl, rfl⟩
  ·exact h i A hA L hL o ho hd j hj
  ·have h0 : o0 = o := by
    have := hl 0
    simp at this
    rw [ho] at this
    exact Option.some.inj this
   subst h0
   simp only [List.mem_filter, List.mem_range, Bool.or_eq_true, List.contains_iff_mem, List.any_eq_true] at hj
   rcases hj.2 with h1 | ⟨k, h1, h2⟩
   ·exact hd j h1
   ·have hk : k < acc.length := by
     rcases Nat.lt_or_ge k acc.length with h3 | h3
     ·exact h3
     ·rw [List.getD_eq_getElem?_getD, List.getElem?_eq_none h3] at h2
      simp at h2
    have hok : ∃ ok, ops[k]? = some ok := by
     have := (Array.getElem?_eq_some_iff.1 ho).1
     exact ⟨_, Array.getElem?_eq_getElem (by omega)⟩
    obtain ⟨ok, hok⟩ := hok
    rw [List.getD_eq_getElem?_getD, List.getElem?_eq_getElem hk] at h2
    exact h k _ (List.getElem?_eq_getElem hk) L hL ok hok (fun d hd' => hL k ok hok (hd k h1) d hd') j h2
theorem ready_iff {ops : Array Oper} {listed : Array Bool} (hs : listed.size = ops.size) {j : Nat} : j ∈ Region.ready .any ops listed ↔ ∃ o, ops[j]? = some o ∧ listed.getD j false = false ∧ ∀ d ∈ directs o, listed.getD d false = true := by
 rw [mem_ready]
 have key : ∀ o, ops[j]? = some o → listed.getD j true = listed.getD j false := by
  intro o ho
  have := (Array.getElem?_eq_some_iff.1 ho).1
  simp only [Array.getD_eq_getD_getElem?]
  rw [Array.getElem?_eq_getElem (by omega)]
  rfl
 constructor
 ·rintro ⟨h0, o, ho, h⟩
  refine ⟨o, ho, by rw [← key o ho]; exact h0, fun d hd => ?_⟩
  simp only [directs, List.mem_map, List.mem_filter] at hd
  obtain ⟨e, ⟨h1, h2⟩, rfl⟩ := hd
  exact h e (by simpa using h1) h2
 ·rintro ⟨o, ho, h0, h⟩
  refine ⟨by rw [key o ho]; exact h0, o, ho, fun e he hb => h _ ?_⟩
  simp only [directs, List.mem_map, List.mem_filter]
  exact ⟨e, ⟨by simpa using he, hb⟩, rfl⟩
theorem setL {listed : Array Bool} {i : Nat} (hi : i < listed.size) (j : Nat) : (listed.setIfInBounds i true).getD j false = (if j = i then true else listed.getD j false) := by
 simp only [Array.getD_eq_getD_getElem?, Array.getElem?_setIfInBounds]
 by_cases h : i = j
 ·subst h; simp [hi]
 ·simp [h, Ne.symm h]
section
variable {P : Program} {w0 : World} {X0 : Nat → Prop} {μ0 : Mu} {n0 n : Nat} {ops : Array Oper} {is : List AI} {qs : List QI} {env : Env} {H : Heap}
/-- What stands while the operations ahead of the tail are carried out. -/
structure Inv (P : Program) (w0 : World) (X0 : Nat → Prop) (μ0 : Mu) (n0 n tl : Nat) (ops : Array Oper) (is : List AI) (qs : List QI) (env : Env) (H HL : Heap) (L : Nat → Bool) (a : Act) (w : World) (μ : Mu) : Prop where
 closed : Closed ops L
 tail : ∀ k, tl ≤ k → L k = false
 tmps : a.tmps.size = n0
 defers : a.defers = []
 done : ∀ (j : Nat) (q : QI) (i : AI) (t : Nat), j < n → qs[j]? = some q → is[j]? = some i → L j = true → i.dst = some t → Rep w (excl μ HL) μ (a.tmps.getD t undef) q.s
 other : ∀ (t : Nat), (∀ (j : Nat) (i : AI), j < n → is[j]? = some i → L j = true → i.dst ≠ some t) → Rep w (excl μ HL) μ (a.tmps.getD t undef) (env.get t)
 heap : HRep w μ HL
 unl : ∀ (j : Nat) (q : QI), qs[j]? = some q → L j = false → q.row.isSome = true → μ (nameAt qs H j) = none
 fr : Fr X0 w0 w
 own : ∀ k, owned μ HL k → X0 k ∨ w0.heap.size ≤ k
 pre : ∀ (b : Nat) (l : Loc), μ0 b = some l → μ b = some l
 xo : μ.xo = μ0.xo
/-- what the look at a region has told -/
structure Look (n : Nat) (ops : Array Oper) (is : List AI) : Prop where
 rk : ∃ r : Nat → Nat, ∀ i o, ops[i]? = some o → ∀ d ∈ directs o, d < ops.size ∧ r d < r i
 dep : ∀ (i j : Nat) (ai aj : AI) (o : Oper) (t : Nat), i < n → j < n → is[i]? = some ai → is[j]? = some aj → ops[i]? = some o → t ∈ insSlots ai → aj.dst = some t → j ∈ directs o ∧ j < i
 uniq : ∀ (j k : Nat) (aj ak : AI) (t : Nat), j < n → k < n → is[j]? = some aj → is[k]? = some ak → aj.dst = some t → ak.dst = some t → j = k
 le : n ≤ ops.size
structure Looked (n : Nat) (ops : Array Oper) (is : List AI) : Prop extends Look n ops is where
 lexT : ∀ (k : Nat) (o : Oper), n ≤ k → ops[k]? = some o → ∀ d ∈ directs o, d < k
 full : ∀ (k j : Nat) (o : Oper), n ≤ k → j < k → ops[k]? = some o → ∀ L, Closed ops L → (∀ d ∈ directs o, L d = true) → L j = true
theorem Look.less {m n : Nat} {ops : Array Oper} {is : List AI} (h : Look n ops is) (hm : m ≤ n) : Look m ops is :=
 ⟨h.rk, fun i j ai aj o t hi hj => h.dep i j ai aj o t (by omega) (by omega), fun j k aj ak t hj hk => h.uniq j k aj ak t (by omega) (by omega), by have := h.le; omega⟩
theorem regC_looked (_ : is.length = ops.size) (h : regC ops is = some n) : Looked n ops is := by
 unfold regC at h
 split at h
 ·cases h
 ·rename_i m hm
  split at h
  ·rename_i hc
   cases h
   obtain ⟨h1, h2, h3, h4⟩ := hc
   have hfull := List.find?_some hm
   simp only [List.all_eq_true, List.mem_range, decide_eq_true_eq] at h1
   have lex : ∀ i o, ops[i]? = some o → ∀ d ∈ directs o, d < i := by
    intro i o ho d hd
    obtain ⟨hlt, he⟩ := Array.getElem?_eq_some_iff.1 ho
    refine h1 i hlt d ?_
    rw [show ops.getD i default = o by simp [Array.getD_eq_getD_getElem?, ho]]
    exact hd
   refine ⟨⟨⟨id, fun i o ho d hd => ⟨by have := lex i o ho d hd; have := (Array.getElem?_eq_some_iff.1 ho).1; omega, lex i o ho d hd⟩⟩, ?_, ?_, h4⟩, fun k o _ ho => lex k o ho, ?_⟩
   ·intro i j ai aj o t hi hj hai haj ho ht hdst
    simp only [List.all_eq_true, List.mem_range, Bool.or_eq_true, bne_iff_ne, ne_eq, List.contains_iff_mem] at h2
    have := h2 i hi t (by rw [show is.getD i default = ai by simp [List.getD_eq_getElem?_getD, hai]]; exact ht) j hj
    rw [show is.getD j default = aj by simp [List.getD_eq_getElem?_getD, haj], show ops.getD i default = o by simp [Array.getD_eq_getD_getElem?, ho]] at this
    rcases this with h5 | h5
    ·exact absurd hdst h5
    ·exact ⟨h5, lex i o ho j h5⟩
   ·intro j k aj ak t hj hk haj hak hd1 hd2
    simp only [List.all_eq_true, List.mem_range, Bool.or_eq_true, bne_iff_ne, ne_eq, beq_iff_eq] at h3
    have := h3 j hj k hk
    rw [show is.getD j default = aj by simp [List.getD_eq_getElem?_getD, haj], show is.getD k default = ak by simp [List.getD_eq_getElem?_getD, hak]] at this
    rcases this with (h5 | h5) | h5
    ·exact h5
    ·rw [hd1] at h5; cases h5
    ·rw [hd1, hd2] at h5; exact absurd rfl h5
   ·intro k j o hk hj ho L hL hd
    simp only [fullFrom, List.all_eq_true, List.mem_range, Bool.or_eq_true, decide_eq_true_eq, List.contains_iff_mem] at hfull
    have hlt := (Array.getElem?_eq_some_iff.1 ho).1
    rcases hfull k hlt with h5 | h5
    ·omega
    ·have h6 := h5 j hj
     cases hA : (ancs ops.toList [])[k]? with
     | none => rw [List.getD_eq_getElem?_getD, hA] at h6; simp at h6
     | some A =>
      rw [List.getD_eq_getElem?_getD, hA] at h6
      exact ancs_sound ops ops.toList [] (fun j => by simp) (fun i A h => by simp at h) k A hA L hL o ho hd j h6
  ·cases h
theorem Inv.next (K : Look n ops is) {tl : Nat} {HL HL' : Heap} {L L' : Nat → Bool} {a : Act} {w w' : World} {μ μ' : Mu} (h : Inv P w0 X0 μ0 n0 n tl ops is qs env H HL L a w μ) {i : Nat} {ai : AI} {q : QI} {o : Oper} {v : Value} (hi : i < n) (hit : i < tl) (hai : is[i]? = some ai) (hq : qs[i]? = some q) (ho : ops[i]? = some o)
  (hL' : ∀ j, L' j = if j = i then true else L j) (hun : L i = false) (hready : ∀ d ∈ directs o, L d = true) (hdst : (ai.dst.all fun d => decide (d < n0)) = true)
  (st : Step w μ HL w' μ' HL' v q.s) (hμ : ∀ b, (q.row.isSome = true → b ≠ nameAt qs H i) → μ' b = μ b) : Inv P w0 X0 μ0 n0 n tl ops is qs env H HL' L' (a.put ai.dst v) w' μ' := by
 have keep : ∀ {u : Value} {s : S}, Rep w (excl μ HL) μ u s → Rep w' (excl μ' HL') μ' u s := fun hr => hr.keeps st.fr.keep.excl (excl_of st.own st.xo) st.ext
 have putOther : ∀ t, ai.dst ≠ some t → (a.put ai.dst v).tmps.getD t undef = a.tmps.getD t undef := by
  intro t ht
  cases hd : ai.dst with
  | none => simp [Act.put]
  | some d =>
   simp only [Act.put, Array.getD_eq_getD_getElem?]
   rw [Array.getElem?_setIfInBounds_ne (by rintro rfl; exact ht hd)]
 have putSame : ∀ t, ai.dst = some t → (a.put ai.dst v).tmps.getD t undef = v := by
  intro t ht
  have hlt : t < a.tmps.size := by rw [h.tmps]; simpa [ht] using hdst
  simp [ht, Act.put, Array.getD_eq_getD_getElem?, hlt]
 refine ⟨?_, ?_, ?_, ?_, ?_, ?_, st.heap, ?_, ?_, ?_, fun b l hb => st.ext b l (h.pre b l hb), st.xo.trans h.xo⟩
 ·intro j oj hj hjl d hd
  rw [hL'] at hjl ⊢
  by_cases hji : j = i
  ·subst hji
   rw [ho] at hj
   cases hj
   have := hready d hd
   split
   ·rfl
   ·exact this
  ·rw [if_neg hji] at hjl
   have := h.closed j oj hj hjl d hd
   split
   ·rfl
   ·exact this
 ·intro k hk
  rw [hL', if_neg (by omega)]
  exact h.tail k hk
 ·rw [← h.tmps]
  cases ai.dst <;> simp [Act.put]
 ·rw [← h.defers]
  cases ai.dst <;> simp [Act.put]
 ·intro j qj ij t hj hqj hij hjl hd
  rw [hL'] at hjl
  by_cases hji : j = i
  ·subst hji
   rw [hq] at hqj
   rw [hai] at hij
   cases hqj
   cases hij
   rw [putSame t hd]
   exact st.val
  ·rw [if_neg hji] at hjl
   rw [putOther t (fun h2 => hji (K.uniq j i ij ai t hj hi hij hai hd h2))]
   exact keep (h.done j qj ij t hj hqj hij hjl hd)
 ·intro t ht
  rw [putOther t (ht i ai hi hai (by rw [hL', if_pos rfl]))]
  refine keep (h.other t fun j ij hj hij hjl => ht j ij hj hij ?_)
  rw [hL']
  split
  ·rfl
  ·exact hjl
 ·intro j qj hqj hjl hr
  rw [hL'] at hjl
  by_cases hji : j = i
  ·rw [if_pos hji] at hjl; cases hjl
  ·rw [if_neg hji] at hjl
   rw [hμ _ (fun hr' heq => hji (nameAt_inj hqj hr hq hr' heq))]
   exact h.unl j qj hqj hjl hr
 ·refine ⟨st.fr.os.trans h.fr.os, st.fr.tape.trans h.fr.tape, st.fr.output.trans h.fr.output, Nat.le_trans h.fr.size st.fr.size, fun k hk hx => ?_⟩
  rw [st.fr.keep k (Nat.lt_of_lt_of_le hk h.fr.size) (fun ho' => by rcases h.own k ho' with h1 | h1; exact hx h1; omega)]
  exact h.fr.keep k hk hx
 ·intro k hk
  rcases st.own k hk with h1 | h1
  ·exact h.own k h1
  ·exact .inr (Nat.le_trans h.fr.size h1)
theorem guard_val' {a : Act} {w : World} {X : Nat → Prop} {μ : Mu} (hsz : a.tmps.size = n0) {j t : Nat} {c : Bool} (hr : Rep w X μ (a.tmps.getD t undef) (.pure (.bool c))) (hj : (ops[j]?).bind (·.dst) = some t) (ht : t < n0) : yielded ops a.tmps j = some c := by
 have h2 := hr.bool_inv
 have h3 : a.tmps[t]? = some (.bool c) := by
  rw [Array.getD_eq_getD_getElem?, Array.getElem?_eq_getElem (by rw [hsz]; exact ht)] at h2
  rw [Array.getElem?_eq_getElem (by rw [hsz]; exact ht)]
  simpa using h2
 simp [yielded, hj, h3]
theorem guard_skip' {a : Act} {w : World} {X : Nat → Prop} {μ : Mu} {j t : Nat} (hr : Rep w X μ (a.tmps.getD t undef) (.tup [])) (hj : (ops[j]?).bind (·.dst) = some t) : yielded ops a.tmps j = none := by
 have h2 : a.tmps.getD t undef = .tuple #[] := by
  generalize a.tmps.getD t undef = v at hr
  cases hr with
  | tup vs _ hl _ => rw [show vs = #[] from Array.eq_empty_of_size_eq_zero (by simpa using hl)]
 simp only [yielded, hj, Option.bind_some]
 cases ht : a.tmps[t]? with
 | none => rfl
 | some v =>
  rw [Array.getD_eq_getD_getElem?, ht] at h2
  simp only [Option.getD_some] at h2
  subst h2
  rfl
theorem map_get (l : List Nat) (f : Nat → S) (t : Nat) : (Env.get (l.map fun t => (t, f t)) t = if t ∈ l then f t else .dead) := by
 induction l with
 | nil => simp [Env.get]
 | cons x r ih =>
  simp only [List.map_cons, Env.get_cons, ih, List.mem_cons]
  by_cases h : x = t
  ·subst h; simp
  ·simp [h, Ne.symm h]
theorem cReg_get : ∀ {l : List Oper} {q : List AI}, cReg P n0 ops l = some q → l.length = q.length ∧ ∀ (k : Nat) (o : Oper), l[k]? = some o → ∃ i, q[k]? = some i ∧ cIns P n0 ops o = some i
 | [], q, h => by simp [cReg] at h; subst h; exact ⟨rfl, fun k o h => by simp at h⟩
 | o0 :: r, q, h => by
  simp only [cReg] at h
  split at h
  ·rename_i i q' hi hq
   cases h
   obtain ⟨h1, h2⟩ := cReg_get hq
   refine ⟨by simp [h1], fun k o ho => ?_⟩
   cases k with
   | zero => simp at ho; subst ho; exact ⟨i, rfl, hi⟩
   | succ k => simpa using h2 k o (by simpa using ho)
  ·cases h
/-- one operation ahead of the tail, whenever it is its turn -/
theorem inv_step (K : Look n ops is) (hc : cReg P n0 ops ops.toList = some is) (hrun : QRun P (is.take n) qs env H) {listed : Array Bool} (hs : listed.size = ops.size) {a : Act} {w : World} {μ : Mu}
  (h : Inv P w0 X0 μ0 n0 n n ops is qs env H (heapL qs H fun j => listed.getD j false) (fun j => listed.getD j false) a w μ) {i : Nat} (hi : i < n) (hr : i ∈ Region.ready .any ops listed) {Q : Exit → Act → World → Prop} :
  wpOp P ops Q i (fun a' w' => ∃ μ', Inv P w0 X0 μ0 n0 n n ops is qs env H (heapL qs H fun j => (listed.setIfInBounds i true).getD j false) (fun j => (listed.setIfInBounds i true).getD j false) a' w' μ') a w := by
 obtain ⟨o, ho, hun, hready⟩ := (ready_iff hs).1 hr
 obtain ⟨hlen, hget⟩ := cReg_get hc
 obtain ⟨ai, hai, hci⟩ := hget i o (by simpa using ho)
 have hisl : is.length = ops.size := by rw [← hlen]; simp
 have hql : qs.length = n := by rw [← hrun.len, List.length_take]; have := K.le; omega
 obtain ⟨q, hq⟩ : ∃ q, qs[i]? = some q := ⟨_, List.getElem?_eq_getElem (by omega)⟩
 have hit : (is.take n)[i]? = some ai := by rw [List.getElem?_take_of_lt hi]; exact hai
 have hok := hrun.at hit hq
 have htk : (is.take n).take i = is.take i := by rw [List.take_take, Nat.min_eq_left (by omega)]
 rw [htk] at hok
 generalize hE : envOf (is.take i) (qs.take i) env = Ei at hok
 have hLi : i < listed.size := by rw [hs]; have := K.le; omega
 have hset := setL hLi
 -- the slots that the operation looks at hold what they hold in the text's order
 have slotOk : ∀ t ∈ insSlots ai, Rep w (excl μ (heapL qs H fun j => listed.getD j false)) μ (a.tmps.getD t undef) (Ei.get t) := by
  intro t ht
  by_cases hex : ∃ (j : Nat) (aj : AI), j < n ∧ is[j]? = some aj ∧ aj.dst = some t
  ·obtain ⟨j, aj, hj, haj, hd⟩ := hex
   have hdep' := K.dep i j ai aj o t hi hj hai haj ho ht hd
   have hdep := hdep'.1
   have hji := hdep'.2
   have hjl := hready j hdep
   obtain ⟨qj, hqj⟩ : ∃ q, qs[j]? = some q := ⟨_, List.getElem?_eq_getElem (by omega)⟩
   have := envOf_at (is.take i) (qs.take i) env t j aj qj (by rw [List.getElem?_take_of_lt hji]; exact haj) (by rw [List.getElem?_take_of_lt hji]; exact hqj) hd (fun k ak hk hak hdk => by
    have hki : k < i := by
     have := (List.getElem?_eq_some_iff.1 hak).1
     simp at this
     omega
    rw [List.getElem?_take_of_lt hki] at hak
    have := K.uniq j k aj ak t hj (by omega) haj hak hd hdk
    omega)
   rw [← hE, this]
   exact h.done j qj aj t hj hqj haj hjl hd
  ·have := envOf_other (is.take i) (qs.take i) env t (fun ak hak hdk => by
    obtain ⟨k, hk, rfl⟩ := List.mem_iff_getElem.1 hak
    simp at hk
    refine hex ⟨k, is[k], by omega, List.getElem?_eq_getElem (by omega), ?_⟩
    simpa using hdk)
   rw [← hE, this]
   exact h.other t fun j aj hj haj _ hd => hex ⟨j, aj, hj, haj, hd⟩
 have hrec := hci
 unfold cIns at hci
 split at hci
 ·cases hci
 ·rename_i op hop
  split at hci
  ·rename_i hd
   have hdst : ai.dst = o.dst ∧ ai.op = op := by
    split at hci
    ·cases hci; exact ⟨rfl, rfl⟩
    ·split at hci
     ·split at hci
      ·cases hci; exact ⟨rfl, rfl⟩
      ·cases hci
     ·cases hci
   -- carried out
   have carried : QV P Ei (heapOf (qs.take i) H) (heapOf (qs.take i) H).length ai.op q.s q.row → o.wp P a w (fun a' w' => ∃ μ', Inv P w0 X0 μ0 n0 n n ops is qs env H (heapL qs H fun j => (listed.setIfInBounds i true).getD j false) (fun j => (listed.setIfInBounds i true).getD j false) a' w' μ') Q := by
    intro hqv
    have hqv' : QV P ((insSlots ai).map fun t => (t, Ei.get t)) (heapOf qs H) (nameAt qs H i) op q.s q.row := by
     rw [← hdst.2]
     refine QV.congr (fun b r hb => heapOf_pre i hb) (fun x hx => ?_) hqv
     cases x with
     | c s => rfl
     | s t =>
      simp only [O.ev]
      rw [map_get, if_pos]
      simp only [insSlots, List.mem_append, List.mem_filterMap]
      exact .inl ⟨.s t, hx, rfl⟩
    have hev : Evs w (excl μ (heapL qs H fun j => listed.getD j false)) μ a.eval ((insSlots ai).map fun t => (t, Ei.get t)) := evs_of fun t => by
     rw [map_get]
     split
     ·exact slotOk t (by assumption)
     ·exact .dead _
    have hF : ∀ (b : Nat) (l : Loc), μ b = some l → (heapOf qs H)[b]? = (heapL qs H fun j => listed.getD j false)[b]? := by
     intro b l hb
     refine (heapL_of ?_).symm
     cases hda : deadAt qs H (fun j => listed.getD j false) b with
     | false => rfl
     | true =>
      obtain ⟨j, qj, h1, h2, h3, h4⟩ := deadAt_true hda
      have := h.unl j qj h1 h2 h3
      rw [h4, hb] at this
      cases this
    have hdead : ∀ b, (q.row.isSome = true → b ≠ nameAt qs H i) → deadAt qs H (fun j => (listed.setIfInBounds i true).getD j false) b = deadAt qs H (fun j => listed.getD j false) b := by
     intro b hb
     cases h1 : deadAt qs H (fun j => listed.getD j false) b with
     | true =>
      obtain ⟨j, qj, g1, g2, g3, g4⟩ := deadAt_true h1
      rw [← g4]
      refine deadAt_of g1 ?_ g3
      simp only [hset]
      rw [if_neg]
      ·exact g2
      ·rintro rfl
       rw [hq] at g1
       cases g1
       exact hb g3 g4.symm
     | false =>
      cases h2 : deadAt qs H (fun j => (listed.setIfInBounds i true).getD j false) b with
      | false => rfl
      | true =>
       obtain ⟨j, qj, g1, g2, g3, g4⟩ := deadAt_true h2
       simp only [hset] at g2
       split at g2
       ·cases g2
       ·rw [← g4, deadAt_of g1 g2 g3] at h1
        cases h1
    have hrow : RowStep μ (heapL qs H fun j => listed.getD j false) (heapL qs H fun j => (listed.setIfInBounds i true).getD j false) (nameAt qs H i) q.row := by
     cases hqr : q.row with
     | none =>
      show heapL qs H (fun j => (listed.setIfInBounds i true).getD j false) = heapL qs H fun j => listed.getD j false
      apply List.ext_getElem?
      intro b
      rw [heapL_get, heapL_get, hdead b (fun h => by rw [hqr] at h; cases h)]
     | some r =>
      have hsome : q.row.isSome = true := by rw [hqr]; rfl
      refine ⟨h.unl i q hq hun hsome, ?_, by rw [heapL_len, heapL_len]; exact Nat.le_refl _, fun b r' hb hr' hd' => ?_⟩
      ·rw [heapL_of, nameAt_row hq hqr]
       cases hda : deadAt qs H (fun j => (listed.setIfInBounds i true).getD j false) (nameAt qs H i) with
       | false => rfl
       | true =>
        obtain ⟨j, qj, g1, g2, g3, g4⟩ := deadAt_true hda
        have := nameAt_inj g1 g3 hq hsome g4
        subst this
        simp [hset] at g2
      ·obtain ⟨g1, g2⟩ := heapL_alive hr' hd'
       rw [hdead b (fun _ => hb)] at g1
       rw [heapL_of g1]
       exact g2
    refine Oper.wp_mono ?_ (qv_sound h.heap hF hev hop hqv' hrow)
    rintro a' w' ⟨v, μ', rfl, h1, h2⟩
    rw [← hdst.1]
    exact ⟨μ', h.next K hi hi hai hq ho hset hun hready (by rw [hdst.1]; exact hd) h1 h2⟩
   -- passed by
   have passed : q.s = .tup [] → q.row = none → ∃ μ', Inv P w0 X0 μ0 n0 n n ops is qs env H (heapL qs H fun j => (listed.setIfInBounds i true).getD j false) (fun j => (listed.setIfInBounds i true).getD j false) (a.put o.dst undef) w μ' := by
    intro h1 h2
    refine ⟨μ, ?_⟩
    have hsame : heapL qs H (fun j => (listed.setIfInBounds i true).getD j false) = heapL qs H fun j => listed.getD j false := by
     apply List.ext_getElem?
     intro b
     rw [heapL_get, heapL_get]
     have : deadAt qs H (fun j => (listed.setIfInBounds i true).getD j false) b = deadAt qs H (fun j => listed.getD j false) b := by
      cases h3 : deadAt qs H (fun j => listed.getD j false) b with
      | true =>
       obtain ⟨j, qj, g1, g2, g3, g4⟩ := deadAt_true h3
       rw [← g4]
       refine deadAt_of g1 ?_ g3
       simp only [hset]
       rw [if_neg]
       ·exact g2
       ·rintro rfl
        rw [hq] at g1
        cases g1
        rw [h2] at g3
        cases g3
      | false =>
       cases h4 : deadAt qs H (fun j => (listed.setIfInBounds i true).getD j false) b with
       | false => rfl
       | true =>
        obtain ⟨j, qj, g1, g2, g3, g4⟩ := deadAt_true h4
        simp only [hset] at g2
        split at g2
        ·cases g2
        ·rw [← g4, deadAt_of g1 g2 g3] at h3
         cases h3
     rw [this]
    rw [← hdst.1]
    refine h.next K hi hi hai hq ho hset hun hready (by rw [hdst.1]; exact hd) ?_ (fun _ _ => rfl)
    rw [hsame, h1]
    exact Step.same h.heap rep_skip
   unfold wpOp
   rw [ho]
   unfold QOk at hok
   split at hci
   ·rename_i hg
    cases hci
    simp only at hok carried
    simp only [Region.wanted, hg, if_true]
    exact .inl (carried hok.2)
   ·rename_i k b hg
    split at hci
    ·rename_i t ht
     split at hci
     ·rename_i htn
      cases hci
      simp only at hok carried
      rcases hok with ⟨he, h1, h2⟩ | ⟨c, he, hcase⟩
      ·have hsl := slotOk t (by simp [insSlots])
       rw [he] at hsl
       simp only [Region.wanted, hg, guard_skip' hsl ht]
       exact passed h1 h2
      have hsl := slotOk t (by simp [insSlots])
      rw [he] at hsl
      have hy := guard_val' h.tmps hsl ht htn
      simp only [Region.wanted, hg, hy]
      rcases hcase with ⟨rfl, _, hqv⟩ | ⟨hcb, _, h1, h2⟩
      ·simp only [BEq.rfl, if_true]
       exact .inl (carried hqv)
      ·have hne : (some c == some b) = false := by subst hcb; cases b <;> rfl
       simp only [hne, Bool.false_eq_true, if_false]
       exact passed h1 h2
     ·cases hci
    ·cases hci
  ·cases hci
end
end Go.Vm
