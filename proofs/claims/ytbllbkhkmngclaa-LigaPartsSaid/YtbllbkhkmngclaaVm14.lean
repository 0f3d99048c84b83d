/-
  The abstract machine, part 14: code.
-/
import Derived.Test.YtbllbkhkmngclaaVm13
import Derived.Scope
namespace Go.Vm
open Go Go.RowKit

inductive Ex where
  | normal
  | exit (id : Nat)
  | ret
  deriving DecidableEq, Inhabited
def Ex.up : Ex → Exit
  | .normal => .normal
  | .exit i => .exit i
  | .ret => .ret

inductive AC where
  | skip
  | reg (is : List AI)
  | regq (pre post : List AI)
  | regs (core : List AI) (st : AI) (lates post : List AI)
  | regm (core sts lates : List AI)
  | seq (a b : AC)
  | cond (c : O) (a b : AC)
  | block (id : Nat) (c : AC)
  | loop (c : AC)
  | exit (id : Nat)
  | ret
  deriving Inhabited
/-- a region that draws its order -/
def AC.isReg : AC → Bool
  | .regq _ _ | .regs _ _ _ _ | .regm _ _ _ => true
  | _ => false

abbrev APost := Ex → Env → Heap → Prop
def thenA (next : Env → Heap → Prop) (Q : APost) : APost
  | .normal => next
  | .exit i => Q (.exit i)
  | .ret => Q .ret
def blockA (id : Nat) (Q : APost) : APost
  | .normal => Q .normal
  | .exit i => if i = id then Q .normal else Q (.exit i)
  | .ret => Q .ret

/-- a loop: an invariant over a type of one's own, and a measure -/
def LoopW (kp : Nat) (W : APost → Env → Heap → Prop) (Q : APost) (env : Env) (H : Heap) : Prop :=
  ∃ (T : Type) (I : T → Env → Heap → Prop) (m : T → Nat), Up kp (fun e h => ∃ x, I x e h) env H ∧
    ∀ x e h, I x e h → W (thenA (Up kp fun e1 h1 => ∃ y, I y e1 h1 ∧ m y < m x) Q) e h

/-- a region whose operations may be carried out in several orders (part 15) -/
def aQop (P : Program) (op : AOp) (K : S → Heap → Prop) (env : Env) (H : Heap) (CQ : Nat → List S → Heap → (S → Prop) → Prop) : Prop :=
  match op with
  | .pick c x y => match c.ev env with
    | .pure (.bool t) => (t = true → K (x.ev env) H) ∧ (t = false → K (y.ev env) H)
    | _ => False
  | .box x => aVal P env H (.box x) K
  | .bslice n ps => aVal P env H (.bslice n ps) K
  | .mksl n b z x y => aVal P env H (.mksl n b z x y) K
  | .call f args => CQ f (args.map (·.ev env)) H fun r => K r H
  | .callv fv args => match fv.ev env with
    | .pure (.func (.func f) a c) => CQ f (a.map .pure ++ args.map (·.ev env) ++ c.map .pure) H fun r => K r H
    | .func (.func f) a c => CQ f (a ++ args.map (·.ev env) ++ c) H fun r => K r H
    | _ => False
  | op => match aFun env H op with
    | some s => K s H
    | none => False

def aWp (P : Program) (kp : Nat) (RQ : AC → (Env → Heap → Prop) → Env → Heap → Prop) : AC → APost → Env → Heap → Prop
  | .skip, Q => Q .normal
  | .reg is, Q => aOps P is (Q .normal)
  | .regq pre post, Q => RQ (.regq pre post) (Q .normal)
  | .regs core st lates post, Q => RQ (.regs core st lates post) (Q .normal)
  | .regm core sts lates, Q => RQ (.regm core sts lates) (Q .normal)
  | .seq a b, Q => aWp P kp RQ a (thenA (Up kp (aWp P kp RQ b Q)) Q)
  | .cond c a b, Q => fun env H => match c.ev env with
    | .pure (.bool t) => (t = true → aWp P kp RQ a Q env H) ∧ (t = false → aWp P kp RQ b Q env H)
    | _ => False
  | .block id c, Q => aWp P kp RQ c (blockA id Q)
  | .loop c, Q => LoopW kp (aWp P kp RQ c) Q
  | .exit id, Q => Q (.exit id)
  | .ret, Q => Q .ret

/-! ### the translation -/
def cIns (P : Program) (n : Nat) (ops : Array Oper) (o : Oper) : Option AI :=
  match cOp P o with
  | none => none
  | some op => if (o.dst.all fun d => decide (d < n)) = true then (match o.guard with
    | none => some ⟨o.dst, none, op⟩
    | some (j, b) => match (ops[j]?).bind (·.dst) with
      | some t => if t < n then some ⟨o.dst, some (t, b), op⟩ else none
      | none => none) else none
def cReg (P : Program) (n : Nat) (ops : Array Oper) : List Oper → Option (List AI)
  | [] => some []
  | o :: r => match cIns P n ops o, cReg P n ops r with
    | some i, some q => some (i :: q)
    | _, _ => none
def cCode (P : Program) (n : Nat) (RC : Array Oper → List AI → Option AC) : Code → Option AC
  | .skip => some .skip
  | .region _ ops draw => match cReg P n ops ops.toList with
    | some is => if draw = true then RC ops is else some (.reg is)
    | none => none
  | .seq a b => match cCode P n RC a, cCode P n RC b with
    | some a, some b => some (.seq a b)
    | _, _ => none
  | .cond c a b => match cO c, cCode P n RC a, cCode P n RC b with
    | some c, some a, some b => some (.cond c a b)
    | _, _, _ => none
  | .block id c => (cCode P n RC c).map (.block id)
  | .loop c => (cCode P n RC c).map .loop
  | .exit id => some (.exit id)
  | .label _ => some .skip
  | .scope c => cCode P n RC c
  | .ret => some .ret
  | _ => none

/-! ### regions in the order of the text -/
section
variable {P : Program} {w0 : World} {X0 : Nat → Prop} {μ0 : Mu} {n : Nat}

/-- the state behind: any place for the rows -/
def Lands (w0 : World) (X0 : Nat → Prop) (μ0 : Mu) (n : Nat) (K : Env → Heap → Prop) (a : Act) (w : World) : Prop := ∃ env H μ, K env H ∧ Rel w0 X0 μ0 n env H a w μ

theorem Rel.put {env : Env} {H H' : Heap} {a : Act} {w w' : World} {μ μ' : Mu} {v : Value} {s : S} (h : Rel w0 X0 μ0 n env H a w μ) (st : Step w μ H w' μ' H' v s) {d : Option Nat} (hd : (d.all fun d => decide (d < n)) = true) :
    Rel w0 X0 μ0 n (putD d s env) H' (a.put d v) w' μ' := by
  cases d with
  | none => exact h.step_none st
  | some d => exact h.step st d (by simpa using hd)

theorem guard_val {env : Env} {H : Heap} {a : Act} {w : World} {μ : Mu} (h : Rel w0 X0 μ0 n env H a w μ) {ops : Array Oper} {j t : Nat} {c : Bool} (hj : (ops[j]?).bind (·.dst) = some t) (ht : t < n) (he : env.get t = .pure (.bool c)) :
    yielded ops a.tmps j = some c := by
  have h1 := h.env t
  rw [he] at h1
  have h2 := h1.bool_inv
  have h3 : a.tmps[t]? = some (.bool c) := by
    rw [Array.getD_eq_getD_getElem?, Array.getElem?_eq_getElem (by rw [h.tmps]; exact ht)] at h2
    rw [Array.getElem?_eq_getElem (by rw [h.tmps]; exact ht)]
    simpa using h2
  simp [yielded, hj, h3]

theorem guard_skip {env : Env} {H : Heap} {a : Act} {w : World} {μ : Mu} (h : Rel w0 X0 μ0 n env H a w μ) {ops : Array Oper} {j t : Nat} (hj : (ops[j]?).bind (·.dst) = some t) (he : env.get t = .tup []) :
    yielded ops a.tmps j = none := by
  have h1 := h.env t
  rw [he] at h1
  have h2 : a.tmps.getD t undef = .tuple #[] := by
    generalize a.tmps.getD t undef = v at h1
    cases h1 with
    | tup vs _ hl _ => rw [show vs = #[] from Array.eq_empty_of_size_eq_zero (by simpa using hl)]
  simp only [yielded, hj, Option.bind_some]
  cases ht : a.tmps[t]? with
  | none => rfl
  | some v =>
    rw [Array.getD_eq_getD_getElem?, ht] at h2
    simp only [Option.getD_some] at h2
    subst h2
    rfl
theorem rep_skip {w : World} {X : Nat → Prop} {μ : Mu} : Rep w X μ undef (.tup []) := .tup #[] [] rfl (fun i hi => by simp at hi)
theorem ins_sound {env : Env} {H : Heap} {a : Act} {w : World} {μ : Mu} (h : Rel w0 X0 μ0 n env H a w μ) {ops : Array Oper} {o : Oper} {i : AI} (hc : cIns P n ops o = some i) {K : Env → Heap → Prop} (hK : aIns P i K env H) {Q : Exit → Act → World → Prop} {j : Nat} (hj : ops[j]? = some o) :
    wpOp P ops Q j (Lands w0 X0 μ0 n K) a w := by
  unfold cIns at hc
  split at hc
  · cases hc
  · rename_i op hop
    split at hc
    · rename_i hd
      have run : aVal P env H op (fun s H' => K (putD o.dst s env) H') → o.wp P a w (Lands w0 X0 μ0 n K) Q := by
        intro hv
        refine Oper.wp_mono ?_ (op_sound h.heap (evs_of h.env) hop hv)
        rintro a' w' ⟨v, s, H', μ', rfl, h1, h2⟩
        exact ⟨_, _, μ', h1, h.put h2 hd⟩
      unfold wpOp
      rw [hj]
      split at hc
      · rename_i hg
        cases hc
        simp only [aIns] at hK
        simp only [Region.wanted, hg, if_true]
        exact .inl (run hK)
      · rename_i k b hg
        split at hc
        · rename_i t ht
          split at hc
          · rename_i htn
            cases hc
            simp only [aIns] at hK
            split at hK
            · rename_i c he
              have hy := guard_val h ht htn he
              simp only [Region.wanted, hg, hy]
              by_cases hcb : c = b
              · subst hcb
                simp only [BEq.rfl, if_true]
                exact .inl (run (hK.1 rfl))
              · have hne : (some c == some b) = false := by simpa using hcb
                simp only [hne, Bool.false_eq_true, if_false]
                refine ⟨_, _, μ, hK.2 (by cases c <;> cases b <;> simp_all), h.put (Step.same h.heap rep_skip) hd⟩
            · rename_i he
              simp only [Region.wanted, hg, guard_skip h ht he]
              exact ⟨_, _, μ, hK, h.put (Step.same h.heap rep_skip) hd⟩
            · exact hK.elim
          · cases hc
        · cases hc
    · cases hc

theorem ops_sound {ops : Array Oper} {Q : Exit → Act → World → Prop} {K : Env → Heap → Prop} (hQ : ∀ a w, Lands w0 X0 μ0 n K a w → Q .normal a w) : ∀ (l : List Oper) (is : List AI) (k : Nat), (∀ j, l[j]? = ops[k + j]?) → cReg P n ops l = some is →
    ∀ {env : Env} {H : Heap} {a : Act} {w : World} {μ : Mu}, Rel w0 X0 μ0 n env H a w μ → aOps P is K env H → wpOps P ops Q (List.range' k l.length) a w
  | [], is, k, _, hc, env, H, a, w, μ, h, hK => by
    simp [cReg] at hc
    subst hc
    exact hQ _ _ ⟨env, H, μ, hK, h⟩
  | o :: r, is, k, hl, hc, env, H, a, w, μ, h, hK => by
    simp only [cReg] at hc
    split at hc
    · rename_i i q hi hq
      cases hc
      simp only [List.length_cons, List.range'_succ]
      rw [wpOps_cons]
      have h0 : ops[k]? = some o := by have := hl 0; simpa using this.symm
      refine wpOp_mono ?_ (ins_sound h hi hK h0)
      rintro a' w' ⟨env', H', μ', h1, h2⟩
      exact ops_sound hQ r q (k + 1) (fun j => by have := hl (j + 1); rw [show k + 1 + j = k + (j + 1) by omega]; simpa using this) hq h2 h1
    · cases hc

/-- what the translation of a region that draws its order is good for -/
def RegQ (P : Program) (RQ : AC → (Env → Heap → Prop) → Env → Heap → Prop) (RC : Array Oper → List AI → Option AC) : Prop :=
  (∀ ops is ac, RC ops is = some ac → ac.isReg = true) ∧ ∀ (w0 : World) (X0 : Nat → Prop) (μ0 : Mu) (n : Nat) (ops : Array Oper) (is : List AI) (ac : AC) (id : Nat) (K : Env → Heap → Prop) (Q : Exit → Act → World → Prop) (env : Env) (H : Heap) (a : Act) (w : World) (μ : Mu), P.follows .mixedOrders = true →
    (∀ a w, Lands w0 X0 μ0 n K a w → Q .normal a w) → cReg P n ops ops.toList = some is → RC ops is = some ac → Rel w0 X0 μ0 n env H a w μ → RQ ac K env H → (Code.region id ops true).wp P Q a w

/-- the postcondition of a piece of code -/
def PostA (w0 : World) (X0 : Nat → Prop) (μ0 : Mu) (n : Nat) (Q : APost) : Exit → Act → World → Prop := fun e a w => ∃ ex : Ex, e = ex.up ∧ Lands w0 X0 μ0 n (Q ex) a w

theorem least {p : Nat → Prop} (h : ∃ k, p k) : ∃ k, p k ∧ ∀ j, p j → k ≤ j := by
  obtain ⟨k, hk⟩ := h
  induction k using Nat.strongRecOn with
  | _ k ih =>
    by_cases hj : ∃ j, j < k ∧ p j
    · obtain ⟨j, h1, h2⟩ := hj
      exact ih j h1 h2
    · exact ⟨k, hk, fun j hpj => by
        rcases Nat.lt_or_ge j k with h | h
        · exact absurd ⟨j, h, hpj⟩ hj
        · exact h⟩

theorem wp_loop_any {c : Code} {Q : Exit → Act → World → Prop} {a : Act} {w : World} {T : Type} (J : T → Act → World → Prop) (m : T → Nat) (h0 : ∃ x, J x a w)
    (round : ∀ x a w, J x a w → c.wp P (Exit.then (fun a' w' => ∃ y, J y a' w' ∧ m y < m x) Q) a w) : (Code.loop c).wp P Q a w := by
  have hex : ∀ a w, (∃ x, J x a w) → ∃ k, (∃ x, J x a w ∧ m x = k) ∧ ∀ j, (∃ x, J x a w ∧ m x = j) → k ≤ j := fun a w ⟨x, hx⟩ => least ⟨m x, x, hx, rfl⟩
  refine wp_loop (fun a w => ∃ x, J x a w) (fun a w => open Classical in if h : ∃ x, J x a w then (hex a w h).choose else 0) h0 ?_
  intro a1 w1 h1
  obtain ⟨⟨x, hx, hm⟩, _⟩ := (hex a1 w1 h1).choose_spec
  refine wp_mono (round x a1 w1 hx) ?_
  intro e a2 w2 he
  cases e with
  | normal =>
    obtain ⟨y, hy, hlt⟩ := he
    have h2 : ∃ x, J x a2 w2 := ⟨y, hy⟩
    refine ⟨h2, ?_⟩
    simp only [dif_pos h1, dif_pos h2]
    have := (hex a2 w2 h2).choose_spec.2 (m y) ⟨y, hy, rfl⟩
    omega
  | _ => exact he

theorem aWp_sound {kp : Nat} {RQ : AC → (Env → Heap → Prop) → Env → Heap → Prop} {RC : Array Oper → List AI → Option AC} (hm : P.follows .mixedOrders = true) (hR : RegQ P RQ RC) (hk : ∀ (b : Nat) (l : Loc), μ0 b = some l → b < kp) :
    ∀ (c : Code) (ac : AC), cCode P n RC c = some ac → ∀ {Q : APost} {env : Env} {H : Heap} {a : Act} {w : World} {μ : Mu}, Rel w0 X0 μ0 n env H a w μ → aWp P kp RQ ac Q env H → c.wp P (PostA w0 X0 μ0 n Q) a w
  | .skip, ac, hc, Q, env, H, a, w, μ, h, hw => by
    cases hc
    exact wp_skip ⟨.normal, rfl, env, H, μ, hw, h⟩
  | .label l, ac, hc, Q, env, H, a, w, μ, h, hw => by
    cases hc
    exact wp_label ⟨.normal, rfl, env, H, μ, hw, h⟩
  | .exit id, ac, hc, Q, env, H, a, w, μ, h, hw => by
    cases hc
    exact wp_exit ⟨.exit id, rfl, env, H, μ, hw, h⟩
  | .ret, ac, hc, Q, env, H, a, w, μ, h, hw => by
    cases hc
    exact wp_ret ⟨.ret, rfl, env, H, μ, hw, h⟩
  | .region id ops draw, ac, hc, Q, env, H, a, w, μ, h, hw => by
    simp only [cCode] at hc
    split at hc
    · rename_i is his
      cases draw with
      | true =>
        simp only [if_true] at hc
        have hreg := hR.1 ops is ac hc
        have fin := fun hw' => hR.2 w0 X0 μ0 n ops is ac id (Q .normal) (PostA w0 X0 μ0 n Q) env H a w μ hm (fun a w hl => ⟨.normal, rfl, hl⟩) his hc h hw'
        cases ac with
        | regq pre post => exact fin hw
        | regs core st lates post => exact fin hw
        | regm core sts lates => exact fin hw
        | _ => cases hreg
      | false =>
        simp only [Bool.false_eq_true, if_false] at hc
        cases hc
        refine wp_region ?_
        have := ops_sound (P := P) (ops := ops) (Q := PostA w0 X0 μ0 n Q) (K := Q .normal) (fun a w hl => ⟨.normal, rfl, hl⟩) ops.toList is 0 (fun j => by simp) his h hw
        rw [List.range_eq_range']
        simpa using this
    · cases hc
  | .seq x y, ac, hc, Q, env, H, a, w, μ, h, hw => by
    simp only [cCode] at hc
    split at hc
    · rename_i ax ay hx hy
      cases hc
      simp only [aWp] at hw
      refine wp_seq (wp_mono (aWp_sound hm hR hk x ax hx h hw) ?_)
      rintro e a' w' ⟨ex, rfl, env', H', μ', h1, h2⟩
      cases ex with
      | normal =>
        obtain ⟨E, HE, μ2, h3, h4⟩ := Up.rel h1 hk h2
        exact aWp_sound hm hR hk y ay hy h4 h3
      | exit i => exact ⟨.exit i, rfl, env', H', μ', h1, h2⟩
      | ret => exact ⟨.ret, rfl, env', H', μ', h1, h2⟩
    · cases hc
  | .cond c x y, ac, hc, Q, env, H, a, w, μ, h, hw => by
    simp only [cCode] at hc
    split at hc
    · rename_i oc ax ay ho hx hy
      cases hc
      simp only [aWp] at hw
      split at hw
      · rename_i t he
        have hv := evs_of h.env c oc ho
        rw [he] at hv
        refine wp_cond_split hv.bool_inv (fun ht => aWp_sound hm hR hk x ax hx h (hw.1 ht)) (fun ht => aWp_sound hm hR hk y ay hy h (hw.2 ht))
      · exact hw.elim
    · cases hc
  | .block id c, ac, hc, Q, env, H, a, w, μ, h, hw => by
    simp only [cCode] at hc
    obtain ⟨ax, hx, rfl⟩ := Option.map_eq_some_iff.1 hc
    simp only [aWp] at hw
    refine wp_block (wp_mono (aWp_sound hm hR hk c ax hx h hw) ?_)
    rintro e a' w' ⟨ex, rfl, env', H', μ', h1, h2⟩
    cases ex with
    | normal => exact ⟨.normal, rfl, env', H', μ', h1, h2⟩
    | exit i =>
      simp only [blockA] at h1
      simp only [Ex.up, Exit.inBlock]
      split at h1
      · rename_i hi
        rw [if_pos hi]
        exact ⟨.normal, rfl, env', H', μ', h1, h2⟩
      · rename_i hi
        rw [if_neg hi]
        exact ⟨.exit i, rfl, env', H', μ', h1, h2⟩
    | ret => exact ⟨.ret, rfl, env', H', μ', h1, h2⟩
  | .loop c, ac, hc, Q, env, H, a, w, μ, h, hw => by
    simp only [cCode] at hc
    obtain ⟨ax, hx, rfl⟩ := Option.map_eq_some_iff.1 hc
    simp only [aWp] at hw
    obtain ⟨T, I, m, h1, h2⟩ := hw
    refine wp_loop_any (fun x a w => Lands w0 X0 μ0 n (I x) a w) m ?_ ?_
    · obtain ⟨E, HE, μ2, ⟨x, h3⟩, h4⟩ := Up.rel h1 hk h
      exact ⟨x, E, HE, μ2, h3, h4⟩
    · rintro x a1 w1 ⟨env1, H1, μ1, h3, h4⟩
      refine wp_mono (aWp_sound hm hR hk c ax hx h4 (h2 x env1 H1 h3)) ?_
      rintro e a' w' ⟨ex, rfl, env', H', μ', h5, h6⟩
      cases ex with
      | normal =>
        obtain ⟨E, HE, μ2, ⟨y, h7, h8⟩, h9⟩ := Up.rel h5 hk h6
        exact ⟨y, ⟨E, HE, μ2, h7, h9⟩, h8⟩
      | exit i => exact ⟨.exit i, rfl, env', H', μ', h5, h6⟩
      | ret => exact ⟨.ret, rfl, env', H', μ', h5, h6⟩
  | .scope c, ac, hc, Q, env, H, a, w, μ, h, hw => by
    simp only [cCode] at hc
    refine wp_scope_straight (wp_mono (aWp_sound hm hR hk c ac hc h hw) ?_)
    rintro e a' w' ⟨ex, rfl, h1⟩
    cases ex <;> exact ⟨_, rfl, h1⟩
  | .rangeFunc .., _, hc, _, _, _, _, _, _, _, _ => by cases hc
  | .goto _, _, hc, _, _, _, _, _, _, _, _ => by cases hc
  | .refuse _, _, hc, _, _, _, _, _, _, _, _ => by cases hc
end
end Go.Vm
