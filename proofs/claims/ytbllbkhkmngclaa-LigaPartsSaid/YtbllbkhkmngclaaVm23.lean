/-
  The abstract machine, part 23: what a code does, reckoned step by step: equations that leave the continuation alone.
-/
import Derived.Test.YtbllbkhkmngclaaVm22
namespace Go.Vm
open Go Go.RowKit

/-- continuations, where simp does not look into them -/
class Kt where
  k : S → Heap → Prop
class Pt where
  p : Prop
/-- on with the value, if there is one -/
def onS (o : Option S) (H : Heap) [K : Kt] : Prop := match o with
  | some s => K.k s H
  | none => False
/-- on with the memory, if there is one -/
def onH (o : Option Heap) [K : Kt] : Prop := match o with
  | some H => K.k .dead H
  | none => False
/-- on with both -/
def onSH (o : Option (S × Heap)) [K : Kt] : Prop := match o with
  | some p => K.k p.1 p.2
  | none => False
/-- a branch -/
def onB (s : S) [A : Pt] [B : Pt] : Prop := match s with
  | .pure (.bool t) => (t = true → A.p) ∧ (t = false → B.p)
  | _ => False
/-- a guard: the operation that it looks at may have been passed over -/
def onG (s : S) [A : Pt] [B : Pt] [C : Pt] : Prop := match s with
  | .pure (.bool t) => (t = true → A.p) ∧ (t = false → B.p)
  | .tup [] => C.p
  | _ => False
/-- on, if it is so -/
def onIf (p : Prop) (s : S) (H : Heap) [K : Kt] : Prop := p → K.k s H
def onIf' (p : Prop) (s : S) (H : Heap) [K : Kt] : Prop := p ∧ K.k s H
def onC (P : Program) (f : Nat) (args : List S) (H : Heap) [K : Kt] : Prop := CallA P f args H K.k
def onQ (P : Program) (f : Nat) (args : List S) (H : Heap) [K : Kt] : Prop := CallQ P f args H fun r => K.k r H
theorem onS_some (s : S) (K : S → Heap → Prop) (H : Heap) : @onS (some s) H ⟨K⟩ = K s H := rfl
theorem onH_some (H : Heap) (K : S → Heap → Prop) : @onH (some H) ⟨K⟩ = K .dead H := rfl
theorem onSH_some (s : S) (H : Heap) (K : S → Heap → Prop) : @onSH (some (s, H)) ⟨K⟩ = K s H := rfl
theorem onB_true (A B : Prop) : @onB (.pure (.bool true)) ⟨A⟩ ⟨B⟩ = A := by simp [onB]
theorem onB_false (A B : Prop) : @onB (.pure (.bool false)) ⟨A⟩ ⟨B⟩ = B := by simp [onB]
theorem onG_true (A B C : Prop) : @onG (.pure (.bool true)) ⟨A⟩ ⟨B⟩ ⟨C⟩ = A := by simp [onG]
theorem onG_false (A B C : Prop) : @onG (.pure (.bool false)) ⟨A⟩ ⟨B⟩ ⟨C⟩ = B := by simp [onG]
theorem onG_skip (A B C : Prop) : @onG (.tup []) ⟨A⟩ ⟨B⟩ ⟨C⟩ = C := rfl
theorem onG_bool (t : Bool) (A B C : Prop) : @onG (.pure (.bool t)) ⟨A⟩ ⟨B⟩ ⟨C⟩ = @onB (.pure (.bool t)) ⟨A⟩ ⟨B⟩ := rfl
theorem onB_intro {t : Bool} {A B : Prop} (h1 : t = true → A) (h2 : t = false → B) : @onB (.pure (.bool t)) ⟨A⟩ ⟨B⟩ := ⟨h1, h2⟩
theorem onB_dec {p : Prop} [Decidable p] {A B : Prop} (h1 : p → A) (h2 : ¬ p → B) : @onB (.pure (.bool (decide p))) ⟨A⟩ ⟨B⟩ := ⟨fun h => h1 (of_decide_eq_true h), fun h => h2 (of_decide_eq_false h)⟩
theorem onIf_true (K : S → Heap → Prop) (s : S) (H : Heap) : @onIf' True s H ⟨K⟩ = K s H := by simp [onIf']
theorem onIf_intro {p : Prop} {K : S → Heap → Prop} {s : S} {H : Heap} (h : p → K s H) : @onIf p s H ⟨K⟩ := h
theorem onIf'_intro {p : Prop} {K : S → Heap → Prop} {s : S} {H : Heap} (h0 : p) (h : K s H) : @onIf' p s H ⟨K⟩ := ⟨h0, h⟩
theorem onC_intro {P : Program} {f : Nat} {args : List S} {H : Heap} {K : S → Heap → Prop} (h : CallA P f args H K) : @onC P f args H ⟨K⟩ := h
theorem onQ_intro {P : Program} {f : Nat} {args : List S} {H : Heap} {K : S → Heap → Prop} (h : CallQ P f args H fun r => K r H) : @onQ P f args H ⟨K⟩ := h
/-- a call of a function of data, whose arguments are data as they stand -/
theorem onC_q {P : Program} {f : Nat} {args : List S} {H : Heap} {K : S → Heap → Prop} {vs rs : List V} (hf : FnQ P f vs rs) (hv : toVs false H args = some vs) (hK : K (retS (rs.map .pure)) H) : @onC P f args H ⟨K⟩ := callA_q false vs rs hv hf (fun h => by cases h) hK
theorem onQ_q {P : Program} {f : Nat} {args : List S} {H : Heap} {K : S → Heap → Prop} {vs rs : List V} (hf : FnQ P f vs rs) (hv : toVs false H args = some vs) (hK : K (retS (rs.map .pure)) H) : @onQ P f args H ⟨K⟩ := callQ_q false vs rs hv hf (fun h => by cases h) hK
/-- the same, where rows of one's own are handed over to be read, and flat data comes back -/
theorem onC_r {P : Program} {f : Nat} {args : List S} {H : Heap} {K : S → Heap → Prop} {vs rs : List V} (hf : FnQ P f vs rs) (hv : toVs true H args = some vs) (hfl : ∀ r ∈ rs, r.flat = true) (hK : K (retS (rs.map .pure)) H) : @onC P f args H ⟨K⟩ := callA_q true vs rs hv hf (fun _ => .inl hfl) hK
theorem onQ_r {P : Program} {f : Nat} {args : List S} {H : Heap} {K : S → Heap → Prop} {vs rs : List V} (hf : FnQ P f vs rs) (hv : toVs true H args = some vs) (hfl : ∀ r ∈ rs, r.flat = true) (hK : K (retS (rs.map .pure)) H) : @onQ P f args H ⟨K⟩ := callQ_q true vs rs hv hf (fun _ => .inl hfl) hK
theorem onC_f {P : Program} {f : Nat} {args : List S} {H : Heap} {K : S → Heap → Prop} {vs rs : List V} (hf : FnF P f vs rs) (hv : toVs true H args = some vs) (hK : K (retS (rs.map .pure)) H) : @onC P f args H ⟨K⟩ := callA_q true vs rs hv hf.fnQ (fun _ => .inr hf) hK
theorem onQ_f {P : Program} {f : Nat} {args : List S} {H : Heap} {K : S → Heap → Prop} {vs rs : List V} (hf : FnF P f vs rs) (hv : toVs true H args = some vs) (hK : K (retS (rs.map .pure)) H) : @onQ P f args H ⟨K⟩ := callQ_q true vs rs hv hf.fnQ (fun _ => .inr hf) hK

/-- writing into a row -/
def stF (H : Heap) (n : Nat) (x v : S) : Option Heap := match x with
  | .ptr b i off => match H[b]? with
    | some r => match r.es[i]? with
      | some e => if r.st = .live ∧ v.okv = true ∧ v.cells.length = n ∧ off + n ≤ e.cells.length then some (H.set b ⟨r.es.set i (e.put off v), r.size, .live⟩) else none
      | none => none
    | none => none
  | _ => none
/-- the operations that make rows -/
def boxF (H : Heap) (s : S) : Option (S × Heap) := if s.okv = true then some (.ptr H.length 0 0, H ++ [⟨[s], s.cells.length, .live⟩]) else none
def bsF (H : Heap) (size : Nat) (ss : List S) : Option (S × Heap) := if (ss.all fun s => s.okv && s.cells.length == size) = true then some (.rsl H.length 0 ss.length, H ++ [⟨ss, size, .live⟩]) else none

section
variable {P : Program} {kp : Nat} {env : Env} {H : Heap} {K : S → Heap → Prop} {Q : APost} {KE : Env → Heap → Prop}

theorem aWx_skip : aWx P kp .skip Q env H = Q .normal env H := rfl
theorem aWx_reg {is : List AI} : aWx P kp (.reg is) Q env H = aOps P is (Q .normal) env H := rfl
theorem aWx_regq {p q : List AI} : aWx P kp (.regq p q) Q env H = aQs P p (aOps P q (Q .normal)) env H := rfl
theorem aWx_regs {p l q : List AI} {i : AI} : aWx P kp (.regs p i l q) Q env H = aQs P p (aOps P [i] (lateK P l q (Q .normal))) env H := rfl
theorem aWx_regm {p l q : List AI} : aWx P kp (.regm p q l) Q env H = aQs P p (stK P l q (Q .normal)) env H := rfl
theorem lateK_eq {l q : List AI} : lateK P l q KE env H = @onIf' (lateOk l env H) .dead H ⟨fun _ h => aOps P q KE env h⟩ := rfl
theorem stK_nil {l : List AI} : stK P l [] KE env H = KE env H := rfl
theorem stK_cons {l r : List AI} {i : AI} : stK P l (i :: r) KE env H = aOps P [i] (stL P l r KE) env H := rfl
theorem stL_eq {l r : List AI} : stL P l r KE env H = @onIf' (lateOk l env H) .dead H ⟨fun _ h => stK P l r KE env h⟩ := rfl
theorem lateOk_nil : lateOk [] env H = True := rfl
theorem lateOk_cons {d : Nat} {op : AOp} {l : List AI} : lateOk (⟨some d, none, op⟩ :: l) env H = (aFun env H op = some (env.get d) ∧ lateOk l env H) := rfl
theorem aWx_seq {a b : AC} : aWx P kp (.seq a b) Q env H = aWx P kp a (thenA (aWx P kp b Q) Q) env H := rfl
theorem aWx_cond {c : O} {a b : AC} : aWx P kp (.cond c a b) Q env H = @onB (c.ev env) ⟨aWx P kp a Q env H⟩ ⟨aWx P kp b Q env H⟩ := by
  simp only [aWx, onB]
  generalize c.ev env = s
  cases s <;> first | rfl | (rename_i v; cases v <;> rfl)
theorem aWx_block {id : Nat} {c : AC} : aWx P kp (.block id c) Q env H = aWx P kp c (blockA id Q) env H := rfl
theorem aWx_exit {id : Nat} : aWx P kp (.exit id) Q env H = Q (.exit id) env H := rfl
theorem aWx_ret : aWx P kp .ret Q env H = Q .ret env H := rfl
theorem thenA_n {n : Env → Heap → Prop} : thenA n Q .normal env H = n env H := rfl
theorem thenA_e {n : Env → Heap → Prop} {i : Nat} : thenA n Q (.exit i) env H = Q (.exit i) env H := rfl
theorem thenA_r {n : Env → Heap → Prop} : thenA n Q .ret env H = Q .ret env H := rfl
theorem thenA_n' {n : Env → Heap → Prop} : thenA n Q .normal = n := rfl
theorem thenA_e' {n : Env → Heap → Prop} {i : Nat} : thenA n Q (.exit i) = Q (.exit i) := rfl
theorem thenA_r' {n : Env → Heap → Prop} : thenA n Q .ret = Q .ret := rfl
theorem blockA_n {i : Nat} : blockA i Q .normal env H = Q .normal env H := rfl
theorem blockA_r {i : Nat} : blockA i Q .ret env H = Q .ret env H := rfl
theorem blockA_e {i j : Nat} : blockA i Q (.exit j) env H = if j = i then Q .normal env H else Q (.exit j) env H := by
  simp only [blockA]
  split <;> rfl
theorem blockA_same {i : Nat} : blockA i Q (.exit i) env H = Q .normal env H := by rw [blockA_e, if_pos rfl]
theorem aOps_nil : aOps P [] KE env H = KE env H := rfl
theorem aOps_cons {i : AI} {is : List AI} : aOps P (i :: is) KE env H = aIns P i (aOps P is KE) env H := rfl
theorem aIns_free {d : Option Nat} {op : AOp} : aIns P ⟨d, none, op⟩ KE env H = aVal P env H op fun s H' => KE (putD d s env) H' := rfl
theorem aIns_if {d : Option Nat} {op : AOp} {t : Nat} {b : Bool} : aIns P ⟨d, some (t, b), op⟩ KE env H = @onG (env.get t) ⟨if b = true then (aVal P env H op fun s H' => KE (putD d s env) H') else KE (putD d (.tup []) env) H⟩ ⟨if b = true then KE (putD d (.tup []) env) H else (aVal P env H op fun s H' => KE (putD d s env) H')⟩ ⟨KE (putD d (.tup []) env) H⟩ := by
  simp only [aIns, onG]
  generalize env.get t = s
  cases s <;> try rfl
  · rename_i v
    cases v <;> try rfl
    rename_i c
    cases b <;> cases c <;> simp
  · rename_i ss
    cases ss <;> rfl
theorem aQs_nil : aQs P [] KE env H = KE env H := rfl
theorem aQs_free {d : Option Nat} {op : AOp} {is : List AI} : aQs P (⟨d, none, op⟩ :: is) KE env H = aQop P op (fun s H' => aQs P is KE (putD d s env) H') env H (CallQ P) := rfl
theorem aQs_if {d : Option Nat} {op : AOp} {t : Nat} {b : Bool} {is : List AI} : aQs P (⟨d, some (t, b), op⟩ :: is) KE env H = @onG (env.get t) ⟨if b = true then aQop P op (fun s H' => aQs P is KE (putD d s env) H') env H (CallQ P) else aQs P is KE (putD d (.tup []) env) H⟩ ⟨if b = true then aQs P is KE (putD d (.tup []) env) H else aQop P op (fun s H' => aQs P is KE (putD d s env) H') env H (CallQ P)⟩ ⟨aQs P is KE (putD d (.tup []) env) H⟩ := by
  simp only [aQs, onG]
  generalize env.get t = s
  cases s <;> try rfl
  · rename_i v
    cases v <;> try rfl
    rename_i c
    cases b <;> cases c <;> simp
  · rename_i ss
    cases ss <;> rfl

/-! the operations -/
theorem aVal_mov {x : O} : aVal P env H (.mov x) K = @onS (some (x.ev env)) H ⟨K⟩ := rfl
theorem aVal_pick {c x y : O} : aVal P env H (.pick c x y) K = @onB (c.ev env) ⟨@onS (some (x.ev env)) H ⟨K⟩⟩ ⟨@onS (some (y.ev env)) H ⟨K⟩⟩ := by
  simp only [aVal, onB]
  generalize c.ev env = s
  cases s <;> first | rfl | (rename_i v; cases v <;> rfl)
theorem aVal_build {z : List S} {ps : List (Nat × Nat × O)} : aVal P env H (.build z ps) K = @onS (aFun env H (.build z ps)) H ⟨K⟩ := rfl
theorem aVal_load {g : Bool} {n : Nat} {x : O} : aVal P env H (.load g n x) K = @onS (aFun env H (.load g n x)) H ⟨K⟩ := rfl
theorem aVal_nilck {x : O} : aVal P env H (.nilck x) K = @onS (aFun env H (.nilck x)) H ⟨K⟩ := rfl
theorem aVal_bin {op : BinOp} {x y : O} : aVal P env H (.bin op x y) K = @onS (aFun env H (.bin op x y)) H ⟨K⟩ := rfl
theorem aVal_eqb {n : Bool} {x y : O} : aVal P env H (.eqb n x y) K = @onS (aFun env H (.eqb n x y)) H ⟨K⟩ := rfl
theorem aVal_eqv {n : Bool} {ks : List CK} {x y : O} : aVal P env H (.eqv n ks x y) K = @onS (aFun env H (.eqv n ks x y)) H ⟨K⟩ := rfl
theorem aVal_un {op : UnOp} {x : O} : aVal P env H (.un op x) K = @onS (aFun env H (.un op x)) H ⟨K⟩ := rfl
theorem aVal_conv {k : IntKind} {x : O} : aVal P env H (.conv k x) K = @onS (aFun env H (.conv k x)) H ⟨K⟩ := rfl
theorem aVal_mkfn {fn : Fn} {a c : List O} : aVal P env H (.mkfn fn a c) K = K (.func fn (a.map (·.ev env)) (c.map (·.ev env))) H := rfl
theorem aVal_slc {n : Nat} {x : O} {a b c : Option O} : aVal P env H (.slc n x a b c) K = @onS (aFun env H (.slc n x a b c)) H ⟨K⟩ := rfl
theorem aVal_fld {g : Bool} {a n : Nat} {x : O} : aVal P env H (.fld g a n x) K = @onS (aFun env H (.fld g a n x)) H ⟨K⟩ := rfl
theorem aVal_fldA {a : Nat} {x : O} : aVal P env H (.fldA a x) K = @onS (aFun env H (.fldA a x)) H ⟨K⟩ := rfl
theorem aVal_idxA {n : Nat} {x i : O} : aVal P env H (.idxA n x i) K = @onS (aFun env H (.idxA n x i)) H ⟨K⟩ := rfl
theorem aVal_idxAA {a n : Nat} {x i : O} : aVal P env H (.idxAA a n x i) K = @onS (aFun env H (.idxAA a n x i)) H ⟨K⟩ := rfl
theorem aVal_idxV {g : Bool} {a n : Nat} {x i : O} : aVal P env H (.idxV g a n x i) K = @onS (aFun env H (.idxV g a n x i)) H ⟨K⟩ := rfl
theorem aVal_idxS {x i : O} : aVal P env H (.idxS x i) K = @onS (aFun env H (.idxS x i)) H ⟨K⟩ := rfl
theorem aVal_ext {i : Nat} {x : O} : aVal P env H (.ext i x) K = @onS (aFun env H (.ext i x)) H ⟨K⟩ := rfl
theorem aVal_mx {x y : O} : aVal P env H (.mx x y) K = @onS (aFun env H (.mx x y)) H ⟨K⟩ := rfl
theorem aVal_mn {x y : O} : aVal P env H (.mn x y) K = @onS (aFun env H (.mn x y)) H ⟨K⟩ := rfl
/-- the length, which is known to be small -/
def lenF : S → Option (Nat × S)
  | .empty => some (0, .pure (.int .i64 0))
  | .pure (.sl es) => some (es.length, .pure (.int .i64 es.length))
  | .rsl _ _ n => some (n, .pure (.int .i64 n))
  | _ => none
def onL (o : Option (Nat × S)) (H : Heap) [K : Kt] : Prop := match o with
  | some p => p.1 ≤ 9223372036854775807 → K.k p.2 H
  | none => False
theorem onL_some {n : Nat} {s : S} : @onL (some (n, s)) H ⟨K⟩ = @onIf (n ≤ 9223372036854775807) s H ⟨K⟩ := rfl
theorem aVal_len {x : O} : aVal P env H (.len x) K = @onL (lenF (x.ev env)) H ⟨K⟩ := by
  simp only [aVal, onL, lenF]
  cases x.ev env with
  | pure v => cases v <;> rfl
  | empty => simp
  | _ => rfl
def lenSF : S → Option (Nat × S)
  | .pure (.str s) => some (s.length, .pure (.int .i64 s.length))
  | _ => none
theorem aVal_lenS {x : O} : aVal P env H (.lenS x) K = @onL (lenSF (x.ev env)) H ⟨K⟩ := by
  simp only [aVal, onL, lenSF]
  cases x.ev env with
  | pure v => cases v <;> rfl
  | _ => rfl
/-- whether a slice is nil is not known where it is empty -/
def onN (o : Option Nat) (neg : Bool) (H : Heap) [K : Kt] : Prop := match o with
  | some n => ∀ b : Bool, (n ≠ 0 → b = neg) → K.k (.pure (.bool b)) H
  | none => False
theorem onN_intro {n : Nat} {neg : Bool} (h : ∀ b : Bool, (n ≠ 0 → b = neg) → K (.pure (.bool b)) H) : @onN (some n) neg H ⟨K⟩ := h
theorem aVal_slnil {neg : Bool} {x : O} : aVal P env H (.slnil neg x) K = @onN (lenN (x.ev env)) neg H ⟨K⟩ := rfl
theorem aVal_box {x : O} : aVal P env H (.box x) K = @onSH (boxF H (x.ev env)) ⟨K⟩ := by
  simp only [aVal, onSH, boxF]
  by_cases h : (x.ev env).okv = true <;> simp [h]
theorem aVal_bslice {n : Nat} {ps : List O} : aVal P env H (.bslice n ps) K = @onSH (bsF H n (ps.map (·.ev env))) ⟨K⟩ := by
  have e : ((ps.map (·.ev env)).all fun s => s.okv && s.cells.length == n) = true ↔ ∀ o ∈ ps, (o.ev env).okv = true ∧ (o.ev env).cells.length = n := by simp
  simp only [aVal, onSH, bsF, e, List.length_map]
  by_cases h : ∀ o ∈ ps, (o.ev env).okv = true ∧ (o.ev env).cells.length = n
  · simp only [if_pos h, eq_iff_iff]
    exact ⟨fun x => x.2, fun x => ⟨h, x⟩⟩
  · simp only [if_neg h, eq_iff_iff]
    exact ⟨fun x => h x.1, fun x => x.elim⟩
theorem aVal_store {n : Nat} {x v : O} : aVal P env H (.store n x v) K = @onH (stF H n (x.ev env) (v.ev env)) ⟨K⟩ := by
  simp only [aVal, onH, stF]
  cases x.ev env <;> try rfl
  rename_i b i off
  simp only
  cases H[b]? <;> try rfl
  rename_i r
  simp only
  cases r.es[i]? with
  | none => simp
  | some e =>
    simp only
    by_cases h : r.st = .live ∧ (v.ev env).okv = true ∧ (v.ev env).cells.length = n ∧ off + n ≤ e.cells.length
    · rw [if_pos h]
      simp [h.1, h.2.1, h.2.2.1, h.2.2.2]
    · rw [if_neg h]
      simp only [eq_iff_iff, iff_false]
      rintro ⟨h1, h2, h3, h4, _⟩
      exact h ⟨h1, h2, h3, h4⟩
theorem aVal_call {f : Nat} {args : List O} : aVal P env H (.call f args) K = @onC P f (args.map (·.ev env)) H ⟨K⟩ := rfl
def fvF (s : S) (args : List S) : Option (Nat × List S) := match s with
  | .pure (.func (.func f) a c) => some (f, a.map .pure ++ args ++ c.map .pure)
  | .func (.func f) a c => some (f, a ++ args ++ c)
  | _ => none
def onF (P : Program) (o : Option (Nat × List S)) (H : Heap) [K : Kt] : Prop := match o with
  | some p => CallA P p.1 p.2 H K.k
  | none => False
theorem onF_some {f : Nat} {a : List S} : @onF P (some (f, a)) H ⟨K⟩ = @onC P f a H ⟨K⟩ := rfl
theorem aVal_callv {f : O} {args : List O} : aVal P env H (.callv f args) K = @onF P (fvF (f.ev env) (args.map (·.ev env))) H ⟨K⟩ := by
  simp only [aVal, onF, fvF]
  cases f.ev env with
  | pure v =>
    cases v <;> try rfl
    rename_i fn a c
    cases fn <;> rfl
  | func fn a c => cases fn <;> rfl
  | _ => rfl
/-- append -/
def appF (H : Heap) (size bytes : Nat) (x : S) (ys : Option (List S)) : Option (Prop × S × Heap) := match ys with
  | none => none
  | some ys => match x with
    | .empty => some ((∀ e ∈ ys, e.cells.length = size) ∧ ys.length * bytes ≤ 140737488355328 ∧ ys.length ≤ maxLen, .rsl H.length 0 ys.length, H ++ [⟨ys, size, .live⟩])
    | .rsl b off len => match H[b]? with
      | some r => some ((∀ e ∈ ys, e.cells.length = size) ∧ r.st = .live ∧ r.size = size ∧ off + len ≤ r.es.length ∧ (len + ys.length) * bytes ≤ 140737488355328 ∧ len + ys.length ≤ maxLen, .rsl H.length 0 (len + ys.length), H.set b ⟨[], r.size, .dead⟩ ++ [⟨(r.es.drop off).take len ++ ys, size, .live⟩])
      | none => none
    | _ => none
def onA (o : Option (Prop × S × Heap)) [K : Kt] : Prop := match o with
  | some p => p.1 ∧ K.k p.2.1 p.2.2
  | none => False
theorem onA_some {p : Prop} {s : S} : @onA (some (p, s, H)) ⟨K⟩ = @onIf' p s H ⟨K⟩ := rfl
theorem aVal_app {size bytes : Nat} {x y : O} : aVal P env H (.app size bytes x y) K = @onA (appF H size bytes (x.ev env) (srcOf H size (y.ev env))) ⟨K⟩ := by
  simp only [aVal, onA, appF]
  cases srcOf H size (y.ev env) with
  | none => rfl
  | some ys =>
    simp only
    cases x.ev env with
    | empty => simp [and_assoc]
    | rsl b off len =>
      simp only
      cases H[b]? with
      | none => simp
      | some r => simp [and_assoc]
    | _ => simp

/-- rows of zeros -/
def mkF (H : Heap) (size bytes : Nat) (z x y : S) : Option (Prop × S × Heap) := match x, y with
  | .pure (.int _ n), .pure (.int _ c) => some (0 ≤ n ∧ n ≤ c ∧ bytes * c.toNat ≤ 281474976710656 ∧ c.toNat ≤ maxLen, .rsl H.length 0 n.toNat, H ++ [⟨List.replicate c.toNat z, size, .live⟩])
  | _, _ => none
theorem mkF_int {size bytes : Nat} {z : S} {k k' : IntKind} {n c : Int} : mkF H size bytes z (.pure (.int k n)) (.pure (.int k' c)) = some (0 ≤ n ∧ n ≤ c ∧ bytes * c.toNat ≤ 281474976710656 ∧ c.toNat ≤ maxLen, .rsl H.length 0 n.toNat, H ++ [⟨List.replicate c.toNat z, size, .live⟩]) := rfl
theorem aVal_mksl {size bytes : Nat} {z : S} {x y : O} : aVal P env H (.mksl size bytes z x y) K = @onA (mkF H size bytes z (x.ev env) (y.ev env)) ⟨K⟩ := by
  simp only [aVal, onA, mkF]
  cases x.ev env with
  | pure v =>
    cases v <;> try rfl
    cases y.ev env with
    | pure v => cases v <;> rfl
    | _ => rfl
  | _ => rfl
theorem aQop_mksl {size bytes : Nat} {z : S} {x y : O} {CQ} : aQop P (.mksl size bytes z x y) K env H CQ = @onA (mkF H size bytes z (x.ev env) (y.ev env)) ⟨K⟩ := aVal_mksl (P := P)
theorem aQop_mov {x : O} {CQ} : aQop P (.mov x) K env H CQ = @onS (some (x.ev env)) H ⟨K⟩ := rfl
theorem aQop_pick {c x y : O} {CQ} : aQop P (.pick c x y) K env H CQ = @onB (c.ev env) ⟨@onS (some (x.ev env)) H ⟨K⟩⟩ ⟨@onS (some (y.ev env)) H ⟨K⟩⟩ := by
  simp only [aQop, onB]
  generalize c.ev env = s
  cases s <;> first | rfl | (rename_i v; cases v <;> rfl)
theorem aQop_build {z : List S} {ps : List (Nat × Nat × O)} {CQ} : aQop P (.build z ps) K env H CQ = @onS (aFun env H (.build z ps)) H ⟨K⟩ := rfl
theorem aQop_load {g : Bool} {n : Nat} {x : O} {CQ} : aQop P (.load g n x) K env H CQ = @onS (aFun env H (.load g n x)) H ⟨K⟩ := rfl
theorem aQop_nilck {x : O} {CQ} : aQop P (.nilck x) K env H CQ = @onS (aFun env H (.nilck x)) H ⟨K⟩ := rfl
theorem aQop_bin {op : BinOp} {x y : O} {CQ} : aQop P (.bin op x y) K env H CQ = @onS (aFun env H (.bin op x y)) H ⟨K⟩ := rfl
theorem aQop_eqb {n : Bool} {x y : O} {CQ} : aQop P (.eqb n x y) K env H CQ = @onS (aFun env H (.eqb n x y)) H ⟨K⟩ := rfl
theorem aQop_eqv {n : Bool} {ks : List CK} {x y : O} {CQ} : aQop P (.eqv n ks x y) K env H CQ = @onS (aFun env H (.eqv n ks x y)) H ⟨K⟩ := rfl
theorem aQop_un {op : UnOp} {x : O} {CQ} : aQop P (.un op x) K env H CQ = @onS (aFun env H (.un op x)) H ⟨K⟩ := rfl
theorem aQop_conv {k : IntKind} {x : O} {CQ} : aQop P (.conv k x) K env H CQ = @onS (aFun env H (.conv k x)) H ⟨K⟩ := rfl
theorem aQop_mkfn {fn : Fn} {a c : List O} {CQ} : aQop P (.mkfn fn a c) K env H CQ = K (.func fn (a.map (·.ev env)) (c.map (·.ev env))) H := rfl
theorem aQop_slc {n : Nat} {x : O} {a b c : Option O} {CQ} : aQop P (.slc n x a b c) K env H CQ = @onS (aFun env H (.slc n x a b c)) H ⟨K⟩ := rfl
theorem aQop_fld {g : Bool} {a n : Nat} {x : O} {CQ} : aQop P (.fld g a n x) K env H CQ = @onS (aFun env H (.fld g a n x)) H ⟨K⟩ := rfl
theorem aQop_fldA {a : Nat} {x : O} {CQ} : aQop P (.fldA a x) K env H CQ = @onS (aFun env H (.fldA a x)) H ⟨K⟩ := rfl
theorem aQop_idxA {n : Nat} {x i : O} {CQ} : aQop P (.idxA n x i) K env H CQ = @onS (aFun env H (.idxA n x i)) H ⟨K⟩ := rfl
theorem aQop_idxAA {a n : Nat} {x i : O} {CQ} : aQop P (.idxAA a n x i) K env H CQ = @onS (aFun env H (.idxAA a n x i)) H ⟨K⟩ := rfl
theorem aQop_idxV {g : Bool} {a n : Nat} {x i : O} {CQ} : aQop P (.idxV g a n x i) K env H CQ = @onS (aFun env H (.idxV g a n x i)) H ⟨K⟩ := rfl
theorem aQop_idxS {x i : O} {CQ} : aQop P (.idxS x i) K env H CQ = @onS (aFun env H (.idxS x i)) H ⟨K⟩ := rfl
theorem aQop_ext {i : Nat} {x : O} {CQ} : aQop P (.ext i x) K env H CQ = @onS (aFun env H (.ext i x)) H ⟨K⟩ := rfl
theorem aQop_mx {x y : O} {CQ} : aQop P (.mx x y) K env H CQ = @onS (aFun env H (.mx x y)) H ⟨K⟩ := rfl
theorem aQop_mn {x y : O} {CQ} : aQop P (.mn x y) K env H CQ = @onS (aFun env H (.mn x y)) H ⟨K⟩ := rfl
theorem aQop_len {x : O} {CQ} : aQop P (.len x) K env H CQ = @onS (aFun env H (.len x)) H ⟨K⟩ := rfl
theorem aQop_lenS {x : O} {CQ} : aQop P (.lenS x) K env H CQ = @onS (aFun env H (.lenS x)) H ⟨K⟩ := rfl
theorem aQop_box {x : O} {CQ} : aQop P (.box x) K env H CQ = @onSH (boxF H (x.ev env)) ⟨K⟩ := aVal_box (P := P)
theorem aQop_bslice {n : Nat} {ps : List O} {CQ} : aQop P (.bslice n ps) K env H CQ = @onSH (bsF H n (ps.map (·.ev env))) ⟨K⟩ := aVal_bslice (P := P)
theorem aQop_call {f : Nat} {args : List O} : aQop P (.call f args) K env H (CallQ P) = @onQ P f (args.map (·.ev env)) H ⟨K⟩ := rfl
def onFQ (P : Program) (o : Option (Nat × List S)) (H : Heap) [K : Kt] : Prop := match o with
  | some p => CallQ P p.1 p.2 H fun r => K.k r H
  | none => False
theorem onFQ_some {f : Nat} {a : List S} : @onFQ P (some (f, a)) H ⟨K⟩ = @onQ P f a H ⟨K⟩ := rfl
theorem aQop_callv {f : O} {args : List O} : aQop P (.callv f args) K env H (CallQ P) = @onFQ P (fvF (f.ev env) (args.map (·.ev env))) H ⟨K⟩ := by
  simp only [aQop, onFQ, fvF]
  cases f.ev env with
  | pure v =>
    cases v <;> try rfl
    rename_i fn a c
    cases fn <;> rfl
  | func fn a c => cases fn <;> rfl
  | _ => rfl

def onR (o : Option (List S)) (H : Heap) [K : Kt] : Prop := match o with
  | some ss => K.k (retS ss) H
  | none => False
theorem onR_some {ss : List S} : @onR (some ss) H ⟨K⟩ = K (retS ss) H := rfl
theorem PostX_n {rs : List RS} : PostX rs K .normal env H = @onR (resVals env H rs) H ⟨K⟩ := rfl
theorem PostX_r {rs : List RS} : PostX rs K .ret env H = @onR (resVals env H rs) H ⟨K⟩ := rfl
end
end Go.Vm
