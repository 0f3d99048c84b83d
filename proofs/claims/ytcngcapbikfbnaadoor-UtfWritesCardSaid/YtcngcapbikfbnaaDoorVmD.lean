/-
  The abstract machine that the proofs of this seat walk on. No condition.
-/
import Derived.Test.YtcngcapbikfbnaaDoorVmC
import Derived.OpenShut
import Derived.Carry
import Derived.ProofKit
/-! The abstract machine, part 23: what a code does, reckoned step by step: equations that leave the continuation alone. -/
namespace Go.Vm
open Go Go.RowKit
/-- continuations, where simp does not look into them -/
class Kt where
 k : S → Heap → Prop
class Pt where
 p : Prop
/-- on with the value, if there is one -/
def onS (o : Option S) (H : Heap) [K : Kt] : Prop := match o with
 | some s => K.k s H
 | none => False
/-- on with the memory, if there is one -/
def onH (o : Option Heap) [K : Kt] : Prop := match o with
 | some H => K.k .dead H
 | none => False
/-- on with both -/
def onSH (o : Option (S × Heap)) [K : Kt] : Prop := match o with
 | some p => K.k p.1 p.2
 | none => False
/-- a branch -/
def onB (s : S) [A : Pt] [B : Pt] : Prop := match s with
 | .pure (.bool t) => (t = true → A.p) ∧ (t = false → B.p)
 | _ => False
/-- a guard: the operation that it looks at may have been passed over -/
def onG (s : S) [A : Pt] [B : Pt] [C : Pt] : Prop := match s with
 | .pure (.bool t) => (t = true → A.p) ∧ (t = false → B.p)
 | .tup [] => C.p
 | _ => False
/-- on, if it is so -/
def onIf (p : Prop) (s : S) (H : Heap) [K : Kt] : Prop := p → K.k s H
def onIf' (p : Prop) (s : S) (H : Heap) [K : Kt] : Prop := p ∧ K.k s H
def onC (P : Program) (f : Nat) (args : List S) (H : Heap) [K : Kt] : Prop := CallA P f args H K.k
def onQ (P : Program) (f : Nat) (args : List S) (H : Heap) [K : Kt] : Prop := CallQ P f args H fun r => K.k r H
theorem onS_some (s : S) (K : S → Heap → Prop) (H : Heap) : @onS (some s) H ⟨K⟩ = K s H := rfl
theorem onH_some (H : Heap) (K : S → Heap → Prop) : @onH (some H) ⟨K⟩ = K .dead H := rfl
theorem onSH_some (s : S) (H : Heap) (K : S → Heap → Prop) : @onSH (some (s, H)) ⟨K⟩ = K s H := rfl
theorem onB_true (A B : Prop) : @onB (.pure (.bool true)) ⟨A⟩ ⟨B⟩ = A := by simp [onB]
theorem onB_false (A B : Prop) : @onB (.pure (.bool false)) ⟨A⟩ ⟨B⟩ = B := by simp [onB]
theorem onG_true (A B C : Prop) : @onG (.pure (.bool true)) ⟨A⟩ ⟨B⟩ ⟨C⟩ = A := by simp [onG]
theorem onG_false (A B C : Prop) : @onG (.pure (.bool false)) ⟨A⟩ ⟨B⟩ ⟨C⟩ = B := by simp [onG]
theorem onG_skip (A B C : Prop) : @onG (.tup []) ⟨A⟩ ⟨B⟩ ⟨C⟩ = C := rfl
theorem onG_bool (t : Bool) (A B C : Prop) : @onG (.pure (.bool t)) ⟨A⟩ ⟨B⟩ ⟨C⟩ = @onB (.pure (.bool t)) ⟨A⟩ ⟨B⟩ := rfl
theorem onB_dec {p : Prop} [Decidable p] {A B : Prop} (h1 : p → A) (h2 : ¬ p → B) : @onB (.pure (.bool (decide p))) ⟨A⟩ ⟨B⟩ := ⟨fun h => h1 (of_decide_eq_true h), fun h => h2 (of_decide_eq_false h)⟩
theorem onIf_true (K : S → Heap → Prop) (s : S) (H : Heap) : @onIf' True s H ⟨K⟩ = K s H := by simp [onIf']
theorem onIf_intro {p : Prop} {K : S → Heap → Prop} {s : S} {H : Heap} (h : p → K s H) : @onIf p s H ⟨K⟩ := h
theorem onIf'_intro {p : Prop} {K : S → Heap → Prop} {s : S} {H : Heap} (h0 : p) (h : K s H) : @onIf' p s H ⟨K⟩ := ⟨h0, h⟩
/-- a call of a function of data, whose arguments are data as they stand -/
theorem onC_q {P : Program} {f : Nat} {args : List S} {H : Heap} {K : S → Heap → Prop} {vs rs : List V} (hf : FnQ P f vs rs) (hv : toVs false H args = some vs) (hK : K (retS (rs.map .pure)) H) : @onC P f args H ⟨K⟩ := callA_q false vs rs hv hf (fun h => by cases h) hK
/-- writing into a row -/
def stF (H : Heap) (n : Nat) (x v : S) : Option Heap := match x with
 | .ptr b i off => match H[b]? with
  | some r => match r.es[i]? with
   | some e => if r.st = .live ∧ v.okv = true ∧ v.cells.length = n ∧ off + n ≤ e.cells.length then some (H.set b ⟨r.es.set i (e.put off v), r.size, .live⟩) else none
   | none => none
  | none => none
 | _ => none
/-- the operations that make rows -/
def boxF (H : Heap) (s : S) : Option (S × Heap) := if s.okv = true then some (.ptr H.length 0 0, H ++ [⟨[s], s.cells.length, .live⟩]) else none
def bsF (H : Heap) (size : Nat) (ss : List S) : Option (S × Heap) := if (ss.all fun s => s.okv && s.cells.length == size) = true then some (.rsl H.length 0 ss.length, H ++ [⟨ss, size, .live⟩]) else none
section
variable {P : Program} {kp : Nat} {env : Env} {H : Heap} {K : S → Heap → Prop} {Q : APost} {KE : Env → Heap → Prop}
theorem aWx_skip : aWx P kp .skip Q env H = Q .normal env H := rfl
theorem aWx_reg {is : List AI} : aWx P kp (.reg is) Q env H = aOps P is (Q .normal) env H := rfl
theorem aWx_regq {p q : List AI} : aWx P kp (.regq p q) Q env H = aQs P p (aOps P q (Q .normal)) env H := rfl
theorem aWx_regs {p l q : List AI} {i : AI} : aWx P kp (.regs p i l q) Q env H = aQs P p (aOps P [i] (lateK P l q (Q .normal))) env H := rfl
theorem aWx_regm {p l q : List AI} : aWx P kp (.regm p q l) Q env H = aQs P p (stK P l q (Q .normal)) env H := rfl
theorem aWx_regd {a b c d : List AI} : aWx P kp (.regd a b c d) Q env H = aQs P a (aOps P b (aQs P c (aOps P d (Q .normal)))) env H := rfl
theorem aWx_rege {a b l c d : List AI} : aWx P kp (.rege a b l c d) Q env H = aQs P a (aOps P b (lateQ P l c d (Q .normal))) env H := rfl
theorem lateQ_eq {l c d : List AI} : lateQ P l c d KE env H = @onIf' (lateOk l env H) .dead H ⟨fun _ h => aQs P c (aOps P d KE) env h⟩ := rfl
theorem lateK_eq {l q : List AI} : lateK P l q KE env H = @onIf' (lateOk l env H) .dead H ⟨fun _ h => aOps P q KE env h⟩ := rfl
theorem stK_nil {l : List AI} : stK P l [] KE env H = KE env H := rfl
theorem stK_cons {l r : List AI} {i : AI} : stK P l (i :: r) KE env H = aOps P [i] (stL P l r KE) env H := rfl
theorem stL_eq {l r : List AI} : stL P l r KE env H = @onIf' (lateOk l env H) .dead H ⟨fun _ h => stK P l r KE env h⟩ := rfl
theorem lateOk_nil : lateOk [] env H = True := rfl
theorem lateOk_cons {d : Nat} {op : AOp} {l : List AI} : lateOk (⟨some d, none, op⟩ :: l) env H = (aFun env H op = some (env.get d) ∧ lateOk l env H) := rfl
theorem aWx_seq {a b : AC} : aWx P kp (.seq a b) Q env H = aWx P kp a (thenA (aWx P kp b Q) Q) env H := rfl
theorem aWx_cond {c : O} {a b : AC} : aWx P kp (.cond c a b) Q env H = @onB (c.ev env) ⟨aWx P kp a Q env H⟩ ⟨aWx P kp b Q env H⟩ := by
 simp only [aWx, onB]
 generalize c.ev env = s
 cases s <;> first | rfl | (rename_i v; cases v <;> rfl)
theorem aWx_block {id : Nat} {c : AC} : aWx P kp (.block id c) Q env H = aWx P kp c (blockA id Q) env H := rfl
theorem aWx_exit {id : Nat} : aWx P kp (.exit id) Q env H = Q (.exit id) env H := rfl
theorem aWx_ret : aWx P kp .ret Q env H = Q .ret env H := rfl
theorem thenA_n {n : Env → Heap → Prop} : thenA n Q .normal env H = n env H := rfl
theorem thenA_e {n : Env → Heap → Prop} {i : Nat} : thenA n Q (.exit i) env H = Q (.exit i) env H := rfl
theorem thenA_r {n : Env → Heap → Prop} : thenA n Q .ret env H = Q .ret env H := rfl
theorem thenA_n' {n : Env → Heap → Prop} : thenA n Q .normal = n := rfl
theorem thenA_e' {n : Env → Heap → Prop} {i : Nat} : thenA n Q (.exit i) = Q (.exit i) := rfl
theorem thenA_r' {n : Env → Heap → Prop} : thenA n Q .ret = Q .ret := rfl
theorem blockA_n {i : Nat} : blockA i Q .normal env H = Q .normal env H := rfl
theorem blockA_r {i : Nat} : blockA i Q .ret env H = Q .ret env H := rfl
theorem blockA_e {i j : Nat} : blockA i Q (.exit j) env H = if j = i then Q .normal env H else Q (.exit j) env H := by
 simp only [blockA]
 split <;> rfl
theorem aOps_nil : aOps P [] KE env H = KE env H := rfl
theorem aOps_cons {i : AI} {is : List AI} : aOps P (i :: is) KE env H = aIns P i (aOps P is KE) env H := rfl
theorem aIns_free {d : Option Nat} {op : AOp} : aIns P ⟨d, none, op⟩ KE env H = aVal P env H op fun s H' => KE (putD d s env) H' := rfl
theorem aIns_if {d : Option Nat} {op : AOp} {t : Nat} {b : Bool} : aIns P ⟨d, some (t, b), op⟩ KE env H = @onG (env.get t) ⟨if b = true then (aVal P env H op fun s H' => KE (putD d s env) H') else KE (putD d (.tup []) env) H⟩ ⟨if b = true then KE (putD d (.tup []) env) H else (aVal P env H op fun s H' => KE (putD d s env) H')⟩ ⟨KE (putD d (.tup []) env) H⟩ := by
 simp only [aIns, onG]
 generalize env.get t = s
 cases s <;> try rfl
 ·rename_i v
  cases v <;> try rfl
  rename_i c
  cases b <;> cases c <;> simp
 ·rename_i ss
  cases ss <;> rfl
theorem aQs_nil : aQs P [] KE env H = KE env H := rfl
theorem aQs_free {d : Option Nat} {op : AOp} {is : List AI} : aQs P (⟨d, none, op⟩ :: is) KE env H = aQop P op (fun s H' => aQs P is KE (putD d s env) H') env H (CallQ P) := rfl
theorem aQs_if {d : Option Nat} {op : AOp} {t : Nat} {b : Bool} {is : List AI} : aQs P (⟨d, some (t, b), op⟩ :: is) KE env H = @onG (env.get t) ⟨if b = true then aQop P op (fun s H' => aQs P is KE (putD d s env) H') env H (CallQ P) else aQs P is KE (putD d (.tup []) env) H⟩ ⟨if b = true then aQs P is KE (putD d (.tup []) env) H else aQop P op (fun s H' => aQs P is KE (putD d s env) H') env H (CallQ P)⟩ ⟨aQs P is KE (putD d (.tup []) env) H⟩ := by
 simp only [aQs, onG]
 generalize env.get t = s
 cases s <;> try rfl
 ·rename_i v
  cases v <;> try rfl
  rename_i c
  cases b <;> cases c <;> simp
 ·rename_i ss
  cases ss <;> rfl
/-! the operations -/
theorem aVal_mov {x : O} : aVal P env H (.mov x) K = @onS (some (x.ev env)) H ⟨K⟩ := rfl
theorem aVal_pick {c x y : O} : aVal P env H (.pick c x y) K = @onB (c.ev env) ⟨@onS (some (x.ev env)) H ⟨K⟩⟩ ⟨@onS (some (y.ev env)) H ⟨K⟩⟩ := by
 simp only [aVal, onB]
 generalize c.ev env = s
 cases s <;> first | rfl | (rename_i v; cases v <;> rfl)
theorem aVal_build {z : List S} {ps : List (Nat × Nat × O)} : aVal P env H (.build z ps) K = @onS (aFun env H (.build z ps)) H ⟨K⟩ := rfl
theorem aVal_load {g : Bool} {n : Nat} {x : O} : aVal P env H (.load g n x) K = @onS (aFun env H (.load g n x)) H ⟨K⟩ := rfl
theorem aVal_nilck {x : O} : aVal P env H (.nilck x) K = @onS (aFun env H (.nilck x)) H ⟨K⟩ := rfl
theorem aVal_bin {op : BinOp} {x y : O} : aVal P env H (.bin op x y) K = @onS (aFun env H (.bin op x y)) H ⟨K⟩ := rfl
theorem aVal_eqb {n : Bool} {x y : O} : aVal P env H (.eqb n x y) K = @onS (aFun env H (.eqb n x y)) H ⟨K⟩ := rfl
theorem aVal_eqs {n : Bool} {x y : O} : aVal P env H (.eqs n x y) K = @onS (aFun env H (.eqs n x y)) H ⟨K⟩ := rfl
theorem aVal_eqv {n : Bool} {ks : List CK} {x y : O} : aVal P env H (.eqv n ks x y) K = @onS (aFun env H (.eqv n ks x y)) H ⟨K⟩ := rfl
theorem aVal_un {op : UnOp} {x : O} : aVal P env H (.un op x) K = @onS (aFun env H (.un op x)) H ⟨K⟩ := rfl
theorem aVal_conv {k : IntKind} {x : O} : aVal P env H (.conv k x) K = @onS (aFun env H (.conv k x)) H ⟨K⟩ := rfl
theorem aVal_mkfn {fn : Fn} {a c : List O} : aVal P env H (.mkfn fn a c) K = K (.func fn (a.map (·.ev env)) (c.map (·.ev env))) H := rfl
theorem aVal_slc {n : Nat} {x : O} {a b c : Option O} : aVal P env H (.slc n x a b c) K = @onS (aFun env H (.slc n x a b c)) H ⟨K⟩ := rfl
theorem aVal_fld {g : Bool} {a n : Nat} {x : O} : aVal P env H (.fld g a n x) K = @onS (aFun env H (.fld g a n x)) H ⟨K⟩ := rfl
theorem aVal_fldA {a : Nat} {x : O} : aVal P env H (.fldA a x) K = @onS (aFun env H (.fldA a x)) H ⟨K⟩ := rfl
theorem aVal_idxA {n : Nat} {x i : O} : aVal P env H (.idxA n x i) K = @onS (aFun env H (.idxA n x i)) H ⟨K⟩ := rfl
theorem aVal_idxAA {a n : Nat} {x i : O} : aVal P env H (.idxAA a n x i) K = @onS (aFun env H (.idxAA a n x i)) H ⟨K⟩ := rfl
theorem aVal_idxV {g : Bool} {a n : Nat} {x i : O} : aVal P env H (.idxV g a n x i) K = @onS (aFun env H (.idxV g a n x i)) H ⟨K⟩ := rfl
theorem aVal_idxS {x i : O} : aVal P env H (.idxS x i) K = @onS (aFun env H (.idxS x i)) H ⟨K⟩ := rfl
theorem aVal_b2s {x : O} : aVal P env H (.b2s x) K = @onS (aFun env H (.b2s x)) H ⟨K⟩ := rfl
theorem aVal_ext {i : Nat} {x : O} : aVal P env H (.ext i x) K = @onS (aFun env H (.ext i x)) H ⟨K⟩ := rfl
theorem aVal_mx {x y : O} : aVal P env H (.mx x y) K = @onS (aFun env H (.mx x y)) H ⟨K⟩ := rfl
theorem aVal_mn {x y : O} : aVal P env H (.mn x y) K = @onS (aFun env H (.mn x y)) H ⟨K⟩ := rfl
/-- the length, which is known to be small -/
def lenF : S → Option (Nat × S)
 | .empty => some (0, .pure (.int .i64 0))
 | .pure (.sl es) => some (es.length, .pure (.int .i64 es.length))
 | .rsl _ _ n => some (n, .pure (.int .i64 n))
 | _ => none
def onL (o : Option (Nat × S)) (H : Heap) [K : Kt] : Prop := match o with
 | some p => p.1 ≤ 9223372036854775807 → K.k p.2 H
 | none => False
theorem onL_some {n : Nat} {s : S} : @onL (some (n, s)) H ⟨K⟩ = @onIf (n ≤ 9223372036854775807) s H ⟨K⟩ := rfl
theorem aVal_len {x : O} : aVal P env H (.len x) K = @onL (lenF (x.ev env)) H ⟨K⟩ := by
 simp only [aVal, onL, lenF]
 cases x.ev env with
 | pure v => cases v <;> rfl
 | empty => simp
 | _ => rfl
def lenSF : S → Option (Nat × S)
 | .pure (.str s) => some (s.length, .pure (.int .i64 s.length))
 | _ => none
theorem aVal_lenS {x : O} : aVal P env H (.lenS x) K = @onL (lenSF (x.ev env)) H ⟨K⟩ := by
 simp only [aVal, onL, lenSF]
 cases x.ev env with
 | pure v => cases v <;> rfl
 | _ => rfl
/-- whether a slice is nil is not known where it is empty -/
def onN (o : Option Nat) (neg : Bool) (H : Heap) [K : Kt] : Prop := match o with
 | some n => ∀ b : Bool, (n ≠ 0 → b = neg) → K.k (.pure (.bool b)) H
 | none => False
theorem aVal_slnil {neg : Bool} {x : O} : aVal P env H (.slnil neg x) K = @onN (lenN (x.ev env)) neg H ⟨K⟩ := rfl
theorem aVal_box {x : O} : aVal P env H (.box x) K = @onSH (boxF H (x.ev env)) ⟨K⟩ := by
 simp only [aVal, onSH, boxF]
 by_cases h : (x.ev env).okv = true <;> simp [h]
theorem aVal_bslice {n : Nat} {ps : List O} : aVal P env H (.bslice n ps) K = @onSH (bsF H n (ps.map (·.ev env))) ⟨K⟩ := by
 have e : ((ps.map (·.ev env)).all fun s => s.okv && s.cells.length == n) = true ↔ ∀ o ∈ ps, (o.ev env).okv = true ∧ (o.ev env).cells.length = n := by simp
 simp only [aVal, onSH, bsF, e, List.length_map]
 by_cases h : ∀ o ∈ ps, (o.ev env).okv = true ∧ (o.ev env).cells.length = n
 ·simp only [if_pos h, eq_iff_iff]
  exact ⟨fun x => x.2, fun x => ⟨h, x⟩⟩
 ·simp only [if_neg h, eq_iff_iff]
  exact ⟨fun x => h x.1, fun x => x.elim⟩
theorem aVal_store {n : Nat} {x v : O} : aVal P env H (.store n x v) K = @onH (stF H n (x.ev env) (v.ev env)) ⟨K⟩ := by
 simp only [aVal, onH, stF]
 cases x.ev env <;> try rfl
 rename_i b i off
 simp only
 cases H[b]? <;> try rfl
 rename_i r
 simp only
 cases r.es[i]? with
 | none => simp
 | some e =>
  simp only
  by_cases h : r.st = .live ∧ (v.ev env).okv = true ∧ (v.ev env).cells.length = n ∧ off + n ≤ e.cells.length
  ·rw [if_pos h]
   simp [h.1, h.2.1, h.2.2.1, h.2.2.2]
  ·rw [if_neg h]
   simp only [eq_iff_iff, iff_false]
   rintro ⟨h1, h2, h3, h4, _⟩
   exact h ⟨h1, h2, h3, h4⟩
/-- the tail of a row is cleared -/
def clrF (H : Heap) (n : Nat) (x : S) : Option (S × Heap) := match x with
 | .rsl b off _ => match H[b]? with
  | some r => if r.st = .live ∧ r.size = n then some (.tup [], H.set b ⟨r.es.take off, r.size, .live⟩) else none
  | none => none
 | _ => none
theorem aVal_clr {n : Nat} {x : O} : aVal P env H (.clr n x) K = @onSH (clrF H n (x.ev env)) ⟨K⟩ := by
 simp only [aVal, onSH, clrF]
 cases x.ev env <;> try rfl
 rename_i b off len
 simp only
 cases H[b]? <;> try rfl
 rename_i r
 simp only
 by_cases h : r.st = .live ∧ r.size = n
 ·rw [if_pos h]
  simp [h.1, h.2]
 ·rw [if_neg h]
  simp only [eq_iff_iff, iff_false]
  rintro ⟨h1, h2, _⟩
  exact h ⟨h1, h2⟩
theorem aVal_call {f : Nat} {args : List O} : aVal P env H (.call f args) K = @onC P f (args.map (·.ev env)) H ⟨K⟩ := rfl
def fvF (s : S) (args : List S) : Option (Nat × List S) := match s with
 | .pure (.func (.func f) a c) => some (f, a.map .pure ++ args ++ c.map .pure)
 | .func (.func f) a c => some (f, a ++ args ++ c)
 | _ => none
def onF (P : Program) (o : Option (Nat × List S)) (H : Heap) [K : Kt] : Prop := match o with
 | some p => CallA P p.1 p.2 H K.k
 | none => False
theorem onF_some {f : Nat} {a : List S} : @onF P (some (f, a)) H ⟨K⟩ = @onC P f a H ⟨K⟩ := rfl
theorem aVal_callv {f : O} {args : List O} : aVal P env H (.callv f args) K = @onF P (fvF (f.ev env) (args.map (·.ev env))) H ⟨K⟩ := by
 simp only [aVal, onF, fvF]
 cases f.ev env with
 | pure v =>
  cases v <;> try rfl
  rename_i fn a c
  cases fn <;> rfl
 | func fn a c => cases fn <;> rfl
 | _ => rfl
/-- append -/
def appF (H : Heap) (size bytes : Nat) (x : S) (ys : Option (List S)) : Option (Prop × S × Heap) := match ys with
 | none => none
 | some ys => match x with
  | .empty => some ((∀ e ∈ ys, e.cells.length = size) ∧ ys.length * bytes ≤ 140737488355328 ∧ ys.length ≤ maxLen, .rsl H.length 0 ys.length, H ++ [⟨ys, size, .live⟩])
  | .rsl b off len => match H[b]? with
   | some r => some ((∀ e ∈ ys, e.cells.length = size) ∧ r.st = .live ∧ r.size = size ∧ off + len ≤ r.es.length ∧ (len + ys.length) * bytes ≤ 140737488355328 ∧ len + ys.length ≤ maxLen, .rsl H.length 0 (len + ys.length), H.set b ⟨[], r.size, .dead⟩ ++ [⟨(r.es.drop off).take len ++ ys, size, .live⟩])
   | none => none
  | _ => none
def onA (o : Option (Prop × S × Heap)) [K : Kt] : Prop := match o with
 | some p => p.1 ∧ K.k p.2.1 p.2.2
 | none => False
theorem onA_some {p : Prop} {s : S} : @onA (some (p, s, H)) ⟨K⟩ = @onIf' p s H ⟨K⟩ := rfl
theorem aVal_app {size bytes : Nat} {x y : O} : aVal P env H (.app size bytes x y) K = @onA (appF H size bytes (x.ev env) (srcOf H size (y.ev env))) ⟨K⟩ := by
 simp only [aVal, onA, appF]
 cases srcOf H size (y.ev env) with
 | none => rfl
 | some ys =>
  simp only
  cases x.ev env with
  | empty => simp [and_assoc]
  | rsl b off len =>
   simp only
   cases H[b]? with
   | none => simp
   | some r => simp [and_assoc]
  | _ => simp
/-- rows of zeros -/
def mkF (H : Heap) (size bytes : Nat) (z x y : S) : Option (Prop × S × Heap) := match x, y with
 | .pure (.int _ n), .pure (.int _ c) => some (0 ≤ n ∧ n ≤ c ∧ bytes * c.toNat ≤ 281474976710656 ∧ c.toNat ≤ maxLen, .rsl H.length 0 n.toNat, H ++ [⟨List.replicate c.toNat z, size, .live⟩])
 | _, _ => none
theorem mkF_int {size bytes : Nat} {z : S} {k k' : IntKind} {n c : Int} : mkF H size bytes z (.pure (.int k n)) (.pure (.int k' c)) = some (0 ≤ n ∧ n ≤ c ∧ bytes * c.toNat ≤ 281474976710656 ∧ c.toNat ≤ maxLen, .rsl H.length 0 n.toNat, H ++ [⟨List.replicate c.toNat z, size, .live⟩]) := rfl
theorem aVal_mksl {size bytes : Nat} {z : S} {x y : O} : aVal P env H (.mksl size bytes z x y) K = @onA (mkF H size bytes z (x.ev env) (y.ev env)) ⟨K⟩ := by
 simp only [aVal, onA, mkF]
 cases x.ev env with
 | pure v =>
  cases v <;> try rfl
  cases y.ev env with
  | pure v => cases v <;> rfl
  | _ => rfl
 | _ => rfl
theorem aQop_mksl {size bytes : Nat} {z : S} {x y : O} {CQ} : aQop P (.mksl size bytes z x y) K env H CQ = @onA (mkF H size bytes z (x.ev env) (y.ev env)) ⟨K⟩ := aVal_mksl (P := P)
theorem aQop_mov {x : O} {CQ} : aQop P (.mov x) K env H CQ = @onS (some (x.ev env)) H ⟨K⟩ := rfl
theorem aQop_pick {c x y : O} {CQ} : aQop P (.pick c x y) K env H CQ = @onB (c.ev env) ⟨@onS (some (x.ev env)) H ⟨K⟩⟩ ⟨@onS (some (y.ev env)) H ⟨K⟩⟩ := by
 simp only [aQop, onB]
 generalize c.ev env = s
 cases s <;> first | rfl | (rename_i v; cases v <;> rfl)
theorem aQop_build {z : List S} {ps : List (Nat × Nat × O)} {CQ} : aQop P (.build z ps) K env H CQ = @onS (aFun env H (.build z ps)) H ⟨K⟩ := rfl
theorem aQop_load {g : Bool} {n : Nat} {x : O} {CQ} : aQop P (.load g n x) K env H CQ = @onS (aFun env H (.load g n x)) H ⟨K⟩ := rfl
theorem aQop_nilck {x : O} {CQ} : aQop P (.nilck x) K env H CQ = @onS (aFun env H (.nilck x)) H ⟨K⟩ := rfl
theorem aQop_bin {op : BinOp} {x y : O} {CQ} : aQop P (.bin op x y) K env H CQ = @onS (aFun env H (.bin op x y)) H ⟨K⟩ := rfl
theorem aQop_eqb {n : Bool} {x y : O} {CQ} : aQop P (.eqb n x y) K env H CQ = @onS (aFun env H (.eqb n x y)) H ⟨K⟩ := rfl
theorem aQop_eqs {n : Bool} {x y : O} {CQ} : aQop P (.eqs n x y) K env H CQ = @onS (aFun env H (.eqs n x y)) H ⟨K⟩ := rfl
theorem aQop_eqv {n : Bool} {ks : List CK} {x y : O} {CQ} : aQop P (.eqv n ks x y) K env H CQ = @onS (aFun env H (.eqv n ks x y)) H ⟨K⟩ := rfl
theorem aQop_un {op : UnOp} {x : O} {CQ} : aQop P (.un op x) K env H CQ = @onS (aFun env H (.un op x)) H ⟨K⟩ := rfl
theorem aQop_conv {k : IntKind} {x : O} {CQ} : aQop P (.conv k x) K env H CQ = @onS (aFun env H (.conv k x)) H ⟨K⟩ := rfl
theorem aQop_mkfn {fn : Fn} {a c : List O} {CQ} : aQop P (.mkfn fn a c) K env H CQ = K (.func fn (a.map (·.ev env)) (c.map (·.ev env))) H := rfl
theorem aQop_slc {n : Nat} {x : O} {a b c : Option O} {CQ} : aQop P (.slc n x a b c) K env H CQ = @onS (aFun env H (.slc n x a b c)) H ⟨K⟩ := rfl
theorem aQop_fld {g : Bool} {a n : Nat} {x : O} {CQ} : aQop P (.fld g a n x) K env H CQ = @onS (aFun env H (.fld g a n x)) H ⟨K⟩ := rfl
theorem aQop_fldA {a : Nat} {x : O} {CQ} : aQop P (.fldA a x) K env H CQ = @onS (aFun env H (.fldA a x)) H ⟨K⟩ := rfl
theorem aQop_idxA {n : Nat} {x i : O} {CQ} : aQop P (.idxA n x i) K env H CQ = @onS (aFun env H (.idxA n x i)) H ⟨K⟩ := rfl
theorem aQop_idxAA {a n : Nat} {x i : O} {CQ} : aQop P (.idxAA a n x i) K env H CQ = @onS (aFun env H (.idxAA a n x i)) H ⟨K⟩ := rfl
theorem aQop_idxV {g : Bool} {a n : Nat} {x i : O} {CQ} : aQop P (.idxV g a n x i) K env H CQ = @onS (aFun env H (.idxV g a n x i)) H ⟨K⟩ := rfl
theorem aQop_b2s {x : O} {CQ} : aQop P (.b2s x) K env H CQ = @onS (aFun env H (.b2s x)) H ⟨K⟩ := rfl
theorem aQop_idxS {x i : O} {CQ} : aQop P (.idxS x i) K env H CQ = @onS (aFun env H (.idxS x i)) H ⟨K⟩ := rfl
theorem aQop_ext {i : Nat} {x : O} {CQ} : aQop P (.ext i x) K env H CQ = @onS (aFun env H (.ext i x)) H ⟨K⟩ := rfl
theorem aQop_mx {x y : O} {CQ} : aQop P (.mx x y) K env H CQ = @onS (aFun env H (.mx x y)) H ⟨K⟩ := rfl
theorem aQop_mn {x y : O} {CQ} : aQop P (.mn x y) K env H CQ = @onS (aFun env H (.mn x y)) H ⟨K⟩ := rfl
theorem aQop_len {x : O} {CQ} : aQop P (.len x) K env H CQ = @onS (aFun env H (.len x)) H ⟨K⟩ := rfl
theorem aQop_lenS {x : O} {CQ} : aQop P (.lenS x) K env H CQ = @onS (aFun env H (.lenS x)) H ⟨K⟩ := rfl
theorem aQop_box {x : O} {CQ} : aQop P (.box x) K env H CQ = @onSH (boxF H (x.ev env)) ⟨K⟩ := aVal_box (P := P)
theorem aQop_bslice {n : Nat} {ps : List O} {CQ} : aQop P (.bslice n ps) K env H CQ = @onSH (bsF H n (ps.map (·.ev env))) ⟨K⟩ := aVal_bslice (P := P)
theorem aQop_call {f : Nat} {args : List O} : aQop P (.call f args) K env H (CallQ P) = @onQ P f (args.map (·.ev env)) H ⟨K⟩ := rfl
def onFQ (P : Program) (o : Option (Nat × List S)) (H : Heap) [K : Kt] : Prop := match o with
 | some p => CallQ P p.1 p.2 H fun r => K.k r H
 | none => False
theorem onFQ_some {f : Nat} {a : List S} : @onFQ P (some (f, a)) H ⟨K⟩ = @onQ P f a H ⟨K⟩ := rfl
theorem aQop_callv {f : O} {args : List O} : aQop P (.callv f args) K env H (CallQ P) = @onFQ P (fvF (f.ev env) (args.map (·.ev env))) H ⟨K⟩ := by
 simp only [aQop, onFQ, fvF]
 cases f.ev env with
 | pure v =>
  cases v <;> try rfl
  rename_i fn a c
  cases fn <;> rfl
 | func fn a c => cases fn <;> rfl
 | _ => rfl
def onR (o : Option (List S)) (H : Heap) [K : Kt] : Prop := match o with
 | some ss => K.k (retS ss) H
 | none => False
theorem onR_some {ss : List S} : @onR (some ss) H ⟨K⟩ = K (retS ss) H := rfl
theorem PostX_n {rs : List RS} : PostX rs K .normal env H = @onR (resVals env H rs) H ⟨K⟩ := rfl
theorem PostX_r {rs : List RS} : PostX rs K .ret env H = @onR (resVals env H rs) H ⟨K⟩ := rfl
end
end Go.Vm
/-! The abstract machine, part 24: equations by which simp reckons values: each fires behind its operands. -/
namespace Go.Vm
open Go Go.RowKit
theorem ev_s {env : Env} {t : Nat} : O.ev env (.s t) = env.get t := rfl
theorem ev_c {env : Env} {x : S} : O.ev env (.c x) = x := rfl
theorem cells_agg {cs : List V} : (V.agg cs).cells = cs := rfl
theorem cells_int {k : IntKind} {n : Int} : (V.int k n).cells = [.int k n] := rfl
theorem cells_bool {b : Bool} : (V.bool b).cells = [.bool b] := rfl
theorem cells_str {s : List UInt8} : (V.str s).cells = [.str s] := rfl
theorem cells_sl {es : List V} : (V.sl es).cells = [.sl es] := rfl
theorem cells_func {f : Fn} {a c : List V} : (V.func f a c).cells = [.func f a c] := rfl
theorem cells_nilf : V.nilf.cells = [.nilf] := rfl
theorem cells_nilp : V.nilp.cells = [.nilp] := rfl
theorem isCell_agg {cs : List V} : (V.agg cs).isCell = false := rfl
theorem isCell_int {k : IntKind} {n : Int} : (V.int k n).isCell = true := rfl
theorem isCell_bool {b : Bool} : (V.bool b).isCell = true := rfl
theorem isCell_str {s : List UInt8} : (V.str s).isCell = true := rfl
theorem isCell_sl {es : List V} : (V.sl es).isCell = true := rfl
theorem isCell_func {f : Fn} {a c : List V} : (V.func f a c).isCell = true := rfl
theorem isCell_nilf : V.nilf.isCell = true := rfl
theorem isCell_nilp : V.nilp.isCell = true := rfl
theorem scells_pure {v : V} : (S.pure v).cells = v.cells.map .pure := rfl
theorem scells_agg {cs : List S} : (S.agg cs).cells = cs := rfl
theorem scells_empty : S.empty.cells = [.empty] := rfl
theorem scells_rsl {b o l : Nat} : (S.rsl b o l).cells = [.rsl b o l] := rfl
theorem scells_ptr {b o l : Nat} : (S.ptr b o l).cells = [.ptr b o l] := rfl
theorem scells_func {f : Fn} {a c : List S} : (S.func f a c).cells = [.func f a c] := rfl
theorem sisCell_pure {v : V} : (S.pure v).isCell = v.isCell := rfl
theorem sisCell_agg {cs : List S} : (S.agg cs).isCell = false := rfl
theorem sisCell_empty : S.empty.isCell = true := rfl
theorem sisCell_rsl {b o l : Nat} : (S.rsl b o l).isCell = true := rfl
theorem sisCell_ptr {b o l : Nat} : (S.ptr b o l).isCell = true := rfl
theorem sisCell_func {f : Fn} {a c : List S} : (S.func f a c).isCell = true := rfl
theorem okv_pure {v : V} : (S.pure v).okv = !v.cells.isEmpty := rfl
theorem okv_agg {cs : List S} : (S.agg cs).okv = !cs.isEmpty := rfl
theorem okv_empty : S.empty.okv = true := rfl
theorem okv_rsl {b o l : Nat} : (S.rsl b o l).okv = true := rfl
theorem okv_ptr {b o l : Nat} : (S.ptr b o l).okv = true := rfl
theorem okv_func {f : Fn} {a c : List S} : (S.func f a c).okv = true := rfl
/-! lists of slots as aggregates -/
def mkA (o : Option (List V)) (ss : List S) : S := match o with
 | some vs => .pure (.agg vs)
 | none => .agg ss
theorem mkAgg_eq {ss : List S} : S.mkAgg ss = mkA (S.allPure ss) ss := by
 unfold S.mkAgg mkA
 cases S.allPure ss <;> rfl
theorem mkA_some {vs : List V} {ss : List S} : mkA (some vs) ss = .pure (.agg vs) := rfl
theorem mkA_none {ss : List S} : mkA none ss = .agg ss := rfl
def consP (v : V) : Option (List V) → Option (List V)
 | some vs => some (v :: vs)
 | none => none
theorem allPure_nil : S.allPure [] = some [] := rfl
theorem allPure_pure {v : V} {r : List S} : S.allPure (.pure v :: r) = consP v (S.allPure r) := by
 simp only [S.allPure]
 cases S.allPure r <;> rfl
theorem allPure_empty {r : List S} : S.allPure (.empty :: r) = none := rfl
theorem allPure_rsl {b o l : Nat} {r : List S} : S.allPure (.rsl b o l :: r) = none := rfl
theorem allPure_ptr {b o l : Nat} {r : List S} : S.allPure (.ptr b o l :: r) = none := rfl
theorem allPure_func {f : Fn} {a c : List S} {r : List S} : S.allPure (.func f a c :: r) = none := rfl
theorem consP_some {v : V} {vs : List V} : consP v (some vs) = some (v :: vs) := rfl
theorem consP_none {v : V} : consP v none = none := rfl
theorem allPure_map {vs : List V} : S.allPure (vs.map .pure) = some vs := by
 induction vs with
 | nil => rfl
 | cons v r ih => rw [List.map_cons, allPure_pure, ih]; rfl
def one (l : List S) : S := match l with
 | [c] => c
 | _ => .dead
theorem one_one {c : S} : one [c] = c := rfl
theorem put_eq {e s : S} {off : Nat} : e.put off s = if e.isCell = true then one s.cells else if off = 0 ∧ s.isCell = false ∧ s.cells.length = e.cells.length then s else S.mkAgg (e.cells.take off ++ s.cells ++ e.cells.drop (off + s.cells.length)) := by
 unfold S.put one
 split
 ·rcases s.cells with _ | ⟨a, _ | ⟨b, q⟩⟩ <;> rfl
 ·rfl
theorem partF_false {n off : Nat} {e : S} : partF false n e off = e.cells[off]? := rfl
theorem partF_true {n off : Nat} {e : S} : partF true n e off = if off = 0 ∧ n = e.cells.length ∧ e.isCell = false then some e else if off + n ≤ e.cells.length then some (S.mkAgg ((e.cells.drop off).take n)) else none := rfl
/-! rows -/
theorem rowAt_live {es : List S} {n : Nat} {H : Heap} : Vm.rowAt (⟨es, n, .live⟩ :: H) 0 = some ⟨es, n, .live⟩ := rfl
theorem rowAt_frozen {es : List S} {n : Nat} {H : Heap} : Vm.rowAt (⟨es, n, .frozen⟩ :: H) 0 = some ⟨es, n, .frozen⟩ := rfl
theorem rowAt_succ {r : Row} {H : Heap} {b : Nat} : Vm.rowAt (r :: H) (b + 1) = Vm.rowAt H b := rfl
def loadE (g : Bool) (n off : Nat) : Option S → Option S
 | some e => partF g n e off
 | none => none
theorem loadE_some {g : Bool} {n off : Nat} {e : S} : loadE g n off (some e) = partF g n e off := rfl
def loadR (g : Bool) (n i off : Nat) : Option Row → Option S
 | some r => loadE g n off r.es[i]?
 | none => none
theorem loadR_some {g : Bool} {n i off m : Nat} {es : List S} {st : RowSt} : loadR g n i off (some ⟨es, m, st⟩) = loadE g n off es[i]? := rfl
def loadF (H : Heap) (g : Bool) (n : Nat) : S → Option S
 | .ptr b i off => loadR g n i off (Vm.rowAt H b)
 | .pptr v off => partF g n (.pure v) off
 | _ => none
theorem loadF_ptr {H : Heap} {g : Bool} {n b i off : Nat} : loadF H g n (.ptr b i off) = loadR g n i off (Vm.rowAt H b) := rfl
theorem loadF_pptr {H : Heap} {g : Bool} {n off : Nat} {v : V} : loadF H g n (.pptr v off) = partF g n (.pure v) off := rfl
/-! the operations -/
section
variable {env : Env} {H : Heap}
theorem aFun_load {g : Bool} {n : Nat} {x : O} : aFun env H (.load g n x) = loadF H g n (x.ev env) := by
 simp only [aFun, loadF, loadR, loadE]
 generalize x.ev env = s
 cases s <;> rfl
def bldF : Option (List S) → Option S
 | some cs => some (S.mkAgg cs)
 | none => none
theorem bldF_some {cs : List S} : bldF (some cs) = some (S.mkAgg cs) := rfl
theorem aFun_build {z : List S} {ps : List (Nat × Nat × O)} : aFun env H (.build z ps) = bldF (fillA env z ps) := by
 simp only [aFun, bldF]
 cases fillA env z ps <;> rfl
theorem fillA_nil {cs : List S} : fillA env cs [] = some cs := rfl
def fillS (env : Env) (cs : List S) (off n : Nat) (r : List (Nat × Nat × O)) (s : S) : Option (List S) := if s.okv = true ∧ s.cells.length = n ∧ off + n ≤ cs.length then fillA env (cs.take off ++ s.cells ++ cs.drop (off + n)) r else none
theorem fillA_cons {cs : List S} {off n : Nat} {o : O} {r : List (Nat × Nat × O)} : fillA env cs ((off, n, o) :: r) = fillS env cs off n r (o.ev env) := rfl
theorem fillS_eq {cs : List S} {off n : Nat} {s : S} {r : List (Nat × Nat × O)} : fillS env cs off n r s = if s.okv = true ∧ s.cells.length = n ∧ off + n ≤ cs.length then fillA env (cs.take off ++ s.cells ++ cs.drop (off + n)) r else none := rfl
def nilF (s : S) : Option S := match s with
 | .ptr b i off => some (.ptr b i off)
 | .pptr v off => some (.pptr v off)
 | .pure (.func (.func f) a c) => some (.pure (.func (.func f) a c))
 | .func (.func f) a c => some (.func (.func f) a c)
 | _ => none
theorem aFun_nilck {x : O} : aFun env H (.nilck x) = nilF (x.ev env) := rfl
theorem nilF_ptr {b i off : Nat} : nilF (.ptr b i off) = some (.ptr b i off) := rfl
theorem nilF_pptr {v : V} {off : Nat} : nilF (.pptr v off) = some (.pptr v off) := rfl
theorem nilF_pure {f : Nat} {a c : List V} : nilF (.pure (.func (.func f) a c)) = some (.pure (.func (.func f) a c)) := rfl
theorem nilF_func {f : Nat} {a c : List S} : nilF (.func (.func f) a c) = some (.func (.func f) a c) := rfl
def binF (op : BinOp) (a b : S) : Option S := match a, b with
 | .pure (.int k a), .pure (.int k' b) => if isShift op = true ∨ k = k' then (intF op k a b).map .pure else none
 | _, _ => none
theorem aFun_bin {op : BinOp} {x y : O} : aFun env H (.bin op x y) = binF op (x.ev env) (y.ev env) := rfl
theorem bin_add {k : IntKind} {a b : Int} : binF .add (.pure (.int k a)) (.pure (.int k b)) = some (.pure (.int k (k.wrap (a + b)))) := by simp [binF, intF]
theorem bin_sub {k : IntKind} {a b : Int} : binF .sub (.pure (.int k a)) (.pure (.int k b)) = some (.pure (.int k (k.wrap (a - b)))) := by simp [binF, intF]
theorem bin_mul {k : IntKind} {a b : Int} : binF .mul (.pure (.int k a)) (.pure (.int k b)) = some (.pure (.int k (k.wrap (a * b)))) := by simp [binF, intF]
theorem bin_quo {k : IntKind} {a b : Int} : binF .quo (.pure (.int k a)) (.pure (.int k b)) = if b = 0 then none else some (.pure (.int k (k.wrap (a.tdiv b)))) := by
 simp only [binF, intF]; by_cases h : b = 0 <;> simp [h]
theorem bin_rem {k : IntKind} {a b : Int} : binF .rem (.pure (.int k a)) (.pure (.int k b)) = if b = 0 then none else some (.pure (.int k (a.tmod b))) := by
 simp only [binF, intF]; by_cases h : b = 0 <;> simp [h]
theorem bin_eql {k : IntKind} {a b : Int} : binF .eql (.pure (.int k a)) (.pure (.int k b)) = some (.pure (.bool (decide (a = b)))) := by simp [binF, intF, BEq.beq]
theorem bin_neq {k : IntKind} {a b : Int} : binF .neq (.pure (.int k a)) (.pure (.int k b)) = some (.pure (.bool (decide (a ≠ b)))) := by
 simp only [binF, intF]
 by_cases h : a = b <;> simp [h]
theorem bin_lss {k : IntKind} {a b : Int} : binF .lss (.pure (.int k a)) (.pure (.int k b)) = some (.pure (.bool (decide (a < b)))) := by simp [binF, intF]
theorem bin_leq {k : IntKind} {a b : Int} : binF .leq (.pure (.int k a)) (.pure (.int k b)) = some (.pure (.bool (decide (a ≤ b)))) := by simp [binF, intF]
theorem bin_gtr {k : IntKind} {a b : Int} : binF .gtr (.pure (.int k a)) (.pure (.int k b)) = some (.pure (.bool (decide (b < a)))) := by simp [binF, intF]
theorem bin_geq {k : IntKind} {a b : Int} : binF .geq (.pure (.int k a)) (.pure (.int k b)) = some (.pure (.bool (decide (b ≤ a)))) := by simp [binF, intF]
theorem bin_and {k : IntKind} {a b : Int} : binF .and (.pure (.int k a)) (.pure (.int k b)) = some (.pure (.int k (k.wrap (BitVec.ofInt k.bits a &&& BitVec.ofInt k.bits b).toNat))) := by simp [binF, intF]
theorem bin_or {k : IntKind} {a b : Int} : binF .or (.pure (.int k a)) (.pure (.int k b)) = some (.pure (.int k (k.wrap (BitVec.ofInt k.bits a ||| BitVec.ofInt k.bits b).toNat))) := by simp [binF, intF]
theorem bin_shl {k k' : IntKind} {a b : Int} : binF .shl (.pure (.int k a)) (.pure (.int k' b)) = if b < 0 then none else some (.pure (.int k (k.wrap (a * 2 ^ (min b.toNat k.bits))))) := by
 simp only [binF, intF, isShift]; by_cases h : b < 0 <;> simp [h]
theorem bin_shr {k k' : IntKind} {a b : Int} : binF .shr (.pure (.int k a)) (.pure (.int k' b)) = if b < 0 then none else some (.pure (.int k (a.fdiv (2 ^ (min b.toNat k.bits))))) := by
 simp only [binF, intF, isShift]; by_cases h : b < 0 <;> simp [h]
def eqbF (neg : Bool) (a b : S) : Option S := match a, b with
 | .pure (.bool a), .pure (.bool b) => some (.pure (.bool (if neg then a != b else a == b)))
 | _, _ => none
theorem aFun_eqb {neg : Bool} {x y : O} : aFun env H (.eqb neg x y) = eqbF neg (x.ev env) (y.ev env) := rfl
theorem eqb_f {a b : Bool} : eqbF false (.pure (.bool a)) (.pure (.bool b)) = some (.pure (.bool (a == b))) := rfl
theorem eqb_t {a b : Bool} : eqbF true (.pure (.bool a)) (.pure (.bool b)) = some (.pure (.bool (a != b))) := rfl
def eqsF (neg : Bool) (a b : S) : Option S := match a, b with
 | .pure (.str a), .pure (.str b) => some (.pure (.bool (if neg then a != b else a == b)))
 | _, _ => none
theorem aFun_eqs {neg : Bool} {x y : O} : aFun env H (.eqs neg x y) = eqsF neg (x.ev env) (y.ev env) := rfl
theorem eqs_f {a b : List UInt8} : eqsF false (.pure (.str a)) (.pure (.str b)) = some (.pure (.bool (a == b))) := rfl
theorem eqs_t {a b : List UInt8} : eqsF true (.pure (.str a)) (.pure (.str b)) = some (.pure (.bool (a != b))) := rfl
def eqvF (neg : Bool) (ks : List CK) (a b : S) : Option S := match a, b with
 | .pure a, .pure b => if a.isCell = false ∧ b.isCell = false then (V.eqs ks a.cells b.cells).map fun r => .pure (.bool (if neg then !r else r)) else none
 | _, _ => none
theorem aFun_eqv {neg : Bool} {ks : List CK} {x y : O} : aFun env H (.eqv neg ks x y) = eqvF neg ks (x.ev env) (y.ev env) := rfl
theorem eqv_f {ks : List CK} {a b : V} : eqvF false ks (.pure a) (.pure b) = if a.isCell = false ∧ b.isCell = false then (V.eqs ks a.cells b.cells).map fun r => .pure (.bool r) else none := by simp [eqvF]
theorem eqv_t {ks : List CK} {a b : V} : eqvF true ks (.pure a) (.pure b) = if a.isCell = false ∧ b.isCell = false then (V.eqs ks a.cells b.cells).map fun r => .pure (.bool !r) else none := by simp [eqvF]
def eqc (a : Option Bool) (b : Option Bool) : Option Bool := match a, b with
 | some x, some y => some (x && y)
 | _, _ => none
theorem eqc_some {x y : Bool} : eqc (some x) (some y) = some (x && y) := rfl
theorem eqs_nil : V.eqs [] [] [] = some true := rfl
theorem eqs_cons {k : CK} {ks : List CK} {a b : V} {r t : List V} : V.eqs (k :: ks) (a :: r) (b :: t) = eqc (V.eqb k a b) (V.eqs ks r t) := by
 simp only [V.eqs, eqc]
 cases V.eqb k a b <;> cases V.eqs ks r t <;> rfl
theorem eqb_int {k : IntKind} {a b : Int} : V.eqb .i (.int k a) (.int k b) = some (decide (a = b)) := by simp [V.eqb, BEq.beq]
theorem eqb_bool {a b : Bool} : V.eqb .b (.bool a) (.bool b) = some (a == b) := rfl
theorem eqb_str {a b : List UInt8} : V.eqb .s (.str a) (.str b) = some (a == b) := rfl
def unF (op : UnOp) (s : S) : Option S := match op, s with
 | .not, .pure (.bool b) => some (.pure (.bool !b))
 | .neg, .pure (.int k n) => some (.pure (.int k (k.wrap (0 - n))))
 | _, _ => none
theorem aFun_un {op : UnOp} {x : O} : aFun env H (.un op x) = unF op (x.ev env) := rfl
theorem un_not {b : Bool} : unF .not (.pure (.bool b)) = some (.pure (.bool !b)) := rfl
theorem un_neg {k : IntKind} {n : Int} : unF .neg (.pure (.int k n)) = some (.pure (.int k (k.wrap (0 - n)))) := rfl
def convF (k : IntKind) (s : S) : Option S := match s with
 | .pure (.int _ n) => some (.pure (.int k (k.wrap n)))
 | _ => none
theorem aFun_conv {k : IntKind} {x : O} : aFun env H (.conv k x) = convF k (x.ev env) := rfl
theorem conv_int {k k' : IntKind} {n : Int} : convF k (.pure (.int k' n)) = some (.pure (.int k (k.wrap n))) := rfl
def fldF (g : Bool) (off n : Nat) (s : S) : Option S := if s.isCell = false ∧ s.okv = true then partF g n s off else none
theorem aFun_fld {g : Bool} {off n : Nat} {x : O} : aFun env H (.fld g off n x) = fldF g off n (x.ev env) := rfl
theorem fldF_eq {g : Bool} {off n : Nat} {s : S} : fldF g off n s = if s.isCell = false ∧ s.okv = true then partF g n s off else none := rfl
def fldAF (off : Nat) (s : S) : Option S := match s with
 | .ptr b i o => some (.ptr b i (o + off))
 | .pptr v o => some (.pptr v (o + off))
 | _ => none
theorem aFun_fldA {off : Nat} {x : O} : aFun env H (.fldA off x) = fldAF off (x.ev env) := rfl
theorem fldA_ptr {off b i o : Nat} : fldAF off (.ptr b i o) = some (.ptr b i (o + off)) := rfl
theorem fldA_pptr {off o : Nat} {v : V} : fldAF off (.pptr v o) = some (.pptr v (o + off)) := rfl
/-- an element of a slice -/
def atE (size : Nat) : Option V → Option S
 | some e => if e.cells.length = size then some (.pptr e 0) else none
 | none => none
theorem atE_some {size : Nat} {e : V} : atE size (some e) = if e.cells.length = size then some (.pptr e 0) else none := rfl
def atR (size b off : Nat) (n : Int) : Option Row → Option S
 | some r => if r.size = size then some (.ptr b (off + n.toNat) 0) else none
 | none => none
theorem atR_some {size b off m : Nat} {n : Int} {es : List S} {st : RowSt} : atR size b off n (some ⟨es, m, st⟩) = if m = size then some (.ptr b (off + n.toNat) 0) else none := rfl
def idxAF (H : Heap) (size : Nat) (s i : S) : Option S := match s, i with
 | .pure (.sl es), .pure (.int _ n) => if 0 ≤ n then atE size es[n.toNat]? else none
 | .rsl b off len, .pure (.int _ n) => if 0 ≤ n ∧ n < len then atR size b off n (Vm.rowAt H b) else none
 | _, _ => none
theorem aFun_idxA {size : Nat} {x i : O} : aFun env H (.idxA size x i) = idxAF H size (x.ev env) (i.ev env) := by
 simp only [aFun, idxAF]
 generalize x.ev env = s
 generalize i.ev env = t
 cases s <;> first | rfl | (cases t <;> first | rfl | (rename_i v u; cases u <;> first | rfl | (cases v <;> rfl)) | (rename_i u; cases u <;> rfl))
theorem idxA_sl {size : Nat} {es : List V} {k : IntKind} {n : Int} : idxAF H size (.pure (.sl es)) (.pure (.int k n)) = if 0 ≤ n then atE size es[n.toNat]? else none := rfl
theorem idxA_rsl {size b off len : Nat} {k : IntKind} {n : Int} : idxAF H size (.rsl b off len) (.pure (.int k n)) = if 0 ≤ n ∧ n < len then atR size b off n (Vm.rowAt H b) else none := rfl
def idxAAF (len size : Nat) (s i : S) : Option S := match s, i with
 | .ptr b e o, .pure (.int _ n) => if 0 ≤ n ∧ n < len then some (.ptr b e (o + n.toNat * size)) else none
 | .pptr v o, .pure (.int _ n) => if 0 ≤ n ∧ n < len then some (.pptr v (o + n.toNat * size)) else none
 | _, _ => none
theorem aFun_idxAA {len size : Nat} {x i : O} : aFun env H (.idxAA len size x i) = idxAAF len size (x.ev env) (i.ev env) := rfl
theorem idxAA_ptr {len size b e o : Nat} {k : IntKind} {n : Int} : idxAAF len size (.ptr b e o) (.pure (.int k n)) = if 0 ≤ n ∧ n < len then some (.ptr b e (o + n.toNat * size)) else none := rfl
theorem idxAA_pptr {len size o : Nat} {v : V} {k : IntKind} {n : Int} : idxAAF len size (.pptr v o) (.pure (.int k n)) = if 0 ≤ n ∧ n < len then some (.pptr v (o + n.toNat * size)) else none := rfl
def idxSF (s i : S) : Option S := match s, i with
 | .pure (.str s), .pure (.int _ n) => if 0 ≤ n then (s[n.toNat]?).map fun b => .pure (.int .u8 b.toNat) else none
 | _, _ => none
def b2sF : S → Option S
 | .empty => some (.pure (.str []))
 | .pure (.sl es) => match bytesOf es with
  | some b => some (.pure (.str b))
  | none => none
 | _ => none
theorem aFun_b2s {x : O} : aFun env H (.b2s x) = b2sF (x.ev env) := by
 simp only [aFun, b2sF]
 cases x.ev env with
 | pure v => cases v <;> rfl
 | _ => rfl
theorem b2sF_empty : b2sF .empty = some (.pure (.str [])) := rfl
theorem b2sF_ints {ns : List Int} : b2sF (.pure (.sl (ns.map (V.int .u8)))) = some (.pure (.str (ns.map fun n => UInt8.ofNat n.toNat))) := by
 have h : ∀ ns : List Int, bytesOf (ns.map (V.int .u8)) = some (ns.map fun n => UInt8.ofNat n.toNat) := by
  intro ns
  induction ns with
  | nil => rfl
  | cons n r ih => simp only [List.map_cons, bytesOf, ih]
 simp only [b2sF, h]
theorem aFun_idxS {x i : O} : aFun env H (.idxS x i) = idxSF (x.ev env) (i.ev env) := rfl
theorem idxS_eq {s : List UInt8} {k : IntKind} {n : Int} : idxSF (.pure (.str s)) (.pure (.int k n)) = if 0 ≤ n then (s[n.toNat]?).map fun b => .pure (.int .u8 b.toNat) else none := rfl
def extF (i : Nat) (s : S) : Option S := match s with
 | .tup ss => ss[i]?
 | _ => none
theorem lenN_empty : lenN .empty = some 0 := rfl
theorem lenN_sl {es : List V} : lenN (.pure (.sl es)) = some es.length := rfl
theorem lenN_rsl {b o n : Nat} : lenN (.rsl b o n) = some n := rfl
theorem aFun_ext {i : Nat} {x : O} : aFun env H (.ext i x) = extF i (x.ev env) := rfl
theorem ext_tup {i : Nat} {ss : List S} : extF i (.tup ss) = ss[i]? := rfl
def mxF (a b : S) : Option S := match a, b with
 | .pure (.int k a), .pure (.int k' b) => if k = k' then some (.pure (.int k (if b > a then b else a))) else none
 | _, _ => none
def mnF (a b : S) : Option S := match a, b with
 | .pure (.int k a), .pure (.int k' b) => if k = k' then some (.pure (.int k (if b < a then b else a))) else none
 | _, _ => none
theorem aFun_mx {x y : O} : aFun env H (.mx x y) = mxF (x.ev env) (y.ev env) := rfl
theorem aFun_mn {x y : O} : aFun env H (.mn x y) = mnF (x.ev env) (y.ev env) := rfl
theorem mx_int {k : IntKind} {a b : Int} : mxF (.pure (.int k a)) (.pure (.int k b)) = some (.pure (.int k (max a b))) := by
 simp only [mxF, if_true]
 congr 3
 by_cases h : b > a
 ·rw [if_pos h]; omega
 ·rw [if_neg h]; omega
theorem mn_int {k : IntKind} {a b : Int} : mnF (.pure (.int k a)) (.pure (.int k b)) = some (.pure (.int k (min a b))) := by
 simp only [mnF, if_true]
 congr 3
 by_cases h : b < a
 ·rw [if_pos h]; omega
 ·rw [if_neg h]; omega
def lenO (s : S) : Option S := match s with
 | .empty => some (.pure (.int .i64 0))
 | .pure (.sl es) => some (.pure (.int .i64 es.length))
 | .rsl _ _ n => some (.pure (.int .i64 n))
 | _ => none
theorem aFun_len {x : O} : aFun env H (.len x) = lenO (x.ev env) := rfl
theorem lenO_empty : lenO .empty = some (.pure (.int .i64 0)) := rfl
theorem lenO_sl {es : List V} : lenO (.pure (.sl es)) = some (.pure (.int .i64 es.length)) := rfl
theorem lenO_rsl {b o n : Nat} : lenO (.rsl b o n) = some (.pure (.int .i64 n)) := rfl
theorem lenF_empty : lenF .empty = some (0, .pure (.int .i64 0)) := rfl
theorem lenF_sl {es : List V} : lenF (.pure (.sl es)) = some (es.length, .pure (.int .i64 es.length)) := rfl
theorem lenF_rsl {b o n : Nat} : lenF (.rsl b o n) = some (n, .pure (.int .i64 n)) := rfl
/-- parts of slices -/
def slcF (H : Heap) (size : Nat) (mx : Bool) (s : S) (b : Nat → Option (Int × Int × Int)) : Option S := match s with
 | .empty => match b 0 with
  | some (l, h, m) => if l = 0 ∧ h = 0 ∧ m = 0 then some .empty else none
  | none => none
 | .pure (.sl es) => match b es.length with
  | some (l, h, m) => if 0 ≤ l ∧ l ≤ h ∧ h ≤ m ∧ m ≤ es.length ∧ (∀ e ∈ es, e.cells.length = size) then
    (if mx = true ∧ l = m then some .empty else some (.pure (.sl ((es.take h.toNat).drop l.toNat)))) else none
  | none => none
 | .rsl b' off len => match b len, Vm.rowAt H b' with
  | some (l, h, _), some r => if mx = false ∧ r.size = size ∧ 0 ≤ l ∧ l ≤ h ∧ h ≤ len then some (.rsl b' (off + l.toNat) (h - l).toNat) else none
  | _, _ => none
 | _ => none
def bndF (lo : Option Int) (hi mx : Nat → Option Int) (d : Nat) : Option (Int × Int × Int) := match lo, hi d, mx d with
 | some l, some h, some m => some (l, h, m)
 | _, _, _ => none
theorem stF_ptr {n b i off : Nat} {v : S} : stF H n (.ptr b i off) v = match H[b]? with
  | some r => match r.es[i]? with
   | some e => if r.st = .live ∧ v.okv = true ∧ v.cells.length = n ∧ off + n ≤ e.cells.length then some (H.set b ⟨r.es.set i (e.put off v), r.size, .live⟩) else none
   | none => none
  | none => none := rfl
theorem clrF_rsl {n b off len : Nat} : clrF H n (.rsl b off len) = match H[b]? with
  | some r => if r.st = .live ∧ r.size = n then some (.tup [], H.set b ⟨r.es.take off, r.size, .live⟩) else none
  | none => none := rfl
theorem boxF_eq {s : S} : boxF H s = if s.okv = true then some (.ptr H.length 0 0, H ++ [⟨[s], s.cells.length, .live⟩]) else none := rfl
theorem bsF_eq {size : Nat} {ss : List S} : bsF H size ss = if (ss.all fun s => s.okv && s.cells.length == size) = true then some (.rsl H.length 0 ss.length, H ++ [⟨ss, size, .live⟩]) else none := rfl
theorem srcOf_empty {size : Nat} : srcOf H size .empty = some [] := rfl
theorem srcOf_sl {size : Nat} {es : List V} : srcOf H size (.pure (.sl es)) = some (es.map .pure) := rfl
theorem fvF_pure {f : Nat} {a c : List V} {args : List S} : fvF (.pure (.func (.func f) a c)) args = some (f, a.map .pure ++ args ++ c.map .pure) := rfl
theorem fvF_func {f : Nat} {a c : List S} {args : List S} : fvF (.func (.func f) a c) args = some (f, a ++ args ++ c) := rfl
/-! results -/
theorem resVals_nil : resVals env H [] = some [] := rfl
def consR : Option S → Option (List S) → Option (List S)
 | some s, some l => some (s :: l)
 | _, _ => none
theorem consR_some {s : S} {l : List S} : consR (some s) (some l) = some (s :: l) := rfl
theorem resVals_cons {r : RS} {q : List RS} : resVals env H (r :: q) = consR (r.val env H) (resVals env H q) := by
 simp only [resVals, consR]
 all_goals (cases r.val env H <;> cases resVals env H q <;> rfl)
theorem val_t {k : Nat} : RS.val env H (.t k) = some (env.get k) := rfl
theorem val_c {k n : Nat} {g : Bool} : RS.val env H (.c k g n) = loadF H g n (env.get k) := aFun_load
theorem retS_one {s : S} : retS [s] = s := rfl
theorem retS_two {s t : S} {l : List S} : retS (s :: t :: l) = .tup (s :: t :: l) := rfl
theorem retS_nil : retS [] = .tup [] := rfl
end
end Go.Vm
/-! The abstract machine, part 25: what a row reads ('trod') is data of the type's shape. -/
namespace Go.Vm
open Go Go.RowKit
/-- the shape of one cell -/
inductive CT where
 | int (k : IntKind)
 | bool
 | str
 | sl (agg : Bool) (ts : List CT)
 deriving Inhabited
/-- data of a cell's shape -/
inductive OkC : CT → V → Prop where
 | int (k : IntKind) (n : Int) (h : (Lit.int k n).wf = true) : OkC (.int k) (.int k n)
 | bool (b : Bool) : OkC .bool (.bool b)
 | str (s : List UInt8) (h : s.length ≤ maxLen) : OkC .str (.str s)
 | sl (g : Bool) (ts : List CT) (es : List V) (h : es.length ≤ maxLen) (hg : ∀ e ∈ es, e.isCell = !g) (hl : ∀ e ∈ es, e.cells.length = ts.length)
   (hc : ∀ e ∈ es, ∀ j, j < ts.length → OkC (ts.getD j .bool) (e.cells.getD j default)) : OkC (.sl g ts) (.sl es)
theorem OkC.cell {t : CT} {v : V} (h : OkC t v) : v.isCell = true := by cases h <;> rfl
def tyL {α : Type} (P : Program) (k : TypeId → Option (Bool × List CT)) (ty : α → TypeId) (off : α → Nat) : List α → Nat → Option (List CT)
 | [], _ => some []
 | a :: r, o => match k (ty a) with
  | some (_, ts) => if off a = o ∧ P.cellsOf (ty a) = ts.length then (match tyL P k ty off r (o + ts.length) with
   | some q => some (ts ++ q)
   | none => none) else none
  | none => none
def tyC (P : Program) : Nat → TypeId → Option (Bool × List CT)
 | 0, _ => none
 | d + 1, t => match P.underlying t with
  | some .bool => some (false, [.bool])
  | some (.int k) => some (false, [.int k])
  | some .string => some (false, [.str])
  | some (.slice e) => match tyC P d e with
   | some (g, ts) => if ts ≠ [] ∧ P.cellsOf e = ts.length ∧ (g = true ∨ ts.length = 1) then some (false, [.sl g ts]) else none
   | none => none
  | some (.struct fs) => match tyL P (tyC P d) (fun (f : Field) => f.type) (fun (f : Field) => f.offset) fs.toList 0 with
   | some ts => if P.cellsOf t = ts.length then some (true, ts) else none
   | none => none
  | some (.array n e) => match tyL P (tyC P d) (fun (_ : Nat) => e) (fun (i : Nat) => i * P.cellsOf e) (List.range n) 0 with
   | some ts => if P.cellsOf t = ts.length then some (true, ts) else none
   | none => none
  | _ => none
/-- cells that are data of their shapes -/
structure CellsOk (W : World) (cs : List Value) (ts : List CT) (vs : List V) : Prop where
 len : cs.length = ts.length
 lv : vs.length = ts.length
 rep : ∀ j, j < ts.length → PRep W (fun _ => False) (cs.getD j undef) (vs.getD j default)
 ok : ∀ j, j < ts.length → OkC (ts.getD j .bool) (vs.getD j default)
theorem mapM_some {α β : Type} {f : α → Option β} : ∀ {l : List α} {r : List β}, l.mapM f = some r → r.length = l.length ∧ ∀ i (hi : i < l.length), ∃ y, f l[i] = some y ∧ r[i]? = some y
 | [], r, h => by simp at h; subst h; exact ⟨rfl, fun i hi => by simp at hi⟩
 | a :: l, r, h => by
  rw [List.mapM_cons] at h
  cases ha : f a with
  | none => simp [ha] at h
  | some y =>
   cases hl : l.mapM f with
   | none => simp [ha, hl] at h
   | some q =>
    simp [ha, hl] at h
    subst h
    obtain ⟨h1, h2⟩ := mapM_some hl
    refine ⟨by simp [h1], fun i hi => ?_⟩
    cases i with
    | zero => exact ⟨y, by simpa using ha, rfl⟩
    | succ i =>
     obtain ⟨z, h3, h4⟩ := h2 i (by simpa using hi)
     exact ⟨z, by simpa using h3, by simpa using h4⟩
theorem CellsOk.one {W : World} {v : Value} {t : CT} {d : V} (h1 : PRep W (fun _ => False) v d) (h2 : OkC t d) : CellsOk W [v] [t] [d] :=
 ⟨rfl, rfl, fun j hj => by
  obtain rfl : j = 0 := by simpa using hj
  exact h1, fun j hj => by
  obtain rfl : j = 0 := by simpa using hj
  exact h2⟩
theorem CellsOk.append {W : World} {c1 c2 : List Value} {t1 t2 : List CT} {v1 v2 : List V} (h1 : CellsOk W c1 t1 v1) (h2 : CellsOk W c2 t2 v2) : CellsOk W (c1 ++ c2) (t1 ++ t2) (v1 ++ v2) := by
 refine ⟨by simp [h1.len, h2.len], by simp [h1.lv, h2.lv], fun j hj => ?_, fun j hj => ?_⟩
 ·simp only [List.getD_append_cases, h1.len, h1.lv]
  split
  ·exact h1.rep j (by assumption)
  ·exact h2.rep _ (by simp at hj; omega)
 ·simp only [List.getD_append_cases, h1.lv]
  split
  ·exact h1.ok j (by assumption)
  ·exact h2.ok _ (by simp at hj; omega)
theorem tyL_ok {α : Type} {P : Program} {W : World} {k : TypeId → Option (Bool × List CT)} {ty : α → TypeId} {off : α → Nat} {R : TypeId → List Value → Prop} (ih : ∀ t g ts cs, k t = some (g, ts) → R t cs → ∃ vs, CellsOk W cs ts vs) (cs : List Value) :
  ∀ (l : List α) (o : Nat) (ts : List CT), tyL P k ty off l o = some ts → cs.length = o + ts.length → (∀ a ∈ l, R (ty a) ((cs.drop (off a)).take (P.cellsOf (ty a)))) → ∃ vs, CellsOk W (cs.drop o) ts vs
 | [], o, ts, h, hl, _ => by
  simp [tyL] at h
  subst h
  exact ⟨[], by simp at hl ⊢; omega, rfl, fun j hj => by simp at hj, fun j hj => by simp at hj⟩
 | a :: r, o, ts, h, hl, hR => by
  simp only [tyL] at h
  split at h
  ·rename_i g ts1 hk
   split at h
   ·rename_i hc
    obtain ⟨hoff, hn⟩ := hc
    split at h
    ·rename_i q hq
     cases h
     obtain ⟨v1, h1⟩ := ih _ _ _ _ hk (hR a (by simp))
     obtain ⟨v2, h2⟩ := tyL_ok ih cs r (o + ts1.length) q hq (by simp at hl; omega) (fun b hb => hR b (by simp [hb]))
     refine ⟨v1 ++ v2, ?_⟩
     have e : cs.drop o = (cs.drop (off a)).take (P.cellsOf (ty a)) ++ cs.drop (o + ts1.length) := by
      rw [hoff, hn, ← List.drop_drop, List.take_append_drop]
     rw [e]
     exact h1.append h2
    ·cases h
   ·cases h
  ·cases h
theorem tyC_one {P : Program} {d : Nat} {t : TypeId} {ts : List CT} (h : tyC P d t = some (false, ts)) : ts.length = 1 := by
 cases d with
 | zero => cases h
 | succ d =>
  simp only [tyC] at h
  split at h
  ·cases h; rfl
  ·cases h; rfl
  ·cases h; rfl
  ·split at h
   ·split at h
    ·cases h; rfl
    ·cases h
   ·cases h
  ·split at h
   ·split at h <;> cases h
   ·cases h
  ·split at h
   ·split at h <;> cases h
   ·cases h
  ·cases h
theorem cells?_get {W : World} {base : Nat} {a : Addr} {n : Nat} {row : List Value} (h : W.cells? base a n = some row) : row.length = n ∧ ∀ j, j < n → W.cell? (a.add j) = some (row.getD j undef) := by
 unfold World.cells? at h
 split at h
 ·obtain ⟨h1, h2⟩ := mapM_some h
  simp at h1
  refine ⟨h1, fun j hj => ?_⟩
  obtain ⟨y, h3, h4⟩ := h2 j (by simpa using hj)
  simp at h3
  rw [h3, List.getD_eq_getElem?_getD, h4]
  rfl
 ·cases h
/-- WHAT IS READ IS DATA. -/
theorem trod_ok {H : Type} {enc : TypeId × Value → H} {P : Program} {W : World} {base : Nat} {held : Bool} : ∀ (n : Nat) (d : Nat) (t : TypeId) (cs : List Value) (x : DataW H × List MemPlace) (g : Bool) (ts : List CT),
  DataW.trod enc P W base (fun _ => true) held n t cs = some x → tyC P d t = some (g, ts) → ∃ vs, CellsOk W cs ts vs
 | 0, _, _, _, _, _, _, h, _ => by simp [DataW.trod] at h
 | _ + 1, 0, _, _, _, _, _, _, h => by cases h
 | n + 1, d + 1, t, cs, x, g, ts, h, ht => by
  have ih : ∀ t' g' ts' cs', tyC P d t' = some (g', ts') → (∃ x', DataW.trod enc P W base (fun _ => true) held n t' cs' = some x') → ∃ vs, CellsOk W cs' ts' vs := fun t' g' ts' cs' h1 ⟨x', h2⟩ => trod_ok n d t' cs' x' g' ts' h2 h1
  simp only [tyC] at ht
  split at ht
  ·rename_i hu
   cases ht
   obtain ⟨b, rfl, _⟩ := DataW.trod_bool hu h
   exact ⟨[.bool b], .one (.bool b) (.bool b)⟩
  ·rename_i k hu
   cases ht
   obtain ⟨m, rfl, _, hw⟩ := DataW.trod_int hu h
   exact ⟨[.int k m], .one (.int k m hw) (.int k m hw)⟩
  ·rename_i hu
   cases ht
   obtain ⟨s, rfl, _, hs⟩ := DataW.trod_string hu h
   exact ⟨[.str s.data.toList], .one (.str s hs) (.str _ (by simpa using hs))⟩
  ·rename_i e hu
   split at ht
   ·rename_i g' ts' hk
    split at ht
    ·rename_i hc
     obtain ⟨hne, hsz, hone⟩ := hc
     cases ht
     have hpos : 0 < ts'.length := List.length_pos_iff.2 hne
     rcases DataW.trod_slice hu h with ⟨rfl, _⟩ | ⟨a, len, cap, elems, rest, m, hm, rfl, _, _, hlc, hcm, hel, hels, hrest, _⟩
     ·exact ⟨[.sl []], .one (.nils none) (.sl _ _ [] (by simp) (fun _ h => by cases h) (fun _ h => by cases h) (fun _ h => by cases h))⟩
     ·cases hm
      -- the elements
      have hrow : ∀ i, i < len → ∃ row x', W.cells? base (a.add (i * P.cellsOf e)) (P.cellsOf e) = some row ∧ DataW.trod enc P W base (fun _ => true) held n e row = some x' := by
       intro i hi
       have := hels i hi
       rw [List.getElem?_eq_getElem (by omega)] at this
       cases hr : W.cells? base (a.add (i * P.cellsOf e)) (P.cellsOf e) with
       | none => rw [hr] at this; cases this
       | some row => rw [hr] at this; exact ⟨row, _, rfl, this⟩
      have hvs : ∀ i, ∃ vs : List V, i < len → vs.length = ts'.length ∧ (∀ j, j < ts'.length → ∃ u, W.cell? ((a.add (i * P.cellsOf e)).add j) = some u ∧ PRep W (fun _ => False) u (vs.getD j default)) ∧ ∀ j, j < ts'.length → OkC (ts'.getD j .bool) (vs.getD j default) := by
       intro i
       by_cases hi : i < len
       ·obtain ⟨row, x', h1, h2⟩ := hrow i hi
        obtain ⟨h3, h4⟩ := cells?_get h1
        obtain ⟨vs, h5⟩ := ih e g' ts' row hk ⟨x', h2⟩
        exact ⟨vs, fun _ => ⟨h5.lv, fun j hj => ⟨_, h4 j (by omega), h5.rep j hj⟩, h5.ok⟩⟩
       ·exact ⟨[], fun h => absurd h hi⟩
      obtain ⟨F, hF⟩ := Classical.axiomOfChoice hvs
      by_cases hz : len = 0 ∧ cap = 0
      ·obtain ⟨rfl, rfl⟩ := hz
       exact ⟨[.sl []], .one (.nils (some a)) (.sl _ _ [] (by simp) (fun _ h => by cases h) (fun _ h => by cases h) (fun _ h => by cases h))⟩
      ·have hspot : a.spot = none := by
        have cellSpot : ∀ (b : Addr) (u : Value), W.cell? b = some u → b.spot = none := by
         intro b u hb
         unfold World.cell? at hb
         split at hb
         ·split at hb
          ·cases hb
          ·rename_i hs; simpa using hs
         ·cases hb
        by_cases hl0 : len = 0
        ·obtain ⟨h1, h2⟩ := hrest rfl
         have := h2 0 (by omega)
         rw [List.getElem?_eq_getElem (by omega)] at this
         cases hr : W.cells? base (a.add ((len + 0) * P.cellsOf e)) (P.cellsOf e) with
         | none => rw [hr] at this; cases this
         | some row =>
          obtain ⟨_, h4⟩ := cells?_get hr
          have := cellSpot _ _ (h4 0 (by omega)); simpa [Addr.add, hl0] using this
        ·obtain ⟨row, x', h1, h2⟩ := hrow 0 (by omega)
         obtain ⟨_, h4⟩ := cells?_get h1
         have := cellSpot _ _ (h4 0 (by omega)); simpa [Addr.add] using this
       obtain ⟨blk, off, spot⟩ := a
       simp at hspot
       subst hspot
       have isC : ∀ i j, i < len → j < ts'.length → ((F i).getD j default).isCell = true := fun i j hi hj => ((hF i hi).2.2 j hj).cell
       let el : Nat → V := fun i => if g' = true then .agg (F i) else (F i).getD 0 default
       have elc : ∀ i, i < len → (el i).cells = F i ∧ (el i).isCell = !g' := by
        intro i hi
        have hl := (hF i hi).1
        cases hg : g' with
        | true => simp [el, hg, V.cells, V.isCell]
        | false =>
         have h1 : ts'.length = 1 := by
          rcases hone with h | h
          ·rw [hg] at h; cases h
          ·exact h
         obtain ⟨v, hv⟩ := List.length_eq_one_iff.1 (hl.trans h1)
         have hc := isC i 0 hi (by omega)
         simp only [el, hg, Bool.false_eq_true, if_false, hv, List.getD_cons_zero] at hc ⊢
         cases v <;> simp_all [V.cells, V.isCell]
       have hmem : ∀ x ∈ (List.range len).map el, ∃ i, i < len ∧ x = el i := by
        intro x hx
        obtain ⟨i, hi, rfl⟩ := List.mem_map.1 hx
        exact ⟨i, List.mem_range.1 hi, rfl⟩
       have hget : ∀ i, i < len → ((List.range len).map el).getD i default = el i := by
        intro i hi
        simp [List.getD_eq_getElem?_getD, hi]
       refine ⟨[.sl ((List.range len).map el)], .one ?_ ?_⟩
       ·refine .sl blk off len cap ts'.length _ (fun k => (W.cell? ⟨blk, off + k, none⟩).getD undef) hpos (by simp) hlc hcm (fun _ h => h) ?_ ?_ ?_ ?_
        ·intro x hx
         obtain ⟨i, hi, rfl⟩ := hmem x hx
         rw [(elc i hi).1, (hF i hi).1]
        ·intro x hx v hv
         obtain ⟨i, hi, rfl⟩ := hmem x hx
         rw [(elc i hi).1] at hv
         obtain ⟨j, hj, rfl⟩ := List.mem_iff_getElem.1 hv
         have := isC i j hi (by rw [← (hF i hi).1]; exact hj)
         rwa [List.getD_eq_getElem?_getD, List.getElem?_eq_getElem hj] at this
        ·intro i j hi hj
         have hi' : i < len := by simpa using hi
         obtain ⟨u, h1, _⟩ := (hF i hi').2.1 j hj
         rw [addr_add, addr_add, hsz] at h1
         rw [show off + (i * ts'.length + j) = off + i * ts'.length + j by omega, h1]
         rfl
        ·intro i j hi hj
         have hi' : i < len := by simpa using hi
         obtain ⟨u, h1, h2⟩ := (hF i hi').2.1 j hj
         rw [addr_add, addr_add, hsz] at h1
         rw [hget i hi', (elc i hi').1, show off + (i * ts'.length + j) = off + i * ts'.length + j by omega, h1]
         exact h2
       ·refine .sl _ _ _ (by simp; omega) ?_ ?_ ?_
        ·intro x hx
         obtain ⟨i, hi, rfl⟩ := hmem x hx
         exact (elc i hi).2
        ·intro x hx
         obtain ⟨i, hi, rfl⟩ := hmem x hx
         rw [(elc i hi).1, (hF i hi).1]
        ·intro x hx j hj
         obtain ⟨i, hi, rfl⟩ := hmem x hx
         rw [(elc i hi).1]
         exact (hF i hi).2.2 j hj
    ·cases ht
   ·cases ht
  ·rename_i fs hu
   split at ht
   ·rename_i ts' hk
    split at ht
    ·rename_i hsz
     cases ht
     obtain ⟨xs, m, hm, _, hlen, hxl, hx⟩ := DataW.trod_struct hu h
     cases hm
     have := tyL_ok (W := W) (R := fun t' cs' => ∃ x', DataW.trod enc P W base (fun _ => true) held n t' cs' = some x') (fun t' g' ts' cs' => ih t' g' ts' cs') cs fs.toList 0 _ hk (by omega) (fun f hf => by
      obtain ⟨i, hi, rfl⟩ := List.mem_iff_getElem.1 hf
      have hi' : i < fs.size := by simpa using hi
      have := hx i fs[i] (Array.getElem?_eq_getElem hi')
      rw [List.getElem?_eq_getElem (by omega)] at this
      exact ⟨_, by simpa using this⟩)
     simpa using this
    ·cases ht
   ·cases ht
  ·rename_i m e hu
   split at ht
   ·rename_i ts' hk
    split at ht
    ·rename_i hsz
     cases ht
     obtain ⟨xs, m', hm, _, hlen, hxl, hx⟩ := DataW.trod_array hu h
     cases hm
     have := tyL_ok (W := W) (R := fun t' cs' => ∃ x', DataW.trod enc P W base (fun _ => true) held n t' cs' = some x') (fun t' g' ts' cs' => ih t' g' ts' cs') cs (List.range m) 0 _ hk (by omega) (fun i hi => by
      have hi' : i < m := List.mem_range.1 hi
      have := hx i hi'
      rw [List.getElem?_eq_getElem (by omega)] at this
      exact ⟨_, this⟩)
     simpa using this
    ·cases ht
   ·cases ht
  ·cases ht
end Go.Vm
/-! The abstract machine, part 26: the entry of a law: 'true for every input, the input reads as it did', out of the contract of its function. -/
namespace Go.Vm
open Go Go.RowKit Go.ChangeShapes Go.WideShapes Go.ChangeAt
/-- data of a type's shape -/
structure OkE (g : Bool) (ts : List CT) (v : V) : Prop where
 cell : v.isCell = !g
 len : v.cells.length = ts.length
 ok : ∀ j, j < ts.length → OkC (ts.getD j .bool) (v.cells.getD j default)
/-- data of a type -/
def OkT (P : Program) (t : TypeId) (v : V) : Prop := ∀ d g ts, tyC P d t = some (g, ts) → OkE g ts v
def OkTs (P : Program) : List TypeId → List V → Prop
 | [], [] => True
 | t :: ts, v :: vs => OkT P t v ∧ OkTs P ts vs
 | _, _ => False
theorem cell_noAgg {P : Program} {W : World} {r : Reach} {base : Nat} {t : TypeId} {cs : Array Value} (hu : (∃ k, P.underlying t = some (.int k)) ∨ P.underlying t = some .bool ∨ P.underlying t = some .string ∨ ∃ e, P.underlying t = some (.slice e)) :
  ¬ Value.okWide P W r base t (.agg cs) := by
 intro h
 rcases hu with ⟨k, hu⟩ | hu | hu | ⟨e, hu⟩ <;> simp [Value.okWide, hu, Cell.okWide, Cell.ok] at h
theorem arg_data {H : Type} {enc : TypeId × Value → H} {P : Program} {W : World} {base : Nat} {r : Reach} {b0 : Nat} {held : Bool} {t : TypeId} {v : Value} {x : DataW H} {ps : List MemPlace} {d : Nat} {g : Bool} {ts : List CT} (hty : tyC P d t = some (g, ts))
  (hval : Value.okWide P W r b0 t v) (h : DataW.Trod enc P W base (fun _ => true) held t v x ps) : ∃ dv, PRep W (fun _ => False) v dv ∧ OkT P t dv := by
 obtain ⟨fuel, hf⟩ := h
 -- every look at the type's shape gives data; they are the same
 have go : ∀ d' g' ts', tyC P d' t = some (g', ts') → ∃ dv, PRep W (fun _ => False) v dv ∧ OkE g' ts' dv := by
  intro d' g' ts' hty
  obtain ⟨vs, hc⟩ := trod_ok fuel d' t _ _ g' ts' hf hty
  cases g' with
  | true =>
   obtain ⟨cs, rfl⟩ : ∃ cs, v = .agg cs := by
    cases d' with
    | zero => cases hty
    | succ d' =>
     simp only [tyC] at hty
     split at hty
     ·cases hty
     ·cases hty
     ·cases hty
     ·split at hty
      ·split at hty <;> cases hty
      ·cases hty
     ·rename_i hu
      simp only [Value.okWide, hu] at hval
      obtain ⟨cs, h, _⟩ := hval
      exact ⟨cs, h⟩
     ·rename_i hu
      simp only [Value.okWide, hu] at hval
      obtain ⟨cs, h, _⟩ := hval
      exact ⟨cs, h⟩
     ·cases hty
   refine ⟨.agg vs, .agg cs vs (by have := hc.len; have := hc.lv; simp [Value.cells] at *; omega) (fun u hu => ?_) (fun i hi => ?_), rfl, hc.lv, hc.ok⟩
   ·obtain ⟨j, hj, rfl⟩ := List.mem_iff_getElem.1 hu
    have := (hc.ok j (by rw [← hc.lv]; exact hj)).cell
    rwa [List.getD_eq_getElem?_getD, List.getElem?_eq_getElem hj] at this
   ·have := hc.rep i (by rw [← hc.lv]; exact hi)
    simp only [Value.cells] at this
    rwa [Array.getD_toList'] at this
  | false =>
   have h1 := tyC_one hty
   have hv : v.cells = #[v] := by
    have : ∀ cs, v ≠ .agg cs := by
     rintro cs rfl
     refine cell_noAgg ?_ hval
     cases d' with
     | zero => cases hty
     | succ d' =>
      simp only [tyC] at hty
      split at hty
      ·rename_i hu; exact .inr (.inl hu)
      ·rename_i k hu; exact .inl ⟨k, hu⟩
      ·rename_i hu; exact .inr (.inr (.inl hu))
      ·rename_i e hu; exact .inr (.inr (.inr ⟨e, hu⟩))
      ·split at hty
       ·split at hty <;> cases hty
       ·cases hty
      ·split at hty
       ·split at hty <;> cases hty
       ·cases hty
      ·cases hty
    cases v <;> first | rfl | exact absurd rfl (this _)
   obtain ⟨dv, rfl⟩ := List.length_eq_one_iff.1 (hc.lv.trans h1)
   have hcell : dv.isCell = true := (hc.ok 0 (by omega)).cell
   have hcs : dv.cells = [dv] := by cases dv <;> first | rfl | cases hcell
   refine ⟨dv, ?_, by simpa using hcell, by rw [hcs]; simpa using h1.symm, ?_⟩
   ·have := hc.rep 0 (by omega)
    simpa [hv] using this
   ·rw [hcs]
    exact hc.ok
 -- one look serves all: choose the data by the first
 obtain ⟨dv, h1, h2⟩ := go d g ts hty
 exact ⟨dv, h1, fun d' g' ts' hty' => by
  have mono : ∀ (n : Nat) (t : TypeId) (y : Bool × List CT), tyC P n t = some y → tyC P (n + 1) t = some y := by
   have lift : ∀ {α : Type} (n : Nat) (ty : α → TypeId) (off : α → Nat), (∀ (t : TypeId) (y : Bool × List CT), tyC P n t = some y → tyC P (n + 1) t = some y) → ∀ (l : List α) (o : Nat) (q : List CT), tyL P (tyC P n) ty off l o = some q → tyL P (tyC P (n + 1)) ty off l o = some q := by
    intro α n ty off ih l
    induction l with
    | nil => intro o q h; exact h
    | cons a l ihl =>
     intro o q h
     simp only [tyL] at h ⊢
     split at h
     ·rename_i g1 ts1 hk
      rw [ih _ _ hk]
      split at h
      ·rename_i hc
       simp only [hc, and_self, if_true]
       split at h
       ·rename_i q1 hq1
        rw [ihl _ _ hq1]
        exact h
       ·cases h
      ·cases h
     ·cases h
   intro n
   induction n with
   | zero => intro t y h; cases h
   | succ n ih =>
    intro t y h
    rw [tyC] at h ⊢
    split at h
    ·rename_i hu; simpa [hu] using h
    ·rename_i k hu; simpa [hu] using h
    ·rename_i hu; simpa [hu] using h
    ·rename_i e hu
     try simp only [hu]
     split at h
     ·rename_i g1 ts1 hk; rw [ih _ _ hk]; exact h
     ·cases h
    ·rename_i fs hu
     try simp only [hu]
     split at h
     ·rename_i q hq; rw [lift n _ _ ih _ _ _ hq]; exact h
     ·cases h
    ·rename_i m e hu
     try simp only [hu]
     split at h
     ·rename_i q hq; rw [lift n _ _ ih _ _ _ hq]; exact h
     ·cases h
    ·cases h
  have up : ∀ (k n : Nat) (t : TypeId) (y : Bool × List CT), tyC P n t = some y → tyC P (n + k) t = some y := by
   intro k
   induction k with
   | zero => exact fun n t y h => h
   | succ k ih => exact fun n t y h => mono _ _ _ (ih n t y h)
  have e1 := up d' d t _ hty
  have e2 := up d d' t _ hty'
  rw [Nat.add_comm d' d, e1] at e2
  cases e2
  exact h2⟩
theorem args_data {H : Type} {enc : TypeId × Value → H} {P : Program} {W : World} {base b0 : Nat} {r : Reach} {held : Bool} : ∀ {tl : List TypeId} {vl : List Value} {ds : List (DataW H)} {ps : List MemPlace}, DataW.TrodAll enc P W base (fun _ => true) held tl vl ds ps →
  (∀ t ∈ tl, (tyC P 20 t).isSome = true) → (∀ (j : Nat) (t : TypeId) (v : Value), tl[j]? = some t → vl[j]? = some v → Value.okWide P W r b0 t v) →
  ∃ vs, OkTs P tl vs ∧ vs.length = vl.length ∧ ∀ i, i < vs.length → PRep W (fun _ => False) (vl.getD i undef) (vs.getD i default)
 | [], vl, ds, ps, h, _, _ => by
  obtain ⟨rfl, rfl, rfl⟩ := trodAll_nil h
  exact ⟨[], trivial, rfl, fun i hi => by simp at hi⟩
 | t :: tl, vl, ds, ps, h, hty, hval => by
  obtain ⟨v, vl', d, ds', a, b, rfl, rfl, rfl, h1, h2⟩ := trodAll_cons h
  obtain ⟨y, hy⟩ := Option.isSome_iff_exists.1 (hty t (by simp))
  obtain ⟨dv, h3, h4⟩ := arg_data (g := y.1) (ts := y.2) hy (hval 0 t v rfl rfl) h1
  obtain ⟨vs, h5, h6, h7⟩ := args_data h2 (fun t ht => hty t (by simp [ht])) (fun j t v h h' => hval (j + 1) t v (by simpa using h) (by simpa using h'))
  refine ⟨dv :: vs, ⟨h4, h5⟩, by simp [h6], fun i hi => ?_⟩
  cases i with
  | zero => simpa using h3
  | succ i => simpa using h7 i (by simpa using hi)
theorem args_again {H : Type} {enc : TypeId × Value → H} {P : Program} {W W' : World} (hl : laidOutB P = true) (hb : Below W.heap.size W W') {sp : Nat → Bool} : ∀ {tl : List TypeId} {vl : List Value} {ds : List (DataW H)} {ps : List MemPlace}, DataW.TrodAll enc P W 0 (fun _ => true) true tl vl ds ps →
  (∀ t ∈ tl, P.readableRec t = true ∧ t < P.types.size) → (∀ p ∈ ps, p.block < W.heap.size) → (∀ p ∈ ps, sp p.block = true) → DataW.TrodAll enc P W' 0 sp true tl vl ds ps
 | [], vl, ds, ps, h, _, _, _ => by
  obtain ⟨rfl, rfl, rfl⟩ := trodAll_nil h
  rfl
 | t :: tl, vl, ds, ps, h, hr, hlt, hs => by
  obtain ⟨v, vl', d, ds', a, b, rfl, rfl, rfl, h1, h2⟩ := trodAll_cons h
  exact ⟨a, b, WideElems.Trod_stays hl (hr t (by simp)).1 (hr t (by simp)).2 h1 (fun p hp => hb.same (hlt p (by simp [hp]))) (fun p hp => hs p (by simp [hp])),
   args_again hl hb h2 (fun t ht => hr t (by simp [ht])) (fun p hp => hlt p (by simp [hp])) (fun p hp => hs p (by simp [hp])), rfl⟩
/-- THE ENTRY. -/
theorem law_contract {H : Type} {enc : TypeId × Value → H} {P : Program} {f : Nat} {fn : Func} {s : ChangeSpec} {tb : TypeId} (hvars : s.vars = []) (hl : laidOutB P = true) (hr : ∀ t ∈ fn.params.toList, (tyC P 20 t).isSome = true ∧ P.readableRec t = true ∧ t < P.types.size)
  (hres : fn.resultTypes = #[tb]) (htb : P.underlying tb = some .bool)
  {W : World} {base : Nat} {args : Array Value} {ds gs : List (DataW H)} {before : List MemPlace}
  (hfn : ∀ ds : List (DataW H), ds.length = fn.params.size → s.fn H ds = { results := [.lit (.bool true)], args := ds })
  (hlaw : ∀ vs, OkTs P fn.params.toList vs → FnQ P f vs [.bool true])
  (htab : TabOk W (fun _ => False)) (hval : ∀ (j : Nat) t v, fn.params[j]? = some t → args[j]? = some v → Value.okWide P W .any base t v)
  (hW : DataW.Whole enc P fn.params.toList s.vars false W args.toList ds gs before) :
  Calls P f args W fun e W' => ∃ v, e = .returned v ∧ s.post enc P fn false true false false W args v W' := by
 have hW' := hW
 obtain ⟨p, q, hA, hV, rfl, hz, _⟩ := hW
 rw [hvars] at hV
 obtain ⟨rfl, rfl⟩ := trodVars_none hV
 have hlen : ds.length = fn.params.size := by
  have : ∀ {tl : List TypeId} {vl : List Value} {ds : List (DataW H)} {ps : List MemPlace}, DataW.TrodAll enc P W 0 (fun _ => true) true tl vl ds ps → ds.length = tl.length := by
   intro tl
   induction tl with
   | nil => intro vl ds ps h; obtain ⟨rfl, rfl, rfl⟩ := trodAll_nil h; rfl
   | cons t tl ih =>
    intro vl ds ps h
    obtain ⟨v, vl', d, ds', a, b, rfl, rfl, rfl, h1, h2⟩ := trodAll_cons h
    simp [ih h2]
  simpa using this hA
 obtain ⟨vs, h1, h2, h3⟩ := args_data hA (fun t ht => (hr t ht).1) (fun j t v h h' => hval j t v (by simpa using h) (by simpa using h'))
 refine ((hlaw vs h1).2 W (fun _ => False) args htab (fun _ h => h.elim) (by simpa using h2.symm) (fun i hi => by have := h3 i hi; rwa [Array.getD_toList'] at this)).mono ?_
 rintro e W' ⟨v, rfl, hv, hfr⟩
 obtain rfl : v = .bool true := by cases (show PRep W' (fun _ => False) v (.bool true) from hv); rfl
 refine ⟨_, rfl, ?_⟩
 have hb : Below W.heap.size W W' := ⟨hfr.os, hfr.tape, hfr.output, hfr.size, fun k hk => hfr.keep k hk id⟩
 have hlt := hW'.lt
 have hf := hfn (ds ++ []) (by simpa using hlen)
 have hagain : ∀ sp : Nat → Bool, (∀ x ∈ p, sp x.block = true) → DataW.TrodAll enc P W' 0 sp true fn.params.toList args.toList ds p := fun sp hs =>
  args_again hl hb hA (fun t ht => (hr t ht).2) (fun x hx => hlt x (by simp [hx])) hs
 refine ⟨ds, [], p ++ [], [], p, [], hW', ?_, ?_, ?_, hb.frame _, fun h => by cases h⟩
 ·rw [hf, hres]
  exact trodAll_cons_mk (shut_bool htb _) trodAll_mk0
 ·rw [hf]
  simpa using hagain _ (fun x hx => by simpa using hlt x (by simp [hx]))
 ·rw [hf, hvars]
  rfl
end Go.Vm
/-! The abstract machine, part 27: forgetting, for slots and rows that are listed; a call that takes some of the rows (the frame rule). -/
namespace Go.Vm
open Go Go.RowKit
/-! ### forgetting -/
def pick (l : List Nat) (i : Nat) : Nat := l.getD i 0
theorem pick_inj {l : List Nat} (hl : l.Nodup) {i j : Nat} (hi : i < l.length) (hj : j < l.length) (h : pick l i = pick l j) : i = j := by
 have hp := List.pairwise_iff_getElem.1 hl
 simp only [pick, List.getD_eq_getElem?_getD, List.getElem?_eq_getElem hi, List.getElem?_eq_getElem hj, Option.getD_some] at h
 rcases Nat.lt_trichotomy i j with h1 | h1 | h1
 ·exact absurd h (hp i j hi hj h1)
 ·exact h1
 ·exact absurd h.symm (hp j i hj hi h1)
theorem pick_mem {l : List Nat} {i : Nat} (hi : i < l.length) : pick l i ∈ l := by
 simp only [pick, List.getD_eq_getElem?_getD, List.getElem?_eq_getElem hi, Option.getD_some]
 exact List.getElem_mem _
theorem mem_pick {l : List Nat} {b : Nat} (h : b ∈ l) : ∃ i, i < l.length ∧ pick l i = b := by
 obtain ⟨i, hi, rfl⟩ := List.mem_iff_getElem.1 h
 exact ⟨i, hi, by simp [pick, List.getD_eq_getElem?_getD, List.getElem?_eq_getElem hi]⟩
def keepE (env : Env) (n : Nat) (ρ : Nat → Nat) : Env → Prop
 | [] => True
 | p :: r => (p.2.inb n = true ∧ p.2.ren ρ = env.get p.1) ∧ keepE env n ρ r
theorem keepE_mem {env : Env} {n : Nat} {ρ : Nat → Nat} : ∀ {E : Env}, keepE env n ρ E → ∀ p ∈ E, p.2.inb n = true ∧ p.2.ren ρ = env.get p.1
 | [], _, _, hp => by cases hp
 | q :: r, h, p, hp => by
  rcases List.mem_cons.1 hp with rfl | hp
  ·exact h.1
  ·exact keepE_mem h.2 p hp
/-- a row that is kept -/
def keepR (n : Nat) (ρ : Nat → Nat) (r' : Row) : Option Row → Prop
 | none => r'.st = .dead
 | some r => r'.st = .dead ∨ (r.st ≠ .dead ∧ (r'.st = r.st ∨ r'.st = .frozen) ∧ r'.size = r.size ∧ r.es = r'.es.map (S.ren ρ) ∧ ∀ e ∈ r'.es, e.inb n = true)
def keepH (H : Heap) (n : Nat) (ρ : Nat → Nat) : List Nat → Heap → Prop
 | k :: l, r :: q => keepR n ρ r H[k]? ∧ keepH H n ρ l q
 | [], [] => True
 | _, _ => False
theorem keepH_get {H : Heap} {n : Nat} {ρ : Nat → Nat} : ∀ {l : List Nat} {HE : Heap}, keepH H n ρ l HE → l.length = HE.length ∧ ∀ b r', HE[b]? = some r' → keepR n ρ r' H[pick l b]?
 | [], [], _ => ⟨rfl, fun b r' h => by simp at h⟩
 | k :: l, r :: q, h => by
  obtain ⟨h1, h2⟩ := keepH_get h.2
  refine ⟨by simp [h1], fun b r' hb => ?_⟩
  cases b with
  | zero =>
   obtain rfl : r = r' := by simpa using hb
   exact h.1
  | succ b => simpa [pick] using h2 b r' (by simpa using hb)
 | [], _ :: _, h => h.elim
 | _ :: _, [], h => h.elim
theorem Up.to {kp : Nat} {K : Env → Heap → Prop} {env : Env} {H : Heap} (l : List Nat) (E : Env) (HE : Heap) (hl : l.Nodup) (hk : l.take kp = List.range kp)
  (hE : keepE env l.length (pick l) E) (hH : keepH H l.length (pick l) l HE) (h : K E HE) : Up kp K env H := by
 obtain ⟨h1, h2⟩ := keepH_get hH
 refine .weak E HE (pick l) ⟨fun i j hi hj => pick_inj hl (by omega) (by omega), fun i hi => ?_, fun p hp => ?_, fun b r' hb => ?_⟩ (.here h)
 ·have hlen := congrArg List.length hk
  simp only [List.length_take, List.length_range] at hlen
  have hi' : i < l.length := by omega
  refine ⟨by omega, ?_⟩
  have := congrArg (fun q : List Nat => q[i]?) hk
  simp only [List.getElem?_take, hi, if_true, List.getElem?_range hi] at this
  simp [pick, List.getD_eq_getElem?_getD, this]
 ·rw [← h1]; exact keepE_mem hE p hp
 ·have := h2 b r' hb
  rw [← h1]
  cases hg : H[pick l b]? with
  | none => rw [hg] at this; exact .inl this
  | some r =>
   rw [hg] at this
   exact this.imp id fun h => ⟨r, rfl, h⟩
/-! ### a call that takes some of the rows -/
theorem Rep.ren {w : World} {X X' : Nat → Prop} {μ μ' : Mu} {ρ : Nat → Nat} (hX : ∀ k, X' k → X k) (hμ : ∀ b l, μ b = some l → μ' (ρ b) = some l) {v : Value} {s : S} (h : Rep w X μ v s) : Rep w X' μ' v (s.ren ρ) := by
 have get : ∀ {l : List S} {i : Nat} {v : Value}, i < l.length → Rep w X' μ' v ((l.getD i .dead).ren ρ) → Rep w X' μ' v ((l.map (S.ren ρ)).getD i .dead) := by
  intro l i v hi h
  simpa [List.getD_eq_getElem?_getD, List.getElem?_map, List.getElem?_eq_getElem hi] using h
 induction h with
 | pure v d h => exact .pure _ _ (h.less hX)
 | empty a ha => exact .empty a ha
 | rsl b off len cap l hl hv hc hm hr => exact .rsl _ _ _ cap l (hμ _ _ hl) hv hc hm hr
 | rslz a ha b off l hl => exact .rslz a ha _ _ l (hμ _ _ hl)
 | ptr b i off l hl hv => exact .ptr _ _ _ l (hμ _ _ hl) hv
 | pptr blk o d off f hz hx hcell hw hr => exact .pptr blk o _ _ f hz (fun h => hx (hX _ h)) hcell hw (fun j hj => (hr j hj).less hX)
 | agg cs ss hl hc _ ih =>
  simp only [S.ren, S.rens_eq]
  refine .agg cs _ (by simpa using hl) (fun s hs => ?_) fun i hi => get (by simpa using hi) (ih i (by simpa using hi))
  obtain ⟨s0, h0, rfl⟩ := List.mem_map.1 hs
  rw [S.ren_isCell]
  exact hc s0 h0
 | func fn f c fs cs h1 h2 _ _ ih1 ih2 =>
  simp only [S.ren, S.rens_eq]
  exact .func _ f c _ _ (by simpa using h1) (by simpa using h2) (fun i hi => get (by simpa using hi) (ih1 i (by simpa using hi))) (fun i hi => get (by simpa using hi) (ih2 i (by simpa using hi)))
 | iface t v s0 _ ih => exact .iface _ _ _ ih
 | tup vs ss hl _ ih =>
  simp only [S.ren, S.rens_eq]
  exact .tup vs _ (by simpa using hl) fun i hi => get (by simpa using hi) (ih i (by simpa using hi))
 | dead v => exact .dead v
def embRow (ρ : Nat → Nat) (r : Row) : Row := ⟨r.es.map (S.ren ρ), r.size, r.st⟩
theorem RowRep.ren {w : World} {X X' : Nat → Prop} {μ μ' : Mu} {ρ : Nat → Nat} {loc : Loc} {r : Row} (hX : ∀ k, X' k → X k) (hμ : ∀ b l, μ b = some l → μ' (ρ b) = some l) (h : RowRep w X μ loc r) : RowRep w X' μ' loc (embRow ρ r) := by
 refine ⟨h.size, h.pos, fun hv => ?_, fun e he => ?_, fun e he s hs => ?_, fun hv => ?_, fun hv i j hi hj => ?_, fun hv hst => h.live hv hst, fun hv hst hne hx => ?_⟩
 ·simp [embRow, h.virt hv]
 ·obtain ⟨e0, h0, rfl⟩ := List.mem_map.1 he
  rw [S.ren_cells, List.length_map]
  exact h.lens e0 h0
 ·obtain ⟨e0, h0, rfl⟩ := List.mem_map.1 he
  rw [S.ren_cells] at hs
  obtain ⟨s0, h1, rfl⟩ := List.mem_map.1 hs
  rw [S.ren_isCell]
  exact h.cellOk e0 h0 s0 h1
 ·have := h.fits hv
  simpa [embRow] using this
 ·have hi' : i < r.es.length := by simpa [embRow] using hi
  obtain ⟨v, h1, h2⟩ := h.cells hv i j hi' hj
  refine ⟨v, h1, ?_⟩
  have := h2.ren hX hμ
  have hm : r.es[i] ∈ r.es := List.getElem_mem _
  have hl := h.lens _ hm
  have he : r.es.getD i .dead = r.es[i] := by rw [List.getD_eq_getElem?_getD, List.getElem?_eq_getElem hi']; rfl
  have he' : (embRow ρ r).es.getD i .dead = (r.es[i]).ren ρ := by
   simp only [embRow, List.getD_eq_getElem?_getD, List.getElem?_map, List.getElem?_eq_getElem hi', Option.map_some, Option.getD_some]
  rw [he', S.ren_cells]
  rw [he] at this
  simp only [List.getD_eq_getElem?_getD, List.getElem?_map, List.getElem?_eq_getElem (show j < (r.es[i]).cells.length by omega), Option.map_some, Option.getD_some] at this ⊢
  exact this
 ·exact h.frozen hv hst (fun e => hne (by simp [embRow, e])) (hX _ hx)
theorem RowRep.unren {w : World} {X X' : Nat → Prop} {μ μ' : Mu} {ρ : Nat → Nat} {N : Nat} {loc : Loc} {r r' : Row} (hX : ∀ k, X' k → X k) (hμ : ∀ b l, b < N → μ (ρ b) = some l → μ' b = some l) (h : RowRep w X μ loc r)
  (h3 : r'.st = r.st) (h4 : r'.size = r.size) (h5 : r.es = r'.es.map (S.ren ρ)) (h6 : ∀ e ∈ r'.es, e.inb N = true) : RowRep w X' μ' loc r' := by
 have hlen : r.es.length = r'.es.length := by rw [h5]; simp
 refine ⟨by rw [h4, h.size], h.pos, (fun hv => ?_), (fun e he => ?_), (fun e he s hs => ?_), (fun hv => by rw [← hlen]; exact h.fits hv), (fun hv i j hi hj => ?_), (fun hv hst => h.live hv (by rw [← h3, hst])), (fun hv hst hne hx => ?_)⟩
 ·have := h.virt hv
  rw [h5] at this
  exact List.map_eq_nil_iff.1 this
 ·have := h.lens (e.ren ρ) (by rw [h5]; exact List.mem_map_of_mem he)
  rw [S.ren_cells] at this
  simpa using this
 ·have := h.cellOk (e.ren ρ) (by rw [h5]; exact List.mem_map_of_mem he) (s.ren ρ) (by rw [S.ren_cells]; exact List.mem_map_of_mem hs)
  rwa [S.ren_isCell] at this
 ·obtain ⟨v, h7, h8⟩ := h.cells hv i j (by omega) hj
  have hi' : i < r'.es.length := hi
  have hm : r'.es[i] ∈ r'.es := List.getElem_mem _
  have he : r'.es.getD i .dead = r'.es[i] := by rw [List.getD_eq_getElem?_getD, List.getElem?_eq_getElem hi']; rfl
  have hcl : (r'.es[i]).cells.length = loc.size := by
   have := h.lens ((r'.es[i]).ren ρ) (by rw [h5]; exact List.mem_map_of_mem hm)
   rw [S.ren_cells] at this
   simpa using this
  refine ⟨v, h7, h8.unren hX hμ _ ?_ ?_⟩
  ·rw [h5, he]
   simp only [List.getD_eq_getElem?_getD, List.getElem?_map, List.getElem?_eq_getElem hi', Option.map_some, Option.getD_some, S.ren_cells]
   rw [List.getElem?_eq_getElem (by omega)]
   rfl
  ·rw [he]
   refine S.inb_cells (h6 _ hm) _ ?_
   rw [List.getD_eq_getElem?_getD, List.getElem?_eq_getElem (by omega)]
   exact List.getElem_mem _
 ·have hne' : r.es ≠ [] := by rw [h5]; simpa using hne
  exact h.frozen hv (by rw [← h3, hst]) hne' (hX _ hx)
/-- the rows of a call, among the caller's -/
def ext (l : List Nat) (N : Nat) (i : Nat) : Nat := if i < l.length then pick l i else N + (i - l.length)
def setAll (ρ : Nat → Nat) (H : Heap) : List Nat → Heap → Heap
 | k :: l, r :: q => (setAll ρ H l q).set k (embRow ρ r)
 | _, _ => H
def emb (l : List Nat) (H H' : Heap) : Heap := setAll (ext l H.length) H l H' ++ (H'.drop l.length).map (embRow (ext l H.length))
theorem setAll_length {ρ : Nat → Nat} {H : Heap} : ∀ {l : List Nat} {q : Heap}, (setAll ρ H l q).length = H.length
 | [], _ => by simp [setAll]
 | _ :: _, [] => by simp [setAll]
 | k :: l, r :: q => by simp [setAll, setAll_length]
theorem setAll_out {ρ : Nat → Nat} {H : Heap} : ∀ {l : List Nat} {q : Heap} {b : Nat}, b ∉ l → (setAll ρ H l q)[b]? = H[b]?
 | [], _, _, _ => by simp [setAll]
 | _ :: _, [], _, _ => by simp [setAll]
 | k :: l, r :: q, b, h => by
  simp only [List.mem_cons, not_or] at h
  rw [setAll, List.getElem?_set_ne (Ne.symm h.1), setAll_out h.2]
theorem setAll_in {ρ : Nat → Nat} {H : Heap} : ∀ {l : List Nat} {q : Heap} {i : Nat}, l.Nodup → (∀ k ∈ l, k < H.length) → l.length ≤ q.length → i < l.length → (setAll ρ H l q)[pick l i]? = (q[i]?).map (embRow ρ)
 | [], _, i, _, _, _, hi => by simp at hi
 | _ :: _, [], _, _, _, h, _ => by simp at h
 | k :: l, r :: q, 0, _, hb, _, _ => by
  simp only [setAll, pick, List.getD_cons_zero, List.getElem?_cons_zero, Option.map_some]
  rw [List.getElem?_set_self (by rw [setAll_length]; exact hb k (by simp))]
 | k :: l, r :: q, i + 1, hn, hb, hle, hi => by
  have hn' := List.nodup_cons.1 hn
  have hi' : i < l.length := by simpa using hi
  have : pick (k :: l) (i + 1) = pick l i := by simp [pick]
  rw [this, setAll, List.getElem?_set_ne, setAll_in hn'.2 (fun k hk => hb k (by simp [hk])) (by simpa using hle) hi']
  ·simp
  ·rintro rfl
   exact hn'.1 (pick_mem hi')
theorem emb_length {l : List Nat} {H H' : Heap} : (emb l H H').length = H.length + (H'.length - l.length) := by simp [emb, setAll_length]
theorem emb_out {l : List Nat} {H H' : Heap} {b : Nat} (hb : b < H.length) (hn : b ∉ l) : (emb l H H')[b]? = H[b]? := by
 rw [emb, List.getElem?_append_left (by rw [setAll_length]; exact hb), setAll_out hn]
theorem emb_in {l : List Nat} {H H' : Heap} (hl : l.Nodup) (hb : ∀ k ∈ l, k < H.length) (hle : l.length ≤ H'.length) (i : Nat) : (emb l H H')[ext l H.length i]? = (H'[i]?).map (embRow (ext l H.length)) := by
 by_cases hi : i < l.length
 ·have he : ext l H.length i = pick l i := by simp [ext, hi]
  rw [he, emb, List.getElem?_append_left (by rw [setAll_length]; exact hb _ (pick_mem hi)), setAll_in hl hb hle hi]
 ·have he : ext l H.length i = H.length + (i - l.length) := by simp [ext, hi]
  rw [he, emb, List.getElem?_append_right (by rw [setAll_length]; omega), setAll_length, List.getElem?_map, List.getElem?_drop]
  congr 2
  omega
theorem ext_inj {l : List Nat} {N : Nat} (hl : l.Nodup) (hb : ∀ k ∈ l, k < N) {i j : Nat} (h : ext l N i = ext l N j) : i = j := by
 unfold ext at h
 split at h <;> split at h
 ·exact pick_inj hl (by assumption) (by assumption) h
 ·have := hb _ (pick_mem (i := i) (by assumption)); omega
 ·have := hb _ (pick_mem (i := j) (by assumption)); omega
 ·omega
theorem emb_some {l : List Nat} {H H' : Heap} {b : Nat} {r : Row} (h : (emb l H H')[b]? = some r) (hle : l.length ≤ H'.length) : (∃ i, i < H'.length ∧ ext l H.length i = b) ∨ (b < H.length ∧ b ∉ l) := by
 have hb := (List.getElem?_eq_some_iff.1 h).1
 rw [emb_length] at hb
 by_cases hlt : b < H.length
 ·by_cases hm : b ∈ l
  ·obtain ⟨i, hi, rfl⟩ := mem_pick hm
   exact .inl ⟨i, by omega, by simp [ext, hi]⟩
  ·exact .inr ⟨hlt, hm⟩
 ·exact .inl ⟨l.length + (b - H.length), by omega, by unfold ext; rw [if_neg (by omega)]; omega⟩
theorem embMu {l : List Nat} {N : Nat} (μ μ' : Mu) (hl : l.Nodup) (hb : ∀ k ∈ l, k < N) : ∃ m : Mu, m.xo = μ.xo ∧ (∀ i, m (ext l N i) = μ' i) ∧ ∀ b, b < N → b ∉ l → m b = μ b := by
 classical
 refine ⟨⟨fun b => if h : ∃ i, ext l N i = b then μ' h.choose else μ b, μ.xo⟩, rfl, fun i => ?_, fun b hlt hn => ?_⟩
 ·have h : ∃ j, ext l N j = ext l N i := ⟨i, rfl⟩
  simp only [dif_pos h]
  rw [ext_inj hl hb h.choose_spec]
 ·have h : ¬ ∃ i, ext l N i = b := by
   rintro ⟨i, rfl⟩
   unfold ext at hlt hn
   split at hlt
   ·rename_i hi; rw [if_pos hi] at hn; exact hn (pick_mem hi)
   ·omega
  simp only [dif_neg h]
/-- what a call asks of the caller's rows -/
def sameR (n : Nat) (ρ : Nat → Nat) (r0 : Row) : Option Row → Prop
 | none => False
 | some r => r.st = r0.st ∧ (r0.st = .dead ∨ r0.size = r.size ∧ r.es = r0.es.map (S.ren ρ) ∧ ∀ e ∈ r0.es, e.inb n = true)
def sameH (H : Heap) (n : Nat) (ρ : Nat → Nat) : List Nat → Heap → Prop
 | k :: l, r :: q => sameR n ρ r H[k]? ∧ sameH H n ρ l q
 | [], [] => True
 | _, _ => False
theorem sameH_get {H : Heap} {n : Nat} {ρ : Nat → Nat} : ∀ {l : List Nat} {HE : Heap}, sameH H n ρ l HE → l.length = HE.length ∧ ∀ b r', HE[b]? = some r' → sameR n ρ r' H[pick l b]?
 | [], [], _ => ⟨rfl, fun b r' h => by simp at h⟩
 | k :: l, r :: q, h => by
  obtain ⟨h1, h2⟩ := sameH_get h.2
  refine ⟨by simp [h1], fun b r' hb => ?_⟩
  cases b with
  | zero =>
   obtain rfl : r = r' := by simpa using hb
   exact h.1
  | succ b => simpa [pick] using h2 b r' (by simpa using hb)
 | [], _ :: _, h => h.elim
 | _ :: _, [], h => h.elim
theorem CallA.frame {P : Program} {f : Nat} {args0 : List S} {H0 : Heap} {K0 : S → Heap → Prop} (h : CallA P f args0 H0 K0) {H : Heap} {args : List S} {K : S → Heap → Prop} (l : List Nat) (hl : l.Nodup)
  (hH : sameH H l.length (pick l) l H0) (hargs : args = args0.map (S.ren (pick l))) (hin : ∀ a ∈ args0, a.inb l.length = true)
  (hK : ∀ s0 H0', K0 s0 H0' → l.length ≤ H0'.length ∧ K (s0.ren (ext l H.length)) (emb l H H0')) : CallA P f args H K := by
 obtain ⟨hlen, hrow⟩ := sameH_get hH
 have hb : ∀ k ∈ l, k < H.length := by
  intro k hk
  obtain ⟨i, hi, rfl⟩ := mem_pick hk
  have := hrow i _ (List.getElem?_eq_getElem (by omega))
  cases hg : H[pick l i]? with
  | none => rw [hg] at this; exact this.elim
  | some r => exact (List.getElem?_eq_some_iff.1 hg).1
 refine ⟨h.1, fun w μ cargs hrep hcl ha => ?_⟩
 let μa : Mu := ⟨fun b => if b < l.length then μ (pick l b) else none, μ.xo⟩
 let μ0 : Mu := ⟨μa.at_, fun k => μ.xo k ∨ (owned μ H k ∧ ¬ owned μa H0 k)⟩
 have hat : ∀ b loc, μ0 b = some loc → b < l.length ∧ μ (pick l b) = some loc := by
  intro b loc hb
  have hb' : (if b < l.length then μ (pick l b) else none) = some loc := hb
  split at hb'
  ·exact ⟨by assumption, hb'⟩
  ·cases hb'
 have hat' : ∀ b loc, b < l.length → μ (pick l b) = some loc → μ0 b = some loc := by
  intro b loc hb h
  show (if b < l.length then μ (pick l b) else none) = some loc
  rw [if_pos hb, h]
 have big : ∀ {b : Nat} {r0 : Row}, H0[b]? = some r0 → ∃ r, H[pick l b]? = some r ∧ r.st = r0.st ∧ (r0.st = .dead ∨ r0.size = r.size ∧ r.es = r0.es.map (S.ren (pick l)) ∧ ∀ e ∈ r0.es, e.inb l.length = true) := by
  intro b r0 hb
  have := hrow b r0 hb
  cases hg : H[pick l b]? with
  | none => rw [hg] at this; exact this.elim
  | some r => rw [hg] at this; exact ⟨r, rfl, this⟩
 have ho : ∀ k, owned μ0 H0 k → owned μ H k := by
  rintro k ⟨b, r0, loc, h1, h2, h3, h4, rfl⟩
  obtain ⟨r, g1, g2, _⟩ := big h1
  exact ⟨pick l b, r, loc, g1, by rw [g2, h2], (hat b loc h3).2, h4, rfl⟩
 have hexc : ∀ k, excl μ0 H0 k ↔ excl μ H k := by
  intro k
  constructor
  ·rintro (h1 | h1 | h1)
   ·exact .inl (ho k h1)
   ·exact .inr h1
   ·exact .inl h1.1
  ·rintro (h1 | h1)
   ·by_cases h2 : owned μa H0 k
    ·exact .inl h2
    ·exact .inr (.inr ⟨h1, h2⟩)
   ·exact .inr (.inl h1)
 have hrep0 : HRep w μ0 H0 := by
  refine ⟨hrep.tab.less fun k hk => (hexc k).1 hk, fun b loc hb => by have := (hat b loc hb).1; omega, ?_, ?_, ?_⟩
  ·rintro k (h1 | h1)
   ·exact ⟨(hrep.xo k h1).1, fun h2 => (hrep.xo k h1).2 (ho k h2)⟩
   ·exact ⟨owned_lt hrep h1.1, h1.2⟩
  ·intro b r0 loc hb hd hloc
   obtain ⟨r, g1, g2, g3⟩ := big hb
   have g3 := g3.resolve_left hd
   exact (hrep.row (pick l b) r loc g1 (by rw [g2]; exact hd) (hat b loc hloc).2).unren (fun k hk => (hexc k).1 hk) hat' g2.symm g3.1 g3.2.1 g3.2.2
  ·intro b b' r r' loc loc' h1 h2 h3 h4 h5 h6 h7 h8 h9
   obtain ⟨q, g1, g2, _⟩ := big h1
   obtain ⟨q', g3, g4, _⟩ := big h2
   exact pick_inj hl (hat b loc h5).1 (hat b' loc' h6).1 (hrep.inj _ _ q q' loc loc' g1 g3 (by rw [g2, h3]) (by rw [g4, h4]) (hat b loc h5).2 (hat b' loc' h6).2 h7 h8 h9)
 subst hargs
 refine (h.2 w μ0 cargs hrep0 (by simpa using hcl) (fun i hi => ?_)).mono ?_
 ·have := ha i (by simpa using hi)
  refine this.unren (fun k hk => (hexc k).1 hk) hat' _ ?_ (hin _ ?_)
  ·simp [List.getD_eq_getElem?_getD, List.getElem?_map, List.getElem?_eq_getElem hi]
  ·rw [List.getD_eq_getElem?_getD, List.getElem?_eq_getElem hi]
   exact List.getElem_mem _
 rintro e w' ⟨v, s0, H0', μ0', rfl, hk, st⟩
 obtain ⟨hge, hk'⟩ := hK _ _ hk
 obtain ⟨m, hmx, hmi, hmo⟩ := embMu μ μ0' hl hb
 have hxo' : ∀ k, μ0'.xo k ↔ (μ.xo k ∨ (owned μ H k ∧ ¬ owned μ0 H0 k)) := fun k => by rw [st.xo]; exact Iff.rfl
 -- the caller's other rows lie elsewhere
 have other : ∀ {b : Nat} {r : Row} {loc : Loc}, b ∉ l → H[b]? = some r → r.st = .live → μ b = some loc → loc.virt = false → ¬ owned μ0 H0 loc.blk := by
  rintro b r loc hn h1 h2 h3 h4 ⟨b0, r0, loc0, g1, g2, g3, g4, g5⟩
  obtain ⟨q, g6, g7, _⟩ := big g1
  have := hrep.inj _ _ q r loc0 loc g6 h1 (by rw [g7, g2]) h2 (hat b0 loc0 g3).2 h3 g4 h4 g5
  subst this
  exact hn (pick_mem (hat b0 loc0 g3).1)
 have hμ : ∀ b loc, μ b = some loc → m b = some loc := by
  intro b loc hbl
  have hlt := hrep.dom b loc hbl
  by_cases hm : b ∈ l
  ·obtain ⟨i, hi, rfl⟩ := mem_pick hm
   have : ext l H.length i = pick l i := by simp [ext, hi]
   rw [← this, hmi]
   exact st.ext _ _ (hat' i loc hi hbl)
  ·rw [hmo _ hlt hm, hbl]
 have hμ' : ∀ b loc, μ0' b = some loc → m (ext l H.length b) = some loc := fun b loc h => by rw [hmi, h]
 -- where the caller's rows lie now
 have own' : ∀ k, owned m (emb l H H0') k → owned μ0' H0' k ∨ ∃ b r loc, b ∉ l ∧ H[b]? = some r ∧ r.st = .live ∧ μ b = some loc ∧ loc.virt = false ∧ loc.blk = k := by
  rintro k ⟨b, r, loc, h1, h2, h3, h4, rfl⟩
  rcases emb_some h1 hge with ⟨i, hi, rfl⟩ | ⟨hlt, hm⟩
  ·rw [emb_in hl hb hge] at h1
   obtain ⟨r0, g1, rfl⟩ := Option.map_eq_some_iff.1 h1
   rw [hmi] at h3
   exact .inl ⟨i, r0, loc, g1, h2, h3, h4, rfl⟩
  ·rw [emb_out hlt hm] at h1
   rw [hmo _ hlt hm] at h3
   exact .inr ⟨b, r, loc, hm, h1, h2, h3, h4, rfl⟩
 have hexc' : ∀ k, excl m (emb l H H0') k → excl μ0' H0' k := by
  rintro k (h1 | h1)
  ·rcases own' k h1 with h2 | ⟨b, r, loc, g1, g2, g3, g4, g5, rfl⟩
   ·exact .inl h2
   ·exact .inr ((hxo' _).2 (.inr ⟨⟨b, r, loc, g2, g3, g4, g5, rfl⟩, other g1 g2 g3 g4 g5⟩))
  ·exact .inr ((hxo' _).2 (.inl (by rw [← hmx]; exact h1)))
 have hown : ∀ k, owned m (emb l H H0') k → owned μ H k ∨ w.heap.size ≤ k := by
  intro k hk
  rcases own' k hk with h2 | ⟨b, r, loc, g1, g2, g3, g4, g5, rfl⟩
  ·exact (st.own k h2).imp (ho k) id
  ·exact .inl ⟨b, r, loc, g2, g3, g4, g5, rfl⟩
 have hfr : Fr (owned μ H) w w' := ⟨st.fr.os, st.fr.tape, st.fr.output, st.fr.size, fun k hk hx => st.fr.keep k hk fun h => hx (ho k h)⟩
 have hkeep : ∀ k, k < w.heap.size → ¬ owned μ0 H0 k → w'.heap[k]? = w.heap[k]? := st.fr.keep
 have mixed : ∀ {i b : Nat} {r0 r : Row} {loc0 loc : Loc}, b ∉ l → H[b]? = some r → r.st = .live → μ b = some loc → loc.virt = false → H0'[i]? = some r0 → r0.st = .live → μ0' i = some loc0 → loc0.virt = false → loc0.blk = loc.blk → False := by
  intro i b r0 r loc0 loc hn h1 h2 h3 h4 g1 g2 g3 g4 g5
  rcases st.own loc.blk ⟨i, r0, loc0, g1, g2, g3, g4, g5⟩ with h5 | h5
  ·exact other hn h1 h2 h3 h4 h5
  ·have := live_lt hrep h1 h2 h3 h4; omega
 refine ⟨v, _, emb l H H0', m, rfl, hk', ?_⟩
 refine ⟨hrep.alter hfr.keep hown hμ hmx hfr.size ?_ ?_ ?_, st.val.ren hexc' hμ', hμ, hmx, hfr, hown⟩
 ·intro b loc hbl
  rw [emb_length]
  by_cases hlt : b < H.length
  ·omega
  ·have : ext l H.length (l.length + (b - H.length)) = b := by unfold ext; rw [if_neg (by omega)]; omega
   rw [← this, hmi] at hbl
   have := st.heap.dom _ _ hbl
   omega
 ·intro b r loc h1 h2 h3
  rcases emb_some h1 hge with ⟨i, hi, rfl⟩ | ⟨hlt, hm⟩
  ·rw [emb_in hl hb hge] at h1
   obtain ⟨r0, g1, rfl⟩ := Option.map_eq_some_iff.1 h1
   rw [hmi] at h3
   exact .inl ((st.heap.row i r0 loc g1 h2 h3).ren hexc' hμ')
  ·rw [emb_out hlt hm] at h1
   rw [hmo _ hlt hm] at h3
   exact .inr ⟨h1, h3, fun hst hv => hkeep _ (live_lt hrep h1 hst h3 hv) (other hm h1 hst h3 hv)⟩
 ·intro b b' r r' loc loc' h1 h2 h3 h4 h5 h6 h7 h8 h9
  rcases emb_some h1 hge with ⟨i, hi, rfl⟩ | ⟨hlt, hm⟩ <;> rcases emb_some h2 hge with ⟨i', hi', rfl⟩ | ⟨hlt', hm'⟩
  ·rw [emb_in hl hb hge] at h1 h2
   obtain ⟨r0, g1, rfl⟩ := Option.map_eq_some_iff.1 h1
   obtain ⟨r0', g1', rfl⟩ := Option.map_eq_some_iff.1 h2
   rw [hmi] at h5 h6
   rw [st.heap.inj i i' r0 r0' loc loc' g1 g1' h3 h4 h5 h6 h7 h8 h9]
  ·rw [emb_in hl hb hge] at h1
   obtain ⟨r0, g1, rfl⟩ := Option.map_eq_some_iff.1 h1
   rw [hmi] at h5
   rw [emb_out hlt' hm'] at h2
   rw [hmo _ hlt' hm'] at h6
   exact (mixed hm' h2 h4 h6 h8 g1 h3 h5 h7 h9).elim
  ·rw [emb_in hl hb hge] at h2
   obtain ⟨r0, g1, rfl⟩ := Option.map_eq_some_iff.1 h2
   rw [hmi] at h6
   rw [emb_out hlt hm] at h1
   rw [hmo _ hlt hm] at h5
   exact (mixed hm h1 h3 h5 h7 g1 h4 h6 h8 h9.symm).elim
  ·rw [emb_out hlt hm] at h1
   rw [hmo _ hlt hm] at h5
   rw [emb_out hlt' hm'] at h2
   rw [hmo _ hlt' hm'] at h6
   exact hrep.inj b b' r r' loc loc' h1 h2 h3 h4 h5 h6 h7 h8 h9
end Go.Vm
/-! The abstract machine, part 28: loops whose state is listed: which slots and rows are kept. -/
namespace Go.Vm
open Go Go.RowKit
/-- a loop: its slots and rows at a state, what is known of the state, a measure -/
class Lp where
 T : Type
 E : T → Env
 HH : T → Heap
 F : T → Prop
 m : T → Nat
/-- the end of a turn -/
def onBk (kp : Nat) [L : Lp] (x : L.T) (env : Env) (H : Heap) : Prop :=
 ∃ (y : L.T) (l : List Nat), L.F y ∧ L.m y < L.m x ∧ l.Nodup ∧ l.take kp = List.range kp ∧ keepE env l.length (pick l) (L.E y) ∧ keepH H l.length (pick l) l (L.HH y)
theorem onBk_to {kp : Nat} {T : Type} {E : T → Env} {HH : T → Heap} {F : T → Prop} {m : T → Nat} {x : T} {env : Env} {H : Heap} (y : T) (l : List Nat) (hl : l.Nodup) (hk : l.take kp = List.range kp) (hm : m y < m x) (hF : F y)
  (hE : keepE env l.length (pick l) (E y)) (hH : keepH H l.length (pick l) l (HH y)) : @onBk kp ⟨T, E, HH, F, m⟩ x env H := ⟨y, l, hF, hm, hl, hk, hE, hH⟩
theorem aWx_mono {P : Program} {kp : Nat} : ∀ (c : AC) {Q Q' : APost}, (∀ x e h, Q x e h → Q' x e h) → ∀ {env : Env} {H : Heap}, aWx P kp c Q env H → aWx P kp c Q' env H
 | .skip, _, _, hQ, _, _, h => hQ _ _ _ h
 | .reg is, _, _, hQ, _, _, h => aOps_mono (fun e h => hQ _ e h) h
 | .regq pre post, _, _, hQ, _, _, h => aQs_mono (fun _ _ h => aOps_mono (fun e h => hQ _ e h) h) h
 | .regs core st lates post, _, _, hQ, _, _, h => aQs_mono (fun _ _ h => aOps_mono (fun _ _ h => ⟨h.1, aOps_mono (fun e h => hQ _ e h) h.2⟩) h) h
 | .regm core sts lates, _, _, hQ, _, _, h => aQs_mono (fun _ _ h => stK_mono (fun e h => hQ _ e h) h) h
 | .regd a b c d, _, _, hQ, _, _, h => aQs_mono (fun _ _ h => aOps_mono (fun _ _ h => aQs_mono (fun _ _ h => aOps_mono (fun e h => hQ _ e h) h) h) h) h
 | .rege a b l c d, _, _, hQ, _, _, h => aQs_mono (fun _ _ h => aOps_mono (fun _ _ h => ⟨h.1, aQs_mono (fun _ _ h => aOps_mono (fun e h => hQ _ e h) h) h.2⟩) h) h
 | .seq a b, _, _, hQ, _, _, h => aWx_mono a (thenA_mono (fun _ _ h => aWx_mono b hQ h) hQ) h
 | .cond c a b, Q, Q', hQ, env, H, h => by
  simp only [aWx] at h ⊢
  split at h
  ·rename_i heq
   exact ⟨fun e => aWx_mono a hQ (h.1 e), fun e => aWx_mono b hQ (h.2 e)⟩
  ·exact h.elim
 | .block id c, _, _, hQ, _, _, h => aWx_mono c (blockA_mono hQ) h
 | .loop c, _, _, hQ, _, _, h => by
  obtain ⟨T, I, m, h1, h2⟩ := h
  exact ⟨T, I, m, h1, fun x e h hI => aWx_mono c (thenA_mono (fun _ _ h => h) hQ) (h2 x e h hI)⟩
 | .exit id, _, _, hQ, _, _, h => hQ _ _ _ h
 | .ret, _, _, hQ, _, _, h => hQ _ _ _ h
theorem loop_at {P : Program} {kp : Nat} {c : AC} {Q : APost} {env : Env} {H : Heap} {T : Type} (E : T → Env) (HH : T → Heap) (F : T → Prop) (m : T → Nat) (x0 : T) (l : List Nat) (hl : l.Nodup) (hk : l.take kp = List.range kp) (hF : F x0)
  (hE : keepE env l.length (pick l) (E x0)) (hH : keepH H l.length (pick l) l (HH x0))
  (step : ∀ x, F x → aWx P kp c (thenA (@onBk kp ⟨T, E, HH, F, m⟩ x) Q) (E x) (HH x)) : aWx P kp (.loop c) Q env H := by
 refine ⟨T, fun x e h => F x ∧ e = E x ∧ h = HH x, m, Up.to l (E x0) (HH x0) hl hk hE hH ⟨x0, hF, rfl, rfl⟩, ?_⟩
 rintro x _ _ ⟨hx, rfl, rfl⟩
 refine aWx_mono c ?_ (step x hx)
 intro ex e h hq
 cases ex with
 | normal =>
  obtain ⟨y, l, h1, h2, h3, h4, h5, h6⟩ := hq
  exact Up.to l _ _ h3 h4 h5 h6 ⟨y, ⟨h1, rfl, rfl⟩, h2⟩
 | exit i => exact hq
 | ret => exact hq
theorem loop_virt {P : Program} {kp : Nat} {c : AC} {Q : APost} {env : Env} {H : Heap} (d size : Nat) (hd : env.get d = .empty) (hs : 0 < size) (h : aWx P kp (.loop c) Q ((d, .rsl H.length 0 0) :: env) (H ++ [⟨[], size, .live⟩])) : aWx P kp (.loop c) Q env H := by
 obtain ⟨T, I, m, h1, h2⟩ := h
 exact ⟨T, I, m, .virt d size hd hs h1, h2⟩
theorem onIf_T (K : S → Heap → Prop) (s : S) (H : Heap) : @onIf True s H ⟨K⟩ = K s H := by simp [onIf]
theorem keepE_nil {env : Env} {n : Nat} {ρ : Nat → Nat} : keepE env n ρ [] = True := rfl
theorem keepE_cons {env : Env} {n : Nat} {ρ : Nat → Nat} {k : Nat} {s : S} {r : Env} : keepE env n ρ ((k, s) :: r) = ((s.inb n = true ∧ s.ren ρ = env.get k) ∧ keepE env n ρ r) := rfl
theorem keepH_nil {H : Heap} {n : Nat} {ρ : Nat → Nat} : keepH H n ρ [] [] = True := rfl
theorem keepH_cons {H : Heap} {n : Nat} {ρ : Nat → Nat} {k : Nat} {l : List Nat} {r : Row} {q : Heap} : keepH H n ρ (k :: l) (r :: q) = (keepR n ρ r H[k]? ∧ keepH H n ρ l q) := rfl
/-- a row that stays as it is -/
theorem keepR_some {n : Nat} {ρ : Nat → Nat} {es es' : List S} {m m' : Nat} {st st' : RowSt} : keepR n ρ ⟨es', m', st'⟩ (some ⟨es, m, st⟩) = (st' = .dead ∨ (st ≠ .dead ∧ (st' = st ∨ st' = .frozen) ∧ m' = m ∧ es = es'.map (S.ren ρ) ∧ ∀ e ∈ es', e.inb n = true)) := rfl
theorem ren_pure {ρ : Nat → Nat} {v : V} : (S.pure v).ren ρ = .pure v := rfl
theorem ren_empty {ρ : Nat → Nat} : S.empty.ren ρ = .empty := rfl
theorem ren_rsl {ρ : Nat → Nat} {b o n : Nat} : (S.rsl b o n).ren ρ = .rsl (ρ b) o n := rfl
theorem ren_ptr {ρ : Nat → Nat} {b i o : Nat} : (S.ptr b i o).ren ρ = .ptr (ρ b) i o := rfl
theorem ren_pptr {ρ : Nat → Nat} {v : V} {o : Nat} : (S.pptr v o).ren ρ = .pptr v o := rfl
theorem ren_agg {ρ : Nat → Nat} {cs : List S} : (S.agg cs).ren ρ = .agg (cs.map (S.ren ρ)) := by simp only [S.ren, S.rens_eq]
theorem ren_tup {ρ : Nat → Nat} {cs : List S} : (S.tup cs).ren ρ = .tup (cs.map (S.ren ρ)) := by simp only [S.ren, S.rens_eq]
theorem ren_func {ρ : Nat → Nat} {f : Fn} {a c : List S} : (S.func f a c).ren ρ = .func f (a.map (S.ren ρ)) (c.map (S.ren ρ)) := by simp only [S.ren, S.rens_eq]
theorem ren_dead {ρ : Nat → Nat} : S.dead.ren ρ = .dead := rfl
theorem inb_pure {n : Nat} {v : V} : (S.pure v).inb n = true := rfl
theorem inb_empty {n : Nat} : S.empty.inb n = true := rfl
theorem inb_rsl {n b o k : Nat} : (S.rsl b o k).inb n = decide (b < n) := rfl
theorem inb_ptr {n b o k : Nat} : (S.ptr b o k).inb n = decide (b < n) := rfl
theorem inb_pptr {n o : Nat} {v : V} : (S.pptr v o).inb n = true := rfl
theorem inb_agg {n : Nat} {cs : List S} : (S.agg cs).inb n = cs.all (S.inb n) := by
 simp only [S.inb]
 induction cs with
 | nil => rfl
 | cons s r ih => simp only [S.inbs, List.all_cons, ih]
theorem inb_tup {n : Nat} {cs : List S} : (S.tup cs).inb n = cs.all (S.inb n) := by
 simp only [S.inb]
 induction cs with
 | nil => rfl
 | cons s r ih => simp only [S.inbs, List.all_cons, ih]
theorem inb_func {n : Nat} {f : Fn} {a c : List S} : (S.func f a c).inb n = (a.all (S.inb n) && c.all (S.inb n)) := by
 have : ∀ l : List S, S.inbs n l = l.all (S.inb n) := by
  intro l
  induction l with
  | nil => rfl
  | cons s r ih => simp only [S.inbs, List.all_cons, ih]
 simp only [S.inb, this]
theorem inb_dead {n : Nat} : S.dead.inb n = true := rfl
theorem ren_pures {ρ : Nat → Nat} {α : Type} {f : α → V} {l : List α} : (l.map fun a => S.pure (f a)).map (S.ren ρ) = l.map fun a => S.pure (f a) := by simp [ren_pure, Function.comp_def]
theorem inb_pures {n : Nat} {α : Type} {f : α → V} {l : List α} : (∀ e ∈ l.map fun a => S.pure (f a), e.inb n = true) = True := by simp [inb_pure]
theorem ren_pures' {ρ : Nat → Nat} {l : List V} : (l.map S.pure).map (S.ren ρ) = l.map S.pure := by simp [ren_pure, Function.comp_def]
theorem inb_pures' {n : Nat} {l : List V} : (∀ e ∈ l.map S.pure, e.inb n = true) = True := by simp [inb_pure]
theorem pick_zero {k : Nat} {l : List Nat} : pick (k :: l) 0 = k := rfl
theorem pick_succ {k i : Nat} {l : List Nat} : pick (k :: l) (i + 1) = pick l i := rfl
/-! append -/
def appOk (ys : List S) (st : RowSt) (m size room off len bytes : Nat) : Prop :=
 (∀ e ∈ ys, e.cells.length = size) ∧ st = .live ∧ m = size ∧ off + len ≤ room ∧ (len + ys.length) * bytes ≤ 140737488355328 ∧ len + ys.length ≤ maxLen
def appOk0 (ys : List S) (size bytes : Nat) : Prop := (∀ e ∈ ys, e.cells.length = size) ∧ ys.length * bytes ≤ 140737488355328 ∧ ys.length ≤ maxLen
def appR (H : Heap) (size bytes b off len : Nat) (ys : List S) : Option Row → Option (Prop × S × Heap)
 | some r => some (appOk ys r.st r.size size r.es.length off len bytes, .rsl H.length 0 (len + ys.length), H.set b ⟨[], r.size, .dead⟩ ++ [⟨(r.es.drop off).take len ++ ys, size, .live⟩])
 | none => none
theorem appF_row {H : Heap} {size bytes b off len : Nat} {ys : List S} : appF H size bytes (.rsl b off len) (some ys) = appR H size bytes b off len ys H[b]? := by
 simp only [appF, appR, appOk]
 all_goals (cases H[b]? <;> rfl)
theorem appR_some {H : Heap} {size bytes b off len m : Nat} {ys es : List S} {st : RowSt} : appR H size bytes b off len ys (some ⟨es, m, st⟩) = some (appOk ys st m size es.length off len bytes, .rsl H.length 0 (len + ys.length), H.set b ⟨[], m, .dead⟩ ++ [⟨(es.drop off).take len ++ ys, size, .live⟩]) := rfl
theorem appF_none {H : Heap} {size bytes : Nat} {ys : List S} : appF H size bytes .empty (some ys) = some (appOk0 ys size bytes, .rsl H.length 0 ys.length, H ++ [⟨ys, size, .live⟩]) := rfl
theorem appOk_one {s : S} {m size room off len bytes : Nat} (h1 : s.cells.length = size) (h2 : m = size) (h3 : off + len ≤ room) (h4 : (len + 1) * bytes ≤ 140737488355328) (h5 : len + 1 ≤ maxLen) : appOk [s] .live m size room off len bytes :=
 ⟨fun e he => by simp at he; subst he; exact h1, rfl, h2, h3, h4, h5⟩
def srcR (size off len : Nat) : Option Row → Option (List S)
 | some r => if r.size = size ∧ off + len ≤ r.es.length then some ((r.es.drop off).take len) else none
 | none => none
theorem srcOf_rsl {H : Heap} {size b off len : Nat} : srcOf H size (.rsl b off len) = srcR size off len (rowAt H b) := by
 simp only [srcOf, srcR]
 cases rowAt H b <;> rfl
theorem srcR_some {size off len m : Nat} {es : List S} {st : RowSt} : srcR size off len (some ⟨es, m, st⟩) = if m = size ∧ off + len ≤ es.length then some ((es.drop off).take len) else none := rfl
theorem take_map_pures {α : Type} {f : α → V} {X : List α} : ((X.map f).map S.pure).take X.length = (X.map f).map S.pure := List.take_of_length_le (by simp)
/-- a result that lies in a row of one's own -/
theorem gives_row {α : Type} {f : α → V} {X : List α} {H : Heap} {b m : Nat} {st : RowSt} (h : H[b]? = some ⟨(X.map f).map S.pure, m, st⟩) (hst : st ≠ .dead) : Gives [.sl (X.map f)] (.rsl b 0 X.length) H := by
 refine gives_one ?_
 simp only [toV, toVo, toV0, h, List.drop_zero, take_map_pures, allPure_map, List.length_map, Nat.zero_add, Nat.le_refl, and_true]
 rw [if_pos]
 cases st <;> simp at hst ⊢
/-! what a call asks of the rows, and leaves -/
theorem sameH_nil {H : Heap} {n : Nat} {ρ : Nat → Nat} : sameH H n ρ [] [] = True := rfl
theorem sameH_cons {H : Heap} {n : Nat} {ρ : Nat → Nat} {k : Nat} {l : List Nat} {r : Row} {q : Heap} : sameH H n ρ (k :: l) (r :: q) = (sameR n ρ r H[k]? ∧ sameH H n ρ l q) := rfl
theorem sameR_some {n : Nat} {ρ : Nat → Nat} {es es' : List S} {m m' : Nat} {st st' : RowSt} : sameR n ρ ⟨es', m', st'⟩ (some ⟨es, m, st⟩) = (st = st' ∧ (st' = .dead ∨ m' = m ∧ es = es'.map (S.ren ρ) ∧ ∀ e ∈ es', e.inb n = true)) := rfl
end Go.Vm
/-! The abstract machine, part 29: contracts with rows: weaker results, rows that are frozen ahead of a call, calls within a larger memory. -/
namespace Go.Vm
open Go Go.RowKit
theorem CallA.weak {P : Program} {f : Nat} {args : List S} {H : Heap} {K K2 : S → Heap → Prop} (h : CallA P f args H K)
  (hK : ∀ s H', K s H' → ∃ (l : List Nat) (s2 : S) (H2 : Heap), l.Nodup ∧ l.take H.length = List.range H.length ∧ (s2.inb l.length = true ∧ s2.ren (pick l) = s) ∧ keepH H' l.length (pick l) l H2 ∧ K2 s2 H2) : CallA P f args H K2 := by
 refine ⟨h.1, fun w μ cargs hrep hl ha => (h.2 w μ cargs hrep hl ha).mono ?_⟩
 rintro e w' ⟨v, s, H', μ', rfl, hk, st⟩
 obtain ⟨l, s2, H2, h1, h2, h3, h4, h5⟩ := hK _ _ hk
 obtain ⟨g1, g2⟩ := keepH_get h4
 have hw : Weak H.length [(0, s)] H' [(0, s2)] H2 (pick l) := by
  refine ⟨fun i j hi hj => pick_inj h1 (by omega) (by omega), fun i hi => ?_, fun p hp => ?_, fun b r' hb => ?_⟩
  ·have hlen := congrArg List.length h2
   simp only [List.length_take, List.length_range] at hlen
   refine ⟨by omega, ?_⟩
   have := congrArg (fun q : List Nat => q[i]?) h2
   simp only [List.getElem?_take, hi, if_true, List.getElem?_range hi] at this
   simp [pick, List.getD_eq_getElem?_getD, this]
  ·simp only [List.mem_singleton] at hp
   subst hp
   rw [← g1]
   exact ⟨h3.1, by rw [h3.2]; rfl⟩
  ·have := g2 b r' hb
   rw [← g1]
   cases hg : H'[pick l b]? with
   | none => rw [hg] at this; exact .inl this
   | some r =>
    rw [hg] at this
    exact this.imp id fun h => ⟨r, rfl, h⟩
 obtain ⟨k1, k2⟩ := st.heap.weak hw
 refine ⟨v, s2, H2, μ'.re (pick l) H2.length, rfl, h5, k1, ?_, fun b loc hb => ?_, st.xo, st.fr, fun k hk' => st.own k (k2 k hk')⟩
 ·exact st.val.unren (N := H2.length) (fun k hk' => hk'.imp (k2 k) id) (fun b loc hb hloc => by simp [Mu.re, hb, hloc]) _ h3.2.symm (by rw [← g1]; exact h3.1)
 ·have hlt := hrep.dom b loc hb
  obtain ⟨h6, h7⟩ := hw.fix b hlt
  simp [Mu.re, h6, h7, st.ext b loc hb]
/-- a result without room gets a row of its own name -/
theorem CallA.virt {P : Program} {f : Nat} {args : List S} {H : Heap} {K : S → Heap → Prop} (size : Nat) (hs : 0 < size) (h : CallA P f args H fun s H' => K s H' ∨ (s = .empty ∧ K (.rsl H'.length 0 0) (H' ++ [⟨[], size, .live⟩]))) : CallA P f args H K := by
 refine ⟨h.1, fun w μ cargs hrep hl ha => (h.2 w μ cargs hrep hl ha).mono ?_⟩
 rintro e w' ⟨v, s, H', μ', rfl, hk | ⟨rfl, hk⟩, st⟩
 ·exact ⟨v, s, H', μ', rfl, hk, st⟩
 ·obtain ⟨ad, hv, had⟩ := st.val.empty_inv
  obtain ⟨μ2, st2⟩ := virt_step st.heap hs (H1 := H') rfl (fun _ _ h _ => h) had
  refine ⟨v, _, _, μ2, rfl, hk, st2.heap, hv ▸ st2.val, fun b l hb => st2.ext b l (st.ext b l hb), st2.xo.trans st.xo, ?_, fun k hk' => ?_⟩
  ·refine ⟨st2.fr.os.trans st.fr.os, st2.fr.tape.trans st.fr.tape, st2.fr.output.trans st.fr.output, Nat.le_trans st.fr.size st2.fr.size, fun k hk' hx => ?_⟩
   rw [st2.fr.keep k (Nat.lt_of_lt_of_le hk' st.fr.size) (fun ho => by rcases st.own k ho with h1 | h1; exact hx h1; omega)]
   exact st.fr.keep k hk' hx
  ·rcases st2.own k hk' with h1 | h1
   ·exact st.own k h1
   ·exact .inr (Nat.le_trans st.fr.size h1)
/-! rows that are written no more -/
theorem CallA.frz {P : Program} {f : Nat} {args : List S} {H : Heap} {K : S → Heap → Prop} (b : Nat) (h : CallA P f args (frz1 b H) K) : CallA P f args H K := by
 refine ⟨h.1, fun w μ cargs hrep hl ha => (h.2 w μ cargs hrep.frz1 hl (fun i hi => (ha i hi).keeps (fun _ _ _ => rfl) (fun k hk => .inl (hk.imp owned_frz1 id)) (fun _ _ h => h))).mono ?_⟩
 rintro e w' ⟨v, s, H', μ', rfl, hk, st⟩
 exact ⟨v, s, H', μ', rfl, hk, st.heap, st.val, st.ext, st.xo, ⟨st.fr.os, st.fr.tape, st.fr.output, st.fr.size, fun k hk hx => st.fr.keep k hk fun ho => hx (owned_frz1 ho)⟩, fun k hk => (st.own k hk).imp owned_frz1 id⟩
theorem onC_frz {P : Program} {f : Nat} {args : List S} {H : Heap} {K : S → Heap → Prop} (b : Nat) (h : @onC P f args (frz1 b H) ⟨K⟩) : @onC P f args H ⟨K⟩ := CallA.frz b h
theorem frz1_nil {b : Nat} : frz1 b [] = [] := rfl
theorem frz1_zero {r : Row} {H : Heap} : frz1 0 (r :: H) = (if r.st = .live then ⟨r.es, r.size, .frozen⟩ else r) :: H := by
 simp only [frz1, List.mapIdx_cons, true_and, Nat.add_eq_zero_iff, Nat.one_ne_zero, and_false, false_and, if_false]
 congr 1
 apply List.ext_getElem?
 intro i
 simp
theorem frz1_succ {b : Nat} {r : Row} {H : Heap} : frz1 (b + 1) (r :: H) = r :: frz1 b H := by
 simp only [frz1, List.mapIdx_cons, Nat.add_right_cancel_iff]
 simp
/-! codes behind which one forgets: 'aWp' stands at their head -/
section
variable {P : Program} {kp : Nat} {env : Env} {H : Heap} {Q : APost}
end
theorem appOk_map {α : Type} {f : α → V} {X : List α} {m size room off len bytes : Nat} (h1 : ∀ a, (f a).cells.length = size) (h2 : m = size) (h3 : off + len ≤ room) (h4 : (len + X.length) * bytes ≤ 140737488355328) (h5 : len + X.length ≤ maxLen) : appOk ((X.map f).map S.pure) .live m size room off len bytes :=
 ⟨fun e he => by
  obtain ⟨v, hv, rfl⟩ := List.mem_map.1 he
  obtain ⟨a, _, rfl⟩ := List.mem_map.1 hv
  simpa [S.cells] using h1 a, rfl, h2, h3, by simpa using h4, by simpa using h5⟩
theorem toVs_of {lv : Bool} {H : Heap} {s : S} {v : V} {r : List S} {vs : List V} (h1 : toV lv H s = some v) (h2 : toVs lv H r = some vs) : toVs lv H (s :: r) = some (v :: vs) := by simp only [toVs, h1, h2]
theorem toV_row {lv : Bool} {H : Heap} {α : Type} {f : α → V} {X : List α} {b m : Nat} {st : RowSt} (h : H[b]? = some ⟨(X.map f).map S.pure, m, st⟩) (hst : st = .frozen ∨ (lv = true ∧ st = .live)) : toV lv H (.rsl b 0 X.length) = some (.sl (X.map f)) := by
 simp only [toV, toVo, toV0, h, List.drop_zero, take_map_pures, allPure_map, List.length_map, Nat.zero_add, Nat.le_refl, and_true, hst, if_true]
/-! parts of slices -/
def intO (d : Nat) : Option S → Option Int
 | none => some d
 | some (.pure (.int _ n)) => some n
 | _ => none
def slcE : Option Int → Option Int → Option Int → Option S
 | some l, some h, some m => if l = 0 ∧ h = 0 ∧ m = 0 then some .empty else none
 | _, _, _ => none
def slcP (size : Nat) (es : List V) (mx : Bool) : Option Int → Option Int → Option Int → Option S
 | some l, some h, some m => if 0 ≤ l ∧ l ≤ h ∧ h ≤ m ∧ m ≤ es.length ∧ (∀ e ∈ es, e.cells.length = size) then
   (if mx = true ∧ l = m then some .empty else some (.pure (.sl ((es.take h.toNat).drop l.toNat)))) else none
 | _, _, _ => none
def slcR (size b off len : Nat) (nomx : Bool) : Option Int → Option Int → Option Row → Option S
 | some l, some h, some r => if nomx = true ∧ r.size = size ∧ 0 ≤ l ∧ l ≤ h ∧ h ≤ len then some (.rsl b (off + l.toNat) (h - l).toNat) else none
 | _, _, _ => none
def slcS (H : Heap) (size : Nat) (s : S) (lo hi mx : Option S) : Option S := match s with
 | .empty => slcE (intO 0 lo) (intO 0 hi) (intO 0 mx)
 | .pure (.sl es) => slcP size es mx.isSome (intO 0 lo) (intO es.length hi) (intO es.length mx)
 | .rsl b off len => slcR size b off len mx.isNone (intO 0 lo) (intO len hi) (rowAt H b)
 | _ => none
theorem intO_opt {env : Env} {d : Nat} {o : Option O} : intO d (o.map (·.ev env)) = optInt env d o := by
 cases o with
 | none => rfl
 | some o =>
  simp only [Option.map_some, intO, optInt]
  cases o.ev env <;> try rfl
  rename_i v
  cases v <;> rfl
theorem aFun_slc {env : Env} {H : Heap} {n : Nat} {x : O} {lo hi mx : Option O} : aFun env H (.slc n x lo hi mx) = slcS H n (x.ev env) (lo.map (·.ev env)) (hi.map (·.ev env)) (mx.map (·.ev env)) := by
 simp only [aFun, slcS, intO_opt, Option.isSome_map, Option.isNone_map]
 cases x.ev env <;> rfl
theorem slcS_empty {H : Heap} {n : Nat} {lo hi mx : Option S} : slcS H n .empty lo hi mx = slcE (intO 0 lo) (intO 0 hi) (intO 0 mx) := rfl
theorem slcS_sl {H : Heap} {n : Nat} {es : List V} {lo hi mx : Option S} : slcS H n (.pure (.sl es)) lo hi mx = slcP n es mx.isSome (intO 0 lo) (intO es.length hi) (intO es.length mx) := rfl
theorem slcS_rsl {H : Heap} {n b off len : Nat} {lo hi mx : Option S} : slcS H n (.rsl b off len) lo hi mx = slcR n b off len mx.isNone (intO 0 lo) (intO len hi) (rowAt H b) := rfl
theorem intO_none {d : Nat} : intO d none = some (d : Int) := rfl
theorem intO_int {d : Nat} {k : IntKind} {n : Int} : intO d (some (.pure (.int k n))) = some n := rfl
theorem isSome_n {α : Type} : (none : Option α).isSome = false := rfl
theorem isSome_s {α : Type} {a : α} : (some a).isSome = true := rfl
theorem isNone_n {α : Type} : (none : Option α).isNone = true := rfl
theorem isNone_s {α : Type} {a : α} : (some a).isNone = false := rfl
/-- a part of data: from a place on, or between two -/
theorem slcP_map {α : Type} {f : α → V} {X : List α} {n : Nat} {l h : Int} (hn : ∀ a, (f a).cells.length = n) (h0 : 0 ≤ l) (h1 : l ≤ h) (h2 : h ≤ X.length) : slcP n (X.map f) false (some l) (some h) (some (X.length : Int)) = some (.pure (.sl (((X.take h.toNat).drop l.toNat).map f))) := by
 have hc : 0 ≤ l ∧ l ≤ h ∧ h ≤ (X.length : Int) ∧ (X.length : Int) ≤ ((X.map f).length : Int) ∧ (∀ e ∈ X.map f, e.cells.length = n) := by
  refine ⟨h0, h1, h2, by simp, fun e he => ?_⟩
  obtain ⟨a, _, rfl⟩ := List.mem_map.1 he
  exact hn a
 simp only [slcP, if_pos hc]
 simp [List.map_drop, List.map_take]
theorem slcP_from {α : Type} {f : α → V} {X : List α} {n : Nat} {l : Int} (hn : ∀ a, (f a).cells.length = n) (h0 : 0 ≤ l) (h1 : l ≤ X.length) : slcP n (X.map f) false (some l) (some (X.length : Int)) (some (X.length : Int)) = some (.pure (.sl ((X.drop l.toNat).map f))) := by
 rw [slcP_map hn h0 h1 (Int.le_refl _)]
 simp
/-! a call within a larger memory -/
theorem onC_fr {P : Program} {f : Nat} {args0 : List S} {H0 : Heap} {s0 : S} {H0' : Heap} (h : CallA P f args0 H0 fun s H' => s = s0 ∧ H' = H0') {H : Heap} {args : List S} {K : S → Heap → Prop} (l : List Nat) (hl : l.Nodup)
  (hH : sameH H l.length (pick l) l H0) (hargs : args = args0.map (S.ren (pick l))) (hin : args0.all (S.inb l.length) = true) (hle : l.length ≤ H0'.length)
  (hK : K (s0.ren (ext l H.length)) (emb l H H0')) : @onC P f args H ⟨K⟩ :=
 h.frame l hl hH hargs (fun a ha => List.all_eq_true.1 hin a ha) (by rintro _ _ ⟨rfl, rfl⟩; exact ⟨hle, hK⟩)
theorem ext_nil {N i : Nat} : ext [] N i = N + i := by simp [ext]
theorem ext_zero {k N : Nat} {l : List Nat} : ext (k :: l) N 0 = k := rfl
theorem ext_succ {k N i : Nat} {l : List Nat} : ext (k :: l) N (i + 1) = ext l N i := by
 unfold ext
 simp only [List.length_cons, Nat.add_lt_add_iff_right, pick_succ]
 split
 ·rfl
 ·omega
theorem emb_eq {l : List Nat} {H H' : Heap} : emb l H H' = setAll (ext l H.length) H l H' ++ (H'.drop l.length).map (embRow (ext l H.length)) := rfl
theorem setAll_nil {ρ : Nat → Nat} {H H' : Heap} : setAll ρ H [] H' = H := by cases H' <;> rfl
theorem setAll_cons {ρ : Nat → Nat} {H : Heap} {k : Nat} {l : List Nat} {r : Row} {q : Heap} : setAll ρ H (k :: l) (r :: q) = (setAll ρ H l q).set k (embRow ρ r) := rfl
theorem embRow_eq {ρ : Nat → Nat} {es : List S} {m : Nat} {st : RowSt} : embRow ρ ⟨es, m, st⟩ = ⟨es.map (S.ren ρ), m, st⟩ := rfl
/-! the slots reckoned out, where a code goes on -/
theorem envO {P : Program} {is : List AI} {K : Env → Heap → Prop} {env env' : Env} {H : Heap} (h : env = env') (g : aOps P is K env' H) : aOps P is K env H := h ▸ g
theorem envQ {P : Program} {is : List AI} {K : Env → Heap → Prop} {env env' : Env} {H : Heap} (h : env = env') (g : aQs P is K env' H) : aQs P is K env H := h ▸ g
end Go.Vm
/-! The abstract machine, part 30: bundles of the equations by which simp reckons. -/
namespace Go.Vm
open Go Go.RowKit
theorem Env.get_nil {d : Nat} : Env.get [] d = .dead := rfl
theorem putD_some {d : Nat} {s : S} {env : Env} : putD (some d) s env = (d, s) :: env := rfl
theorem putD_none {s : S} {env : Env} : putD none s env = env := rfl
theorem argEnv_nil {k : Nat} : argEnv k [] = [] := rfl
theorem argEnv_cons {k : Nat} {s : S} {r : List S} : argEnv k (s :: r) = (k, s) :: argEnv (k + 1) r := rfl
theorem vmd : ((((((type_of% @aWx_seq ∧ type_of% @aWx_reg) ∧ (type_of% @aWx_regq ∧ (type_of% @aWx_regs ∧ type_of% @aWx_regm))) ∧ ((type_of% @aWx_regd ∧ (type_of% @aWx_rege ∧ type_of% @lateQ_eq)) ∧ (type_of% @stK_nil ∧ (type_of% @stK_cons ∧ type_of% @stL_eq)))) ∧ (((type_of% @lateK_eq ∧ (type_of% @aWx_cond ∧ type_of% @aWx_ret)) ∧ (type_of% @aWx_skip ∧ (type_of% @aWx_block ∧ type_of% @aWx_exit))) ∧ ((type_of% @thenA_n ∧ (type_of% @thenA_e ∧ type_of% @thenA_r)) ∧ (type_of% @thenA_n' ∧ (type_of% @thenA_e' ∧ type_of% @thenA_r'))))) ∧ ((((type_of% @blockA_n ∧ (type_of% @blockA_r ∧ type_of% @blockA_e)) ∧ (type_of% @aOps_nil ∧ (type_of% @aOps_cons ∧ type_of% @aIns_free))) ∧ ((type_of% @aIns_if ∧ (type_of% @aQs_nil ∧ type_of% @aQs_free)) ∧ (type_of% @aQs_if ∧ (type_of% @aVal_mov ∧ type_of% @aVal_pick)))) ∧ (((type_of% @aVal_build ∧ (type_of% @aVal_load ∧ type_of% @aVal_nilck)) ∧ (type_of% @aVal_bin ∧ (type_of% @aVal_eqb ∧ type_of% @aVal_eqs))) ∧ ((type_of% @aVal_eqv ∧ (type_of% @aVal_un ∧ type_of% @aVal_conv)) ∧ (type_of% @aVal_mkfn ∧ (type_of% @aVal_slc ∧ type_of% @aVal_fld)))))) ∧ (((((type_of% @aVal_fldA ∧ (type_of% @aVal_idxA ∧ type_of% @aVal_idxAA)) ∧ (type_of% @aVal_idxV ∧ (type_of% @aVal_idxS ∧ type_of% @aVal_b2s))) ∧ ((type_of% @aVal_ext ∧ (type_of% @aVal_mx ∧ type_of% @aVal_mn)) ∧ (type_of% @aVal_len ∧ (type_of% @aVal_lenS ∧ type_of% @aVal_slnil)))) ∧ (((type_of% @aVal_box ∧ (type_of% @aVal_bslice ∧ type_of% @aVal_store)) ∧ (type_of% @aVal_clr ∧ (type_of% @aVal_call ∧ type_of% @aVal_callv))) ∧ ((type_of% @aVal_app ∧ (type_of% @aQop_mov ∧ type_of% @aQop_pick)) ∧ (type_of% @aQop_build ∧ (type_of% @aQop_load ∧ type_of% @aQop_nilck))))) ∧ ((((type_of% @aQop_bin ∧ (type_of% @aQop_eqb ∧ type_of% @aQop_eqs)) ∧ (type_of% @aQop_eqv ∧ (type_of% @aQop_un ∧ type_of% @aQop_conv))) ∧ ((type_of% @aQop_mkfn ∧ (type_of% @aQop_slc ∧ type_of% @aQop_fld)) ∧ (type_of% @aQop_fldA ∧ (type_of% @aQop_idxA ∧ type_of% @aQop_idxAA)))) ∧ (((type_of% @aQop_idxV ∧ (type_of% @aQop_idxS ∧ type_of% @aQop_b2s)) ∧ (type_of% @aQop_ext ∧ (type_of% @aQop_mx ∧ type_of% @aQop_mn))) ∧ ((type_of% @aQop_len ∧ (type_of% @aQop_lenS ∧ type_of% @aQop_box)) ∧ (type_of% @aQop_bslice ∧ (type_of% @aQop_call ∧ type_of% @aQop_callv))))))) :=
 ⟨⟨⟨⟨⟨⟨@aWx_seq, @aWx_reg⟩, ⟨@aWx_regq, ⟨@aWx_regs, @aWx_regm⟩⟩⟩, ⟨⟨@aWx_regd, ⟨@aWx_rege, @lateQ_eq⟩⟩, ⟨@stK_nil, ⟨@stK_cons, @stL_eq⟩⟩⟩⟩, ⟨⟨⟨@lateK_eq, ⟨@aWx_cond, @aWx_ret⟩⟩, ⟨@aWx_skip, ⟨@aWx_block, @aWx_exit⟩⟩⟩, ⟨⟨@thenA_n, ⟨@thenA_e, @thenA_r⟩⟩, ⟨@thenA_n', ⟨@thenA_e', @thenA_r'⟩⟩⟩⟩⟩, ⟨⟨⟨⟨@blockA_n, ⟨@blockA_r, @blockA_e⟩⟩, ⟨@aOps_nil, ⟨@aOps_cons, @aIns_free⟩⟩⟩, ⟨⟨@aIns_if, ⟨@aQs_nil, @aQs_free⟩⟩, ⟨@aQs_if, ⟨@aVal_mov, @aVal_pick⟩⟩⟩⟩, ⟨⟨⟨@aVal_build, ⟨@aVal_load, @aVal_nilck⟩⟩, ⟨@aVal_bin, ⟨@aVal_eqb, @aVal_eqs⟩⟩⟩, ⟨⟨@aVal_eqv, ⟨@aVal_un, @aVal_conv⟩⟩, ⟨@aVal_mkfn, ⟨@aVal_slc, @aVal_fld⟩⟩⟩⟩⟩⟩, ⟨⟨⟨⟨⟨@aVal_fldA, ⟨@aVal_idxA, @aVal_idxAA⟩⟩, ⟨@aVal_idxV, ⟨@aVal_idxS, @aVal_b2s⟩⟩⟩, ⟨⟨@aVal_ext, ⟨@aVal_mx, @aVal_mn⟩⟩, ⟨@aVal_len, ⟨@aVal_lenS, @aVal_slnil⟩⟩⟩⟩, ⟨⟨⟨@aVal_box, ⟨@aVal_bslice, @aVal_store⟩⟩, ⟨@aVal_clr, ⟨@aVal_call, @aVal_callv⟩⟩⟩, ⟨⟨@aVal_app, ⟨@aQop_mov, @aQop_pick⟩⟩, ⟨@aQop_build, ⟨@aQop_load, @aQop_nilck⟩⟩⟩⟩⟩, ⟨⟨⟨⟨@aQop_bin, ⟨@aQop_eqb, @aQop_eqs⟩⟩, ⟨@aQop_eqv, ⟨@aQop_un, @aQop_conv⟩⟩⟩, ⟨⟨@aQop_mkfn, ⟨@aQop_slc, @aQop_fld⟩⟩, ⟨@aQop_fldA, ⟨@aQop_idxA, @aQop_idxAA⟩⟩⟩⟩, ⟨⟨⟨@aQop_idxV, ⟨@aQop_idxS, @aQop_b2s⟩⟩, ⟨@aQop_ext, ⟨@aQop_mx, @aQop_mn⟩⟩⟩, ⟨⟨@aQop_len, ⟨@aQop_lenS, @aQop_box⟩⟩, ⟨@aQop_bslice, ⟨@aQop_call, @aQop_callv⟩⟩⟩⟩⟩⟩⟩
theorem vmp : ((((((((type_of% @onS_some ∧ type_of% @onH_some) ∧ (type_of% @onSH_some ∧ type_of% @onB_true)) ∧ ((type_of% @onB_false ∧ type_of% @onG_true) ∧ (type_of% @onG_false ∧ type_of% @onG_skip))) ∧ (((type_of% @onG_bool ∧ type_of% @onR_some) ∧ (type_of% @onF_some ∧ type_of% @onFQ_some)) ∧ ((type_of% @onL_some ∧ type_of% @onA_some) ∧ (type_of% @onIf_true ∧ (type_of% @PostX_n ∧ type_of% @PostX_r))))) ∧ ((((type_of% @Env.get_nil ∧ type_of% @Env.get_cons) ∧ (type_of% @putD_some ∧ type_of% @putD_none)) ∧ ((type_of% @argEnv_nil ∧ type_of% @argEnv_cons) ∧ (type_of% @List.map_nil.{0,0} ∧ (type_of% @List.map_cons.{0,0} ∧ type_of% @List.length_cons.{0})))) ∧ (((type_of% @List.length_nil.{0} ∧ type_of% @List.getElem?_cons_zero.{0}) ∧ (type_of% @List.getElem?_cons_succ.{0} ∧ type_of% @List.set_cons_zero.{0})) ∧ ((type_of% @List.set_cons_succ.{0} ∧ type_of% @List.cons_append.{0}) ∧ (type_of% @List.nil_append.{0} ∧ (type_of% @List.take_zero.{0} ∧ type_of% @List.take_nil.{0})))))) ∧ (((((type_of% @List.take_succ_cons.{0} ∧ type_of% @List.drop_zero.{0}) ∧ (type_of% @List.drop_nil.{0} ∧ type_of% @List.drop_succ_cons.{0})) ∧ ((type_of% @List.all_cons.{0} ∧ type_of% @List.all_nil.{0}) ∧ (type_of% @Option.map_some.{0,0} ∧ (type_of% @Option.map_none.{0,0} ∧ type_of% @List.isEmpty_nil.{0})))) ∧ (((type_of% @List.isEmpty_cons.{0} ∧ type_of% @Bool.not_true) ∧ (type_of% @Bool.not_false ∧ type_of% @Bool.and_true)) ∧ ((type_of% @Bool.and_self ∧ type_of% @and_self) ∧ (type_of% @and_true ∧ (type_of% @true_and ∧ type_of% @Nat.zero_add))))) ∧ ((((type_of% @Nat.add_zero ∧ type_of% @Nat.le_refl) ∧ (type_of% @decide_true ∧ type_of% @decide_false)) ∧ ((type_of% @beq_self_eq_true.{0} ∧ type_of% @or_true) ∧ (type_of% @true_or ∧ (type_of% @or_false ∧ type_of% @false_or)))) ∧ (((type_of% @false_and ∧ type_of% @and_false) ∧ (type_of% @not_true_eq_false ∧ type_of% @not_false_eq_true)) ∧ ((type_of% @Nat.sub_zero ∧ type_of% @Bool.false_eq_true) ∧ (type_of% @Nat.succ_ne_zero ∧ (type_of% @List.length_map.{0,0} ∧ type_of% @Option.some.injEq.{0}))))))) ∧ ((((((type_of% @true_implies ∧ type_of% @Bool.or_true) ∧ (type_of% @Bool.or_false ∧ type_of% @Bool.true_or)) ∧ ((type_of% @Bool.false_or ∧ type_of% @Bool.and_false) ∧ (type_of% @Bool.false_and ∧ type_of% @Bool.true_and))) ∧ (((type_of% @ev_s ∧ type_of% @ev_c) ∧ (type_of% @cells_agg ∧ type_of% @cells_int)) ∧ ((type_of% @cells_bool ∧ type_of% @cells_str) ∧ (type_of% @cells_sl ∧ (type_of% @cells_func ∧ type_of% @cells_nilf))))) ∧ ((((type_of% @cells_nilp ∧ type_of% @isCell_agg) ∧ (type_of% @isCell_int ∧ type_of% @isCell_bool)) ∧ ((type_of% @isCell_str ∧ type_of% @isCell_sl) ∧ (type_of% @isCell_func ∧ (type_of% @isCell_nilf ∧ type_of% @isCell_nilp)))) ∧ (((type_of% @scells_pure ∧ type_of% @scells_agg) ∧ (type_of% @scells_empty ∧ type_of% @scells_rsl)) ∧ ((type_of% @scells_ptr ∧ type_of% @scells_func) ∧ (type_of% @sisCell_pure ∧ (type_of% @sisCell_agg ∧ type_of% @sisCell_empty)))))) ∧ (((((type_of% @sisCell_rsl ∧ type_of% @sisCell_ptr) ∧ (type_of% @sisCell_func ∧ type_of% @okv_pure)) ∧ ((type_of% @okv_agg ∧ type_of% @okv_empty) ∧ (type_of% @okv_rsl ∧ (type_of% @okv_ptr ∧ type_of% @okv_func)))) ∧ (((type_of% @mkAgg_eq ∧ type_of% @mkA_some) ∧ (type_of% @mkA_none ∧ type_of% @allPure_nil)) ∧ ((type_of% @allPure_pure ∧ type_of% @allPure_empty) ∧ (type_of% @allPure_rsl ∧ (type_of% @allPure_ptr ∧ type_of% @allPure_func))))) ∧ ((((type_of% @consP_some ∧ type_of% @consP_none) ∧ (type_of% @one_one ∧ type_of% @put_eq)) ∧ ((type_of% @partF_false ∧ type_of% @partF_true) ∧ (type_of% @rowAt_live ∧ (type_of% @rowAt_frozen ∧ type_of% @rowAt_succ)))) ∧ (((type_of% @loadE_some ∧ type_of% @loadR_some) ∧ (type_of% @loadF_ptr ∧ type_of% @loadF_pptr)) ∧ ((type_of% @aFun_load ∧ type_of% @bldF_some) ∧ (type_of% @aFun_build ∧ (type_of% @fillA_nil ∧ type_of% @fillA_cons)))))))) ∧ (((((((type_of% @fillS_eq ∧ type_of% @aFun_nilck) ∧ (type_of% @nilF_ptr ∧ type_of% @nilF_pptr)) ∧ ((type_of% @nilF_pure ∧ type_of% @nilF_func) ∧ (type_of% @aFun_bin ∧ type_of% @bin_add))) ∧ (((type_of% @bin_sub ∧ type_of% @bin_mul) ∧ (type_of% @bin_quo ∧ type_of% @bin_rem)) ∧ ((type_of% @bin_eql ∧ type_of% @bin_neq) ∧ (type_of% @bin_lss ∧ (type_of% @bin_leq ∧ type_of% @bin_gtr))))) ∧ ((((type_of% @bin_geq ∧ type_of% @bin_and) ∧ (type_of% @bin_or ∧ type_of% @bin_shl)) ∧ ((type_of% @bin_shr ∧ type_of% @aFun_eqb) ∧ (type_of% @aFun_eqs ∧ (type_of% @eqb_f ∧ type_of% @eqs_f)))) ∧ (((type_of% @eqb_t ∧ type_of% @eqs_t) ∧ (type_of% @aFun_eqv ∧ type_of% @eqv_f)) ∧ ((type_of% @eqv_t ∧ type_of% @eqc_some) ∧ (type_of% @eqs_nil ∧ (type_of% @eqs_cons ∧ type_of% @eqb_int)))))) ∧ (((((type_of% @eqb_bool ∧ type_of% @eqb_str) ∧ (type_of% @aFun_un ∧ type_of% @un_not)) ∧ ((type_of% @un_neg ∧ type_of% @aFun_conv) ∧ (type_of% @conv_int ∧ (type_of% @aFun_fld ∧ type_of% @fldF_eq)))) ∧ (((type_of% @aFun_fldA ∧ type_of% @fldA_ptr) ∧ (type_of% @fldA_pptr ∧ type_of% @atE_some)) ∧ ((type_of% @atR_some ∧ type_of% @aFun_idxA) ∧ (type_of% @idxA_sl ∧ (type_of% @idxA_rsl ∧ type_of% @aFun_idxAA))))) ∧ ((((type_of% @idxAA_ptr ∧ type_of% @idxAA_pptr) ∧ (type_of% @aFun_idxS ∧ type_of% @aFun_b2s)) ∧ ((type_of% @b2sF_empty ∧ type_of% @b2sF_ints) ∧ (type_of% @idxS_eq ∧ (type_of% @aFun_ext ∧ type_of% @ext_tup)))) ∧ (((type_of% @aFun_mx ∧ type_of% @aFun_mn) ∧ (type_of% @mx_int ∧ type_of% @mn_int)) ∧ ((type_of% @aFun_len ∧ type_of% @lenO_empty) ∧ (type_of% @lenO_sl ∧ (type_of% @lenO_rsl ∧ type_of% @lenF_empty))))))) ∧ ((((((type_of% @lenF_sl ∧ type_of% @lenF_rsl) ∧ (type_of% @stF_ptr ∧ type_of% @clrF_rsl)) ∧ ((type_of% @boxF_eq ∧ type_of% @bsF_eq) ∧ (type_of% @appF_none ∧ (type_of% @appF_row ∧ type_of% @appR_some)))) ∧ (((type_of% @srcOf_rsl ∧ type_of% @srcR_some) ∧ (type_of% @take_map_pures ∧ type_of% @srcOf_empty)) ∧ ((type_of% @srcOf_sl ∧ type_of% @fvF_pure) ∧ (type_of% @fvF_func ∧ (type_of% @resVals_nil ∧ type_of% @consR_some))))) ∧ ((((type_of% @resVals_cons ∧ type_of% @val_t) ∧ (type_of% @val_c ∧ type_of% @retS_one)) ∧ ((type_of% @retS_two ∧ type_of% @retS_nil) ∧ (type_of% @allPure_map ∧ (type_of% @eq_self.{1} ∧ type_of% @ne_eq.{1})))) ∧ (((type_of% @bne_self_eq_false.{0} ∧ type_of% @lenN_empty) ∧ (type_of% @lenN_sl ∧ type_of% @lenN_rsl)) ∧ ((type_of% @frz1_nil ∧ type_of% @frz1_zero) ∧ (type_of% @frz1_succ ∧ (type_of% @Int.toNat_natCast ∧ type_of% @ext_nil)))))) ∧ (((((type_of% @ext_zero ∧ type_of% @ext_succ) ∧ (type_of% @emb_eq ∧ type_of% @setAll_nil)) ∧ ((type_of% @setAll_cons ∧ type_of% @embRow_eq) ∧ (type_of% @ren_pure ∧ (type_of% @ren_empty ∧ type_of% @ren_rsl)))) ∧ (((type_of% @ren_ptr ∧ type_of% @ren_pptr) ∧ (type_of% @ren_agg ∧ type_of% @ren_tup)) ∧ ((type_of% @ren_func ∧ type_of% @ren_dead) ∧ (type_of% @ren_pures ∧ (type_of% @ren_pures' ∧ type_of% @pick_zero))))) ∧ ((((type_of% @pick_succ ∧ type_of% @Int.cast_ofNat_Int) ∧ (type_of% @aFun_slc ∧ type_of% @slcS_empty)) ∧ ((type_of% @slcS_sl ∧ type_of% @slcS_rsl) ∧ (type_of% @intO_none ∧ (type_of% @intO_int ∧ type_of% @isSome_n)))) ∧ (((type_of% @isSome_s ∧ type_of% @isNone_n) ∧ (type_of% @isNone_s ∧ type_of% @onIf_T)) ∧ ((type_of% @lateOk_nil ∧ type_of% @lateOk_cons) ∧ (type_of% @aVal_mksl ∧ (type_of% @aQop_mksl ∧ type_of% @mkF_int))))))))) :=
 ⟨⟨⟨⟨⟨⟨⟨⟨@onS_some, @onH_some⟩, ⟨@onSH_some, @onB_true⟩⟩, ⟨⟨@onB_false, @onG_true⟩, ⟨@onG_false, @onG_skip⟩⟩⟩, ⟨⟨⟨@onG_bool, @onR_some⟩, ⟨@onF_some, @onFQ_some⟩⟩, ⟨⟨@onL_some, @onA_some⟩, ⟨@onIf_true, ⟨@PostX_n, @PostX_r⟩⟩⟩⟩⟩, ⟨⟨⟨⟨@Env.get_nil, @Env.get_cons⟩, ⟨@putD_some, @putD_none⟩⟩, ⟨⟨@argEnv_nil, @argEnv_cons⟩, ⟨@List.map_nil.{0,0}, ⟨@List.map_cons.{0,0}, @List.length_cons.{0}⟩⟩⟩⟩, ⟨⟨⟨@List.length_nil.{0}, @List.getElem?_cons_zero.{0}⟩, ⟨@List.getElem?_cons_succ.{0}, @List.set_cons_zero.{0}⟩⟩, ⟨⟨@List.set_cons_succ.{0}, @List.cons_append.{0}⟩, ⟨@List.nil_append.{0}, ⟨@List.take_zero.{0}, @List.take_nil.{0}⟩⟩⟩⟩⟩⟩, ⟨⟨⟨⟨⟨@List.take_succ_cons.{0}, @List.drop_zero.{0}⟩, ⟨@List.drop_nil.{0}, @List.drop_succ_cons.{0}⟩⟩, ⟨⟨@List.all_cons.{0}, @List.all_nil.{0}⟩, ⟨@Option.map_some.{0,0}, ⟨@Option.map_none.{0,0}, @List.isEmpty_nil.{0}⟩⟩⟩⟩, ⟨⟨⟨@List.isEmpty_cons.{0}, @Bool.not_true⟩, ⟨@Bool.not_false, @Bool.and_true⟩⟩, ⟨⟨@Bool.and_self, @and_self⟩, ⟨@and_true, ⟨@true_and, @Nat.zero_add⟩⟩⟩⟩⟩, ⟨⟨⟨⟨@Nat.add_zero, @Nat.le_refl⟩, ⟨@decide_true, @decide_false⟩⟩, ⟨⟨@beq_self_eq_true.{0}, @or_true⟩, ⟨@true_or, ⟨@or_false, @false_or⟩⟩⟩⟩, ⟨⟨⟨@false_and, @and_false⟩, ⟨@not_true_eq_false, @not_false_eq_true⟩⟩, ⟨⟨@Nat.sub_zero, @Bool.false_eq_true⟩, ⟨@Nat.succ_ne_zero, ⟨@List.length_map.{0,0}, @Option.some.injEq.{0}⟩⟩⟩⟩⟩⟩⟩, ⟨⟨⟨⟨⟨⟨@true_implies, @Bool.or_true⟩, ⟨@Bool.or_false, @Bool.true_or⟩⟩, ⟨⟨@Bool.false_or, @Bool.and_false⟩, ⟨@Bool.false_and, @Bool.true_and⟩⟩⟩, ⟨⟨⟨@ev_s, @ev_c⟩, ⟨@cells_agg, @cells_int⟩⟩, ⟨⟨@cells_bool, @cells_str⟩, ⟨@cells_sl, ⟨@cells_func, @cells_nilf⟩⟩⟩⟩⟩, ⟨⟨⟨⟨@cells_nilp, @isCell_agg⟩, ⟨@isCell_int, @isCell_bool⟩⟩, ⟨⟨@isCell_str, @isCell_sl⟩, ⟨@isCell_func, ⟨@isCell_nilf, @isCell_nilp⟩⟩⟩⟩, ⟨⟨⟨@scells_pure, @scells_agg⟩, ⟨@scells_empty, @scells_rsl⟩⟩, ⟨⟨@scells_ptr, @scells_func⟩, ⟨@sisCell_pure, ⟨@sisCell_agg, @sisCell_empty⟩⟩⟩⟩⟩⟩, ⟨⟨⟨⟨⟨@sisCell_rsl, @sisCell_ptr⟩, ⟨@sisCell_func, @okv_pure⟩⟩, ⟨⟨@okv_agg, @okv_empty⟩, ⟨@okv_rsl, ⟨@okv_ptr, @okv_func⟩⟩⟩⟩, ⟨⟨⟨@mkAgg_eq, @mkA_some⟩, ⟨@mkA_none, @allPure_nil⟩⟩, ⟨⟨@allPure_pure, @allPure_empty⟩, ⟨@allPure_rsl, ⟨@allPure_ptr, @allPure_func⟩⟩⟩⟩⟩, ⟨⟨⟨⟨@consP_some, @consP_none⟩, ⟨@one_one, @put_eq⟩⟩, ⟨⟨@partF_false, @partF_true⟩, ⟨@rowAt_live, ⟨@rowAt_frozen, @rowAt_succ⟩⟩⟩⟩, ⟨⟨⟨@loadE_some, @loadR_some⟩, ⟨@loadF_ptr, @loadF_pptr⟩⟩, ⟨⟨@aFun_load, @bldF_some⟩, ⟨@aFun_build, ⟨@fillA_nil, @fillA_cons⟩⟩⟩⟩⟩⟩⟩⟩, ⟨⟨⟨⟨⟨⟨⟨@fillS_eq, @aFun_nilck⟩, ⟨@nilF_ptr, @nilF_pptr⟩⟩, ⟨⟨@nilF_pure, @nilF_func⟩, ⟨@aFun_bin, @bin_add⟩⟩⟩, ⟨⟨⟨@bin_sub, @bin_mul⟩, ⟨@bin_quo, @bin_rem⟩⟩, ⟨⟨@bin_eql, @bin_neq⟩, ⟨@bin_lss, ⟨@bin_leq, @bin_gtr⟩⟩⟩⟩⟩, ⟨⟨⟨⟨@bin_geq, @bin_and⟩, ⟨@bin_or, @bin_shl⟩⟩, ⟨⟨@bin_shr, @aFun_eqb⟩, ⟨@aFun_eqs, ⟨@eqb_f, @eqs_f⟩⟩⟩⟩, ⟨⟨⟨@eqb_t, @eqs_t⟩, ⟨@aFun_eqv, @eqv_f⟩⟩, ⟨⟨@eqv_t, @eqc_some⟩, ⟨@eqs_nil, ⟨@eqs_cons, @eqb_int⟩⟩⟩⟩⟩⟩, ⟨⟨⟨⟨⟨@eqb_bool, @eqb_str⟩, ⟨@aFun_un, @un_not⟩⟩, ⟨⟨@un_neg, @aFun_conv⟩, ⟨@conv_int, ⟨@aFun_fld, @fldF_eq⟩⟩⟩⟩, ⟨⟨⟨@aFun_fldA, @fldA_ptr⟩, ⟨@fldA_pptr, @atE_some⟩⟩, ⟨⟨@atR_some, @aFun_idxA⟩, ⟨@idxA_sl, ⟨@idxA_rsl, @aFun_idxAA⟩⟩⟩⟩⟩, ⟨⟨⟨⟨@idxAA_ptr, @idxAA_pptr⟩, ⟨@aFun_idxS, @aFun_b2s⟩⟩, ⟨⟨@b2sF_empty, @b2sF_ints⟩, ⟨@idxS_eq, ⟨@aFun_ext, @ext_tup⟩⟩⟩⟩, ⟨⟨⟨@aFun_mx, @aFun_mn⟩, ⟨@mx_int, @mn_int⟩⟩, ⟨⟨@aFun_len, @lenO_empty⟩, ⟨@lenO_sl, ⟨@lenO_rsl, @lenF_empty⟩⟩⟩⟩⟩⟩⟩, ⟨⟨⟨⟨⟨⟨@lenF_sl, @lenF_rsl⟩, ⟨@stF_ptr, @clrF_rsl⟩⟩, ⟨⟨@boxF_eq, @bsF_eq⟩, ⟨@appF_none, ⟨@appF_row, @appR_some⟩⟩⟩⟩, ⟨⟨⟨@srcOf_rsl, @srcR_some⟩, ⟨@take_map_pures, @srcOf_empty⟩⟩, ⟨⟨@srcOf_sl, @fvF_pure⟩, ⟨@fvF_func, ⟨@resVals_nil, @consR_some⟩⟩⟩⟩⟩, ⟨⟨⟨⟨@resVals_cons, @val_t⟩, ⟨@val_c, @retS_one⟩⟩, ⟨⟨@retS_two, @retS_nil⟩, ⟨@allPure_map, ⟨@eq_self.{1}, @ne_eq.{1}⟩⟩⟩⟩, ⟨⟨⟨@bne_self_eq_false.{0}, @lenN_empty⟩, ⟨@lenN_sl, @lenN_rsl⟩⟩, ⟨⟨@frz1_nil, @frz1_zero⟩, ⟨@frz1_succ, ⟨@Int.toNat_natCast, @ext_nil⟩⟩⟩⟩⟩⟩, ⟨⟨⟨⟨⟨@ext_zero, @ext_succ⟩, ⟨@emb_eq, @setAll_nil⟩⟩, ⟨⟨@setAll_cons, @embRow_eq⟩, ⟨@ren_pure, ⟨@ren_empty, @ren_rsl⟩⟩⟩⟩, ⟨⟨⟨@ren_ptr, @ren_pptr⟩, ⟨@ren_agg, @ren_tup⟩⟩, ⟨⟨@ren_func, @ren_dead⟩, ⟨@ren_pures, ⟨@ren_pures', @pick_zero⟩⟩⟩⟩⟩, ⟨⟨⟨⟨@pick_succ, @Int.cast_ofNat_Int⟩, ⟨@aFun_slc, @slcS_empty⟩⟩, ⟨⟨@slcS_sl, @slcS_rsl⟩, ⟨@intO_none, ⟨@intO_int, @isSome_n⟩⟩⟩⟩, ⟨⟨⟨@isSome_s, @isNone_n⟩, ⟨@isNone_s, @onIf_T⟩⟩, ⟨⟨@lateOk_nil, @lateOk_cons⟩, ⟨@aVal_mksl, ⟨@aQop_mksl, @mkF_int⟩⟩⟩⟩⟩⟩⟩⟩⟩
theorem kpp : ((((((type_of% @keepE_nil ∧ type_of% @keepE_cons) ∧ (type_of% @keepH_nil ∧ type_of% @keepH_cons)) ∧ ((type_of% @keepR_some ∧ type_of% @ren_pure) ∧ (type_of% @ren_empty ∧ (type_of% @ren_rsl ∧ type_of% @ren_ptr)))) ∧ (((type_of% @ren_pptr ∧ type_of% @ren_agg) ∧ (type_of% @ren_tup ∧ (type_of% @ren_func ∧ type_of% @ren_dead))) ∧ ((type_of% @inb_pure ∧ type_of% @inb_empty) ∧ (type_of% @inb_rsl ∧ (type_of% @inb_ptr ∧ type_of% @inb_pptr))))) ∧ ((((type_of% @inb_agg ∧ type_of% @inb_tup) ∧ (type_of% @inb_func ∧ type_of% @inb_dead)) ∧ ((type_of% @ren_pures ∧ type_of% @inb_pures) ∧ (type_of% @ren_pures' ∧ (type_of% @inb_pures' ∧ type_of% @pick_zero)))) ∧ (((type_of% @pick_succ ∧ type_of% @Env.get_nil) ∧ (type_of% @Env.get_cons ∧ (type_of% @List.length_nil.{0} ∧ type_of% @List.length_cons.{0}))) ∧ ((type_of% @List.getElem?_cons_zero.{0} ∧ type_of% @List.getElem?_cons_succ.{0}) ∧ (type_of% @List.map_nil.{0,0} ∧ (type_of% @List.map_cons.{0,0} ∧ type_of% @List.all_cons.{0})))))) ∧ (((((type_of% @List.all_nil.{0} ∧ type_of% @Nat.zero_add) ∧ (type_of% @decide_true ∧ type_of% @decide_false)) ∧ ((type_of% @and_self ∧ type_of% @and_true) ∧ (type_of% @true_and ∧ (type_of% @or_true ∧ type_of% @true_or)))) ∧ (((type_of% @or_false ∧ type_of% @false_or) ∧ (type_of% @Bool.and_self ∧ (type_of% @Bool.true_and ∧ type_of% @Bool.and_true))) ∧ ((type_of% @ne_eq.{1} ∧ type_of% @not_false_eq_true) ∧ (type_of% @List.mem_cons.{0} ∧ (type_of% @List.not_mem_nil.{0} ∧ type_of% @forall_eq_or_imp.{1}))))) ∧ ((((type_of% @forall_eq.{1} ∧ type_of% @Int.natCast_zero) ∧ (type_of% @Int.cast_ofNat_Int ∧ (type_of% @Nat.lt_add_one ∧ type_of% @Nat.zero_lt_succ))) ∧ ((type_of% @Nat.succ_ne_zero ∧ type_of% @implies_true.{1}) ∧ (type_of% @Nat.lt_irrefl ∧ (type_of% @Nat.zero_lt_one ∧ type_of% @eq_self.{1})))) ∧ (((type_of% @List.nil_append.{0} ∧ type_of% @List.cons_append.{0}) ∧ (type_of% @false_implies ∧ (type_of% @List.map_append.{0,0} ∧ type_of% @List.length_append.{0}))) ∧ ((type_of% @List.length_map.{0,0} ∧ type_of% @List.forall_mem_append.{0}) ∧ (type_of% @sameH_nil ∧ (type_of% @sameH_cons ∧ type_of% @sameR_some))))))) :=
 ⟨⟨⟨⟨⟨⟨@keepE_nil, @keepE_cons⟩, ⟨@keepH_nil, @keepH_cons⟩⟩, ⟨⟨@keepR_some, @ren_pure⟩, ⟨@ren_empty, ⟨@ren_rsl, @ren_ptr⟩⟩⟩⟩, ⟨⟨⟨@ren_pptr, @ren_agg⟩, ⟨@ren_tup, ⟨@ren_func, @ren_dead⟩⟩⟩, ⟨⟨@inb_pure, @inb_empty⟩, ⟨@inb_rsl, ⟨@inb_ptr, @inb_pptr⟩⟩⟩⟩⟩, ⟨⟨⟨⟨@inb_agg, @inb_tup⟩, ⟨@inb_func, @inb_dead⟩⟩, ⟨⟨@ren_pures, @inb_pures⟩, ⟨@ren_pures', ⟨@inb_pures', @pick_zero⟩⟩⟩⟩, ⟨⟨⟨@pick_succ, @Env.get_nil⟩, ⟨@Env.get_cons, ⟨@List.length_nil.{0}, @List.length_cons.{0}⟩⟩⟩, ⟨⟨@List.getElem?_cons_zero.{0}, @List.getElem?_cons_succ.{0}⟩, ⟨@List.map_nil.{0,0}, ⟨@List.map_cons.{0,0}, @List.all_cons.{0}⟩⟩⟩⟩⟩⟩, ⟨⟨⟨⟨⟨@List.all_nil.{0}, @Nat.zero_add⟩, ⟨@decide_true, @decide_false⟩⟩, ⟨⟨@and_self, @and_true⟩, ⟨@true_and, ⟨@or_true, @true_or⟩⟩⟩⟩, ⟨⟨⟨@or_false, @false_or⟩, ⟨@Bool.and_self, ⟨@Bool.true_and, @Bool.and_true⟩⟩⟩, ⟨⟨@ne_eq.{1}, @not_false_eq_true⟩, ⟨@List.mem_cons.{0}, ⟨@List.not_mem_nil.{0}, @forall_eq_or_imp.{1}⟩⟩⟩⟩⟩, ⟨⟨⟨⟨@forall_eq.{1}, @Int.natCast_zero⟩, ⟨@Int.cast_ofNat_Int, ⟨@Nat.lt_add_one, @Nat.zero_lt_succ⟩⟩⟩, ⟨⟨@Nat.succ_ne_zero, @implies_true.{1}⟩, ⟨@Nat.lt_irrefl, ⟨@Nat.zero_lt_one, @eq_self.{1}⟩⟩⟩⟩, ⟨⟨⟨@List.nil_append.{0}, @List.cons_append.{0}⟩, ⟨@false_implies, ⟨@List.map_append.{0,0}, @List.length_append.{0}⟩⟩⟩, ⟨⟨@List.length_map.{0,0}, @List.forall_mem_append.{0}⟩, ⟨@sameH_nil, ⟨@sameH_cons, @sameR_some⟩⟩⟩⟩⟩⟩⟩
end Go.Vm
