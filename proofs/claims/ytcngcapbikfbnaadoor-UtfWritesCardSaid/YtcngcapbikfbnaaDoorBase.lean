/-
  What the proofs of this seat share: closed facts of the program, the shape of its data. No condition.
-/
import Derived.Test.YtcngcapbikfbnaaDoorRows
import Derived.Test.YtcngcapbikfbnaaDoorVmD
import Derived.JoinedOf
import Derived.KernelRfl
namespace Go.Proofs.YtcngcapbikfbnaaDoor.W
open Go Go.Vm Go.Proofs
set_option maxRecDepth 100000
theorem mixed : Tryd.prog.follows .mixedOrders = true := by kernel_rfl
abbrev oo (d : Nat) (x : AOp) : AI := ⟨some d, none, x⟩
abbrev og (d t : Nat) (b : Bool) (x : AOp) : AI := ⟨some d, some (t, b), x⟩
abbrev nI (n : Int) : O := .c (.pure (.int .i64 n))
abbrev nB (b : Bool) : O := .c (.pure (.bool b))
abbrev pI (n : Int) : S := .pure (.int .i64 n)
/-- a function's code, as the machine has it -/
structure OkF (i : Nat) (f : Func) (c : AC) (r : List RS) (n : Nat) : Prop where
 g : Tryd.prog.funcs[i]? = some f
 k : (f.body.bind fun c => cCode Tryd.prog f.ntmps RCs c) = some c
 h : (f.name == "runtime.NumGoroutine") = false
 r : resC Tryd.prog f.results.toList = some r
 n : f.ntmps = n
theorem OkF.a {i : Nat} {f : Func} {c : AC} {r : List RS} {n : Nat} (k : OkF i f c r n) {args : List S} {H : Heap} {K : S → Heap → Prop} (hn : args.length ≤ n) (h : aWx Tryd.prog H.length c (PostX r K) (argEnv 0 args) H) : CallA Tryd.prog i args H K :=
 callA_of_x mixed k.g k.h k.k k.r (by rw [k.n]; exact hn) h
theorem OkF.q {i : Nat} {f : Func} {c : AC} {r : List RS} {n : Nat} (k : OkF i f c r n) {vs ds : List V} (hn : vs.length ≤ n) (h : aWx Tryd.prog 0 c (PostX r (Gives ds)) (argEnv 0 (vs.map .pure)) []) : FnQ Tryd.prog i vs ds :=
 fnQ_of_call (k.a (by simpa using hn) h)
theorem own : ownKnob Tryd.prog.godebug = none := by kernel_rfl
theorem laidOut : laidOutB Tryd.prog = true := by kernel_rfl
abbrev I (n : Int) : V := .int .i64 n
theorem wrap_id {n : Int} (h1 : -9223372036854775808 ≤ n) (h2 : n ≤ 9223372036854775807) : IntKind.wrap .i64 n = n := by
 simp [IntKind.wrap, IntKind.bits, IntKind.signed]
 omega
theorem int_of {k : IntKind} {v : V} (h : OkC (.int k) v) : ∃ n, v = .int k n ∧ (Lit.int k n).wf = true := by
 cases h with
 | int _ n h => exact ⟨n, rfl, h⟩
def num : V → Int
 | .int _ n => n
 | _ => 0
end Go.Proofs.YtcngcapbikfbnaaDoor.W
