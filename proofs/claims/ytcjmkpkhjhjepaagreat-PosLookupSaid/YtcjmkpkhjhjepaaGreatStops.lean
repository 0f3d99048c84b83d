/-
  Where a code stops at a value that is known: on with it. No condition.
-/
import Derived.Test.YtcjmkpkhjhjepaaGreatVmD
namespace Go.Proofs.YtcjmkpkhjhjepaaGreat.W
open Go Go.Vm Go.Proofs
theorem onB_pos {p : Prop} [Decidable p] {A B : Prop} (h : p) (hA : A) : @onB (.pure (.bool (decide p))) ⟨A⟩ ⟨B⟩ := ⟨fun _ => hA, fun e => absurd h (of_decide_eq_false e)⟩
theorem onB_neg {p : Prop} [Decidable p] {A B : Prop} (h : ¬ p) (hB : B) : @onB (.pure (.bool (decide p))) ⟨A⟩ ⟨B⟩ := ⟨fun e => absurd (of_decide_eq_true e) h, fun _ => hB⟩
theorem onB_t {b : Bool} {A B : Prop} (h : b = true) (hA : A) : @onB (.pure (.bool b)) ⟨A⟩ ⟨B⟩ := ⟨fun _ => hA, fun e => absurd (h.symm.trans e) (by decide)⟩
theorem onB_f {b : Bool} {A B : Prop} (h : b = false) (hB : B) : @onB (.pure (.bool b)) ⟨A⟩ ⟨B⟩ := ⟨fun e => absurd (h.symm.trans e) (by decide), fun _ => hB⟩
end Go.Proofs.YtcjmkpkhjhjepaaGreat.W
