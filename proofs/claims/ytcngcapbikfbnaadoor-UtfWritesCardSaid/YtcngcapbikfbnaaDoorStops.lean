/-
  Where a code stops at a value that is known: on with it. No condition.
-/
import Derived.Test.YtcngcapbikfbnaaDoorVmD
namespace Go.Proofs.YtcngcapbikfbnaaDoor.W
open Go Go.Vm Go.Proofs
theorem onB_pos {p : Prop} [Decidable p] {A B : Prop} (h : p) (hA : A) : @onB (.pure (.bool (decide p))) ⟨A⟩ ⟨B⟩ := ⟨fun _ => hA, fun e => absurd h (of_decide_eq_false e)⟩
theorem onB_neg {p : Prop} [Decidable p] {A B : Prop} (h : ¬ p) (hB : B) : @onB (.pure (.bool (decide p))) ⟨A⟩ ⟨B⟩ := ⟨fun e => absurd (of_decide_eq_true e) h, fun _ => hB⟩
theorem onS_eq {o : Option S} {s : S} {H : Heap} {K : S → Heap → Prop} (h : o = some s) (g : K s H) : @onS o H ⟨K⟩ := by subst h; exact g
end Go.Proofs.YtcngcapbikfbnaaDoor.W
