/-
  A roll of spans behind a call: it is brought back to the place where it lay. No condition.
-/
import Derived.Test.YtalhohfhjniapaaRoll
namespace Go.Proofs.Ytalhohfhjniapaa.W
open Go Go.Vm Go.Proofs
set_option linter.unusedSimpArgs false
theorem OkF.p {i : Nat} {f : Func} {c : AC} {r : List RS} {n : Nat} (k : OkF i f c r n) {vs ds : List V} (hn : vs.length ≤ n) (h : aWp Try.prog 0 (RQs Try.prog) c (PostX r (Gives ds)) (argEnv 0 (vs.map .pure)) []) : FnQ Try.prog i vs ds :=
 fnQ_of_p mixed k.g k.h k.k k.r (by rw [k.n]; exact hn) h
theorem rollH_two {st : Bool} {L : List Sp} : [0, 1].length ≤ (rollH st L).length := by cases st <;> simp [rollH]
theorem layI_of {w : List Int} {m x : Int} : layI (ofF w) m x = ofF (w ++ List.replicate m.toNat x) := by
 rw [layI]
 split
 ·rw [show m.toNat = 0 by omega]; simp
 ·exact ofF_lay (by omega)
end Go.Proofs.Ytalhohfhjniapaa.W
