/-
  A roll of spans behind a call: it is brought back to the place where it lay. No condition.
-/
import Derived.Test.YtalhohfhjniapaaRoll
namespace Go.Proofs.Ytalhohfhjniapaa.W
open Go Go.Vm Go.Proofs
set_option linter.unusedSimpArgs false
theorem OkF.p {i : Nat} {f : Func} {c : AC} {r : List RS} {n : Nat} (k : OkF i f c r n) {vs ds : List V} (hn : vs.length ≤ n) (h : aWp Try.prog 0 (RQs Try.prog) c (PostX r (Gives ds)) (argEnv 0 (vs.map .pure)) []) : FnQ Try.prog i vs ds :=
 fnQ_of_p mixed k.g k.h k.k k.r (by rw [k.n]; exact hn) h
theorem rollH_two {st : Bool} {L : List Sp} : [0, 1].length ≤ (rollH st L).length := by cases st <;> simp [rollH]
theorem emb_roll {st : Bool} {L : List Sp} {r0 r1 : Row} : emb [0, 1] [r0, r1] (rollH st L) = rollH st L := by
 cases st
 ·rw [rollH_f]
  simp only [vmp,↓vmd,seval]
 ·rw [rollH_t]
  simp only [vmp,↓vmd,seval]
theorem up_roll {A : AC} {Q : APost} {env : Env} (E : Env) (st : Bool) (L : List Sp) (h1 : keepE env 2 (pick [0, 1]) E) (h2 : keepE env 2 (pick [0, 2]) E) (h : aWp Try.prog 0 (RQs Try.prog) A Q E (rollH false L)) :
  Up 0 (aWp Try.prog 0 (RQs Try.prog) A Q) env (rollH st L) := by
 cases st
 ·exact Up.to [0, 1] E _ (by simp) rfl h1 (by simp only [rollH_f, kpp,seval]) h
 ·exact Up.to [0, 2] E _ (by simp) rfl h2 (by simp only [rollH_f, rollH_t, kpp,seval]) h
theorem layI_of {w : List Int} {m x : Int} : layI (ofF w) m x = ofF (w ++ List.replicate m.toNat x) := by
 rw [layI]
 split
 ·rw [show m.toNat = 0 by omega]; simp
 ·exact ofF_lay (by omega)
end Go.Proofs.Ytalhohfhjniapaa.W
