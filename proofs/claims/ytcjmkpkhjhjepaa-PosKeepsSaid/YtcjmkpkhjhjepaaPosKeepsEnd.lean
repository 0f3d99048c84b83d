/-
  Proved here: the law PosKeeps returns true for every input, and the input reads behind the call as it read before. No condition.
-/
import Derived.Test.YtcjmkpkhjhjepaaBase
import Derived.Test.YtcjmkpkhjhjepaaFacts
import Derived.Test.YtcjmkpkhjhjepaaPos6
import Derived.Carry
import Derived.ProofKit
namespace Go.Proofs.Ytcjmkpkhjhjepaa.posKeeps
open Go Go.Vm Go.RowKit Go.ChangeShapes Go.WideShapes Go.ChangeAt Go.Proofs.Ytcjmkpkhjhjepaa.W
set_option maxRecDepth 100000
theorem lifted (os : Os) (started : os.Started) (H : Type) (enc : TypeId × Value → H) :
    ReturnsInHanded {} Try.checked os 9 .any (Rows.posKeepsSpec.pre6 enc Try.prog Try.f9 Rows.posKeepsRow.domain false) (Rows.posKeepsSpec.post enc Try.prog Try.f9 false true false false) := by
  refine returnsInHanded_of_change (C := Try.checked) own started (by kernel_rfl) Try.func9
    (ChangeSpec.witness6 (enc := enc) (C := Try.checked) false ⟨#[], #[.agg #[.int .i64 0, .slice none 0 0, .slice none 0 0, .slice none 0 0, .slice none 0 0, .slice none 0 0], .slice none 0 0, .slice none 0 0], []⟩ 8 (by kernel_rfl) (by kernel_rfl) (by kernel_rfl) (by kernel_rfl)) ?_
  intro W base args ds gs before hval hW _ _
  have hfacts : (Try.f9.params.toList.all fun t => (tyC Try.prog 20 t).isSome && Try.prog.readableRec t && decide (t < Try.prog.types.size)) = true := by kernel_rfl
  exact law_contract (tb := 4) rfl laidOut (fun t ht => by
    have := List.all_eq_true.1 hfacts t ht
    simp only [Bool.and_eq_true, decide_eq_true_eq] at this
    exact ⟨this.1.1, this.1.2, this.2⟩) (by kernel_rfl) (by kernel_rfl)
    (fun ds hl => by
      have hl' : ds.length = 3 := hl.trans (by rw [Try.params9]; rfl)
      match ds, hl' with
      | [_, _, _], _ => rfl) pk_all hval hW
theorem named : Try.prog.funcNamed Rows.posKeepsRow.func = some 9 := by kernel_rfl
theorem j1 : (Rows.posKeepsRow.inPlace == Try.prog.inPlace 9) = true := by kernel_rfl
theorem j2 : (Rows.posKeepsRow.unfollowed == Try.prog.unfollowed 9) = true := by kernel_rfl
theorem j3 : (Rows.posKeepsRow.recurses == Try.prog.recurses 9) = true := by kernel_rfl
theorem j4 : (Rows.posKeepsRow.named == Try.prog.varsNamed 9) = true := by kernel_rfl
theorem j5 : Rows.posKeepsRow.wf (OpenSpec.ofChange Rows.posKeepsSpec) = true := by kernel_rfl
theorem j10 : (Rows.posKeepsRow.lifted == Try.prog.liftsFinal) = true := by rw [final]; rfl
theorem j11 : (Try.prog.make == some Rows.posKeepsRow.make) = true := by rw [make]; rfl
theorem both {a b : Bool} (ha : a = true) (hb : b = true) : (a && b) = true := by rw [ha, hb]; rfl
theorem facts : joinedFacts Try.prog 9 Try.f9 Rows.posKeepsSpec Rows.posKeepsRow = true := by
  unfold joinedFacts
  repeat' (with_reducible refine both ?_ ?_)
  · exact j5
  · exact laidOut
  · exact j7
  all_goals first
    | with_reducible exact mayEnter
    | with_reducible exact j10
    | with_reducible exact j11
    | with_reducible exact j8
    | with_reducible exact j9
    | with_reducible exact j1
    | with_reducible exact j2
    | with_reducible exact j3
    | with_reducible exact j4
    | (as_aux_lemma => kernel_rfl)
theorem inst : Try.f9.isInstance Try.prog Rows.posKeepsRow.origin Rows.posKeepsRow.targs := of_decide_eq_true (by kernel_rfl)
theorem wrapper : Try.f9.isWrapper Try.prog Rows.posKeepsRow.wrapper Rows.posKeepsRow.mainSum := by unfold Func.isWrapper; first | (rw [if_pos (by decide +kernel)]; kernel_rfl) | (rw [if_neg (by decide +kernel)]; exact ⟨rfl, rfl⟩)
theorem proved : Rows.PosKeepsSaid :=
  OpenClaim.holds_of_wide 9 Try.f9 rfl rfl rfl rfl rfl rfl rfl ⟨rfl, rfl, rfl, rfl, rfl⟩ rfl rfl rfl rfl rfl named Try.func9 facts inst wrapper
    (fun os started H enc _ => lifted os started H enc)
end Go.Proofs.Ytcjmkpkhjhjepaa.posKeeps
