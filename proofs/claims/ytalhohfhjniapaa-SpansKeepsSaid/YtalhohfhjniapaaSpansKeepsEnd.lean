/-
  Proved here: the law SpansKeeps returns true for every input, and the input reads behind the call as it read before. No condition.
-/
import Derived.Test.YtalhohfhjniapaaBase
import Derived.Test.YtalhohfhjniapaaFacts
import Derived.Test.YtalhohfhjniapaaSKeeps
import Derived.Carry
import Derived.ProofKit
namespace Go.Proofs.Ytalhohfhjniapaa.spansKeeps
open Go Go.Vm Go.RowKit Go.ChangeShapes Go.WideShapes Go.ChangeAt Go.Proofs.Ytalhohfhjniapaa.W
set_option maxRecDepth 100000
theorem lifted (os : Os) (started : os.Started) (H : Type) (enc : TypeId × Value → H) :
    ReturnsInHanded {} Try.checked os 5 .any (Rows.spansKeepsSpec.pre6 enc Try.prog Try.f5 Rows.spansKeepsRow.domain false) (Rows.spansKeepsSpec.post enc Try.prog Try.f5 false true false false) := by
  refine returnsInHanded_of_change (C := Try.checked) own started (by kernel_rfl) Try.func5
    (ChangeSpec.witness6 (enc := enc) (C := Try.checked) false ⟨#[], #[.slice none 0 0, .agg #[.int .i64 0, .int .i64 0, .int .i64 0, .int .i64 0]], []⟩ 8 (by kernel_rfl) (by kernel_rfl) (by kernel_rfl) (by kernel_rfl)) ?_
  intro W base args ds gs before hval hW _ _
  have hfacts : (Try.f5.params.toList.all fun t => (tyC Try.prog 20 t).isSome && Try.prog.readableRec t && decide (t < Try.prog.types.size)) = true := by kernel_rfl
  exact law_contract (tb := 4) rfl laidOut (fun t ht => by
    have := List.all_eq_true.1 hfacts t ht
    simp only [Bool.and_eq_true, decide_eq_true_eq] at this
    exact ⟨this.1.1, this.1.2, this.2⟩) (by kernel_rfl) (by kernel_rfl)
    (fun ds hl => by
      have hl' : ds.length = 2 := hl.trans (by rw [Try.params5]; rfl)
      match ds, hl' with
      | [_, _], _ => rfl) keeps_all hval hW
theorem named : Try.prog.funcNamed Rows.spansKeepsRow.func = some 5 := by kernel_rfl
theorem j1 : (Rows.spansKeepsRow.inPlace == Try.prog.inPlace 5) = true := by kernel_rfl
theorem j2 : (Rows.spansKeepsRow.unfollowed == Try.prog.unfollowed 5) = true := by kernel_rfl
theorem j3 : (Rows.spansKeepsRow.recurses == Try.prog.recurses 5) = true := by kernel_rfl
theorem j4 : (Rows.spansKeepsRow.named == Try.prog.varsNamed 5) = true := by kernel_rfl
theorem j5 : Rows.spansKeepsRow.wf (OpenSpec.ofChange Rows.spansKeepsSpec) = true := by kernel_rfl
theorem j10 : (Rows.spansKeepsRow.lifted == Try.prog.liftsFinal) = true := by rw [final]; rfl
theorem j11 : (Try.prog.make == some Rows.spansKeepsRow.make) = true := by rw [make]; rfl
theorem both {a b : Bool} (ha : a = true) (hb : b = true) : (a && b) = true := by rw [ha, hb]; rfl
theorem facts : joinedFacts Try.prog 5 Try.f5 Rows.spansKeepsSpec Rows.spansKeepsRow = true := by
  unfold joinedFacts
  repeat' (with_reducible refine both ?_ ?_)
  · exact j5
  · exact laidOut
  · exact j7
  all_goals first
    | with_reducible exact mayEnter
    | with_reducible exact j10
    | with_reducible exact j11
    | with_reducible exact j8
    | with_reducible exact j9
    | with_reducible exact j1
    | with_reducible exact j2
    | with_reducible exact j3
    | with_reducible exact j4
    | (as_aux_lemma => kernel_rfl)
theorem inst : Try.f5.isInstance Try.prog Rows.spansKeepsRow.origin Rows.spansKeepsRow.targs := of_decide_eq_true (by kernel_rfl)
theorem wrapper : Try.f5.isWrapper Try.prog Rows.spansKeepsRow.wrapper Rows.spansKeepsRow.mainSum := by unfold Func.isWrapper; first | (rw [if_pos (by decide +kernel)]; kernel_rfl) | (rw [if_neg (by decide +kernel)]; exact ⟨rfl, rfl⟩)
theorem proved : Rows.SpansKeepsSaid :=
  OpenClaim.holds_of_wide 5 Try.f5 rfl rfl rfl rfl rfl rfl rfl ⟨rfl, rfl, rfl, rfl, rfl⟩ rfl rfl rfl rfl rfl named Try.func5 facts inst wrapper
    (fun os started H enc _ => lifted os started H enc)
end Go.Proofs.Ytalhohfhjniapaa.spansKeeps
