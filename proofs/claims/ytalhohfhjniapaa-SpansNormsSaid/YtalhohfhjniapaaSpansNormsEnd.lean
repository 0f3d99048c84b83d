/-
  Proved here: the law SpansNorms returns true for every input, and the input reads behind the call as it read before. No condition.
-/
import Derived.Test.YtalhohfhjniapaaBase
import Derived.Test.YtalhohfhjniapaaFacts
import Derived.Test.YtalhohfhjniapaaSNorms
import Derived.Carry
import Derived.ProofKit
namespace Go.Proofs.Ytalhohfhjniapaa.spansNorms
open Go Go.Vm Go.RowKit Go.ChangeShapes Go.WideShapes Go.ChangeAt Go.Proofs.Ytalhohfhjniapaa.W
set_option maxRecDepth 100000
theorem lifted (os : Os) (started : os.Started) (H : Type) (enc : TypeId × Value → H) :
    ReturnsInHanded {} Try.checked os 3 .any (Rows.spansNormsSpec.pre6 enc Try.prog Try.f3 Rows.spansNormsRow.domain false) (Rows.spansNormsSpec.post enc Try.prog Try.f3 false true false false) := by
  refine returnsInHanded_of_change (C := Try.checked) own started (by kernel_rfl) Try.func3
    (ChangeSpec.witness6 (enc := enc) (C := Try.checked) false ⟨#[], #[.slice none 0 0, .int .i64 0], []⟩ 8 (by kernel_rfl) (by kernel_rfl) (by kernel_rfl) (by kernel_rfl)) ?_
  intro W base args ds gs before hval hW _ _
  have hfacts : (Try.f3.params.toList.all fun t => (tyC Try.prog 20 t).isSome && Try.prog.readableRec t && decide (t < Try.prog.types.size)) = true := by kernel_rfl
  exact law_contract (tb := 4) rfl laidOut (fun t ht => by
    have := List.all_eq_true.1 hfacts t ht
    simp only [Bool.and_eq_true, decide_eq_true_eq] at this
    exact ⟨this.1.1, this.1.2, this.2⟩) (by kernel_rfl) (by kernel_rfl)
    (fun ds hl => by
      have hl' : ds.length = 2 := hl.trans (by rw [Try.params3]; rfl)
      match ds, hl' with
      | [_, _], _ => rfl) norms_all hval hW
theorem named : Try.prog.funcNamed Rows.spansNormsRow.func = some 3 := by kernel_rfl
theorem j1 : (Rows.spansNormsRow.inPlace == Try.prog.inPlace 3) = true := by kernel_rfl
theorem j2 : (Rows.spansNormsRow.unfollowed == Try.prog.unfollowed 3) = true := by kernel_rfl
theorem j3 : (Rows.spansNormsRow.recurses == Try.prog.recurses 3) = true := by kernel_rfl
theorem j4 : (Rows.spansNormsRow.named == Try.prog.varsNamed 3) = true := by kernel_rfl
theorem j5 : Rows.spansNormsRow.wf (OpenSpec.ofChange Rows.spansNormsSpec) = true := by kernel_rfl
theorem j10 : (Rows.spansNormsRow.lifted == Try.prog.liftsFinal) = true := by rw [final]; rfl
theorem j11 : (Try.prog.make == some Rows.spansNormsRow.make) = true := by rw [make]; rfl
theorem both {a b : Bool} (ha : a = true) (hb : b = true) : (a && b) = true := by rw [ha, hb]; rfl
theorem facts : joinedFacts Try.prog 3 Try.f3 Rows.spansNormsSpec Rows.spansNormsRow = true := by
  unfold joinedFacts
  repeat' (with_reducible refine both ?_ ?_)
  · exact j5
  · exact laidOut
  · exact j7
  all_goals first
    | with_reducible exact mayEnter
    | with_reducible exact j10
    | with_reducible exact j11
    | with_reducible exact j8
    | with_reducible exact j9
    | with_reducible exact j1
    | with_reducible exact j2
    | with_reducible exact j3
    | with_reducible exact j4
    | (as_aux_lemma => kernel_rfl)
theorem inst : Try.f3.isInstance Try.prog Rows.spansNormsRow.origin Rows.spansNormsRow.targs := of_decide_eq_true (by kernel_rfl)
theorem wrapper : Try.f3.isWrapper Try.prog Rows.spansNormsRow.wrapper Rows.spansNormsRow.mainSum := by unfold Func.isWrapper; first | (rw [if_pos (by decide +kernel)]; kernel_rfl) | (rw [if_neg (by decide +kernel)]; exact ⟨rfl, rfl⟩)
theorem proved : Rows.SpansNormsSaid :=
  OpenClaim.holds_of_wide 3 Try.f3 rfl rfl rfl rfl rfl rfl rfl ⟨rfl, rfl, rfl, rfl, rfl⟩ rfl rfl rfl rfl rfl named Try.func3 facts inst wrapper
    (fun os started H enc _ => lifted os started H enc)
end Go.Proofs.Ytalhohfhjniapaa.spansNorms
