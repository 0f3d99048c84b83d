/-
  Proved here: the law PosLookup returns true for every input, and the input reads behind the call as it read before. No condition.
-/
import Derived.Test.YtcjmkpkhjhjepaaGreatBase
import Derived.Test.YtcjmkpkhjhjepaaGreatFacts
import Derived.Test.YtcjmkpkhjhjepaaGreatPos9
import Derived.Carry
import Derived.ProofKit
namespace Go.Proofs.YtcjmkpkhjhjepaaGreat.posLookup
open Go Go.Vm Go.RowKit Go.ChangeShapes Go.WideShapes Go.ChangeAt Go.Proofs.YtcjmkpkhjhjepaaGreat.W
set_option maxRecDepth 100000
theorem lifted (os : Os) (started : os.Started) (H : Type) (enc : TypeId × Value → H) :
    ReturnsInHanded {} Tryz.checked os 4 .any (Rows.posLookupSpec.pre6 enc Tryz.prog Tryz.f4 Rows.posLookupRow.domain false) (Rows.posLookupSpec.post enc Tryz.prog Tryz.f4 false true false false) := by
  refine returnsInHanded_of_change (C := Tryz.checked) own started (by kernel_rfl) Tryz.func4
    (ChangeSpec.witness6 (enc := enc) (C := Tryz.checked) false ⟨#[], #[.agg #[.int .i64 0, .slice none 0 0, .slice none 0 0, .slice none 0 0, .slice none 0 0, .slice none 0 0], .slice none 0 0, .agg #[.int .i64 0, .int .i64 0]], []⟩ 8 (by kernel_rfl) (by kernel_rfl) (by kernel_rfl) (by kernel_rfl)) ?_
  intro W base args ds gs before hval hW _ _
  have hfacts : (Tryz.f4.params.toList.all fun t => (tyC Tryz.prog 20 t).isSome && Tryz.prog.readableRec t && decide (t < Tryz.prog.types.size)) = true := by kernel_rfl
  exact law_contract (tb := 4) rfl laidOut (fun t ht => by
    have := List.all_eq_true.1 hfacts t ht
    simp only [Bool.and_eq_true, decide_eq_true_eq] at this
    exact ⟨this.1.1, this.1.2, this.2⟩) (by kernel_rfl) (by kernel_rfl)
    (fun ds hl => by
      have hl' : ds.length = 3 := hl.trans (by rw [Tryz.params4]; rfl)
      match ds, hl' with
      | [_, _, _], _ => rfl) pl_all hval hW
theorem named : Tryz.prog.funcNamed Rows.posLookupRow.func = some 4 := by kernel_rfl
theorem j1 : (Rows.posLookupRow.inPlace == Tryz.prog.inPlace 4) = true := by kernel_rfl
theorem j2 : (Rows.posLookupRow.unfollowed == Tryz.prog.unfollowed 4) = true := by kernel_rfl
theorem j3 : (Rows.posLookupRow.recurses == Tryz.prog.recurses 4) = true := by kernel_rfl
theorem j4 : (Rows.posLookupRow.named == Tryz.prog.varsNamed 4) = true := by kernel_rfl
theorem j5 : Rows.posLookupRow.wf (OpenSpec.ofChange Rows.posLookupSpec) = true := by kernel_rfl
theorem j10 : (Rows.posLookupRow.lifted == Tryz.prog.liftsFinal) = true := by rw [final]; rfl
theorem j11 : (Tryz.prog.make == some Rows.posLookupRow.make) = true := by rw [make]; rfl
theorem both {a b : Bool} (ha : a = true) (hb : b = true) : (a && b) = true := by rw [ha, hb]; rfl
theorem facts : joinedFacts Tryz.prog 4 Tryz.f4 Rows.posLookupSpec Rows.posLookupRow = true := by
  unfold joinedFacts
  repeat' (with_reducible refine both ?_ ?_)
  · exact j5
  · exact laidOut
  · exact j7
  all_goals first
    | with_reducible exact mayEnter
    | with_reducible exact j10
    | with_reducible exact j11
    | with_reducible exact j8
    | with_reducible exact j9
    | with_reducible exact j1
    | with_reducible exact j2
    | with_reducible exact j3
    | with_reducible exact j4
    | (as_aux_lemma => kernel_rfl)
theorem inst : Tryz.f4.isInstance Tryz.prog Rows.posLookupRow.origin Rows.posLookupRow.targs := of_decide_eq_true (by kernel_rfl)
theorem wrapper : Tryz.f4.isWrapper Tryz.prog Rows.posLookupRow.wrapper Rows.posLookupRow.mainSum := by unfold Func.isWrapper; first | (rw [if_pos (by decide +kernel)]; kernel_rfl) | (rw [if_neg (by decide +kernel)]; exact ⟨rfl, rfl⟩)
theorem proved : Rows.PosLookupSaid :=
  OpenClaim.holds_of_wide 4 Tryz.f4 rfl rfl rfl rfl rfl rfl rfl ⟨rfl, rfl, rfl, rfl, rfl⟩ rfl rfl rfl rfl rfl named Tryz.func4 facts inst wrapper
    (fun os started H enc _ => lifted os started H enc)
end Go.Proofs.YtcjmkpkhjhjepaaGreat.posLookup
