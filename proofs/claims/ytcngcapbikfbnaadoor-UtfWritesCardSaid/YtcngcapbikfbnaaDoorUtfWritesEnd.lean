/-
  Proved here: the law UtfWrites returns true for every input, and the input reads behind the call as it read before. No condition.
-/
import Derived.Test.YtcngcapbikfbnaaDoorBase
import Derived.Test.YtcngcapbikfbnaaDoorFacts
import Derived.Test.YtcngcapbikfbnaaDoorLWrites
import Derived.Carry
import Derived.Test.YtcngcapbikfbnaaDoorUTab
import Derived.Test.YtcngcapbikfbnaaDoorCards
import Derived.Test.YtcngcapbikfbnaaDoorTie
import Derived.ProofKit
import Derived.OpenShut
import Derived.LaidMore
import Derived.Lay
import Derived.SevenTiedAt
import Derived.Stop.Joined
namespace Go.Proofs.YtcngcapbikfbnaaDoor.utfWrites
open Go Go.Vm Go.RowKit Go.ChangeShapes Go.WideShapes Go.ChangeAt Go.Proofs.YtcngcapbikfbnaaDoor.W
set_option maxRecDepth 100000
theorem lifted (os : Os) (started : os.Started) (H : Type) (enc : TypeId × Value → H) :
    ReturnsInHanded {} Tryd.checked os 3 .any (fun w args => (Rows.utfWritesSpec.pre enc Tryd.prog Tryd.f3 Rows.utfWritesRow.domain false w args ∧ laidMetH Tryd.prog Rows.utfWritesRow.laid w) ∧ sizedMet enc Tryd.prog Tryd.f3 (OpenSpec.ofChange Rows.utfWritesSpec) false w args) (Rows.utfWritesSpec.post enc Tryd.prog Tryd.f3 false true false false) := by
  refine returnsInHanded_of_change_and (C := Tryd.checked) (X := fun w _ => laidMetH Tryd.prog Rows.utfWritesRow.laid w) (fun _ _ _ hh h => h.of_heap hh) own started (by kernel_rfl) Tryd.func3
    (ChangeSpec.witness_shaped (enc := enc) (C := Tryd.checked) (os := os) (X := fun w _ => laidMetH Tryd.prog Rows.utfWritesRow.laid w) false (World.laidAll Tryd.prog os Rows.utfWritesRow.laid) #[.slice none 0 0] 8 (World.laidAll_os _ _ _)
      (World.shaped_of_ZipB (by kernel_rfl) (by kernel_rfl)) (by kernel_rfl) (by kernel_rfl) (by kernel_rfl)
      (by rw [MakeChecks.laidMetH_plain _ _ _ (by kernel_rfl)]; exact laidMet_laidAll _ (by kernel_rfl) (by kernel_rfl))) ?_
  intro W base args ds gs before hval hW _ _ hL _
  have hL' : laidMetH Tryd.prog laidU W := hL
  have hfacts : (Tryd.f3.params.toList.all fun t => (tyC Tryd.prog 20 t).isSome && Tryd.prog.readableRec t && decide (t < Tryd.prog.types.size)) = true := by kernel_rfl
  exact law_contract (tb := 4) rfl laidOut (fun t ht => by
    have := List.all_eq_true.1 hfacts t ht
    simp only [Bool.and_eq_true, decide_eq_true_eq] at this
    exact ⟨this.1.1, this.1.2, this.2⟩) (by kernel_rfl) (by kernel_rfl)
    (fun ds hl => by
      have hl' : ds.length = 1 := hl.trans (by rw [Tryd.params3]; rfl)
      match ds, hl' with
      | [_], _ => rfl) writes_all (tab_ok hL') hval hW
theorem named : Tryd.prog.funcNamed Rows.utfWritesRow.func = some 3 := by kernel_rfl
theorem j1 : (Rows.utfWritesRow.inPlace == Tryd.prog.inPlace 3) = true := by kernel_rfl
theorem j2 : (Rows.utfWritesRow.unfollowed == Tryd.prog.unfollowed 3) = true := by kernel_rfl
theorem j3 : (Rows.utfWritesRow.recurses == Tryd.prog.recurses 3) = true := by kernel_rfl
theorem j4 : (Rows.utfWritesRow.named == Tryd.prog.varsNamed 3) = true := by kernel_rfl
theorem j5 : Rows.utfWritesRow.wf (OpenSpec.ofChange Rows.utfWritesSpec) = true := by kernel_rfl
theorem j10 : (Rows.utfWritesRow.lifted == Tryd.prog.liftsFinal) = true := by rw [final]; rfl
theorem j11 : (Tryd.prog.make == some Rows.utfWritesRow.make) = true := by rw [make]; rfl
theorem both {a b : Bool} (ha : a = true) (hb : b = true) : (a && b) = true := by rw [ha, hb]; rfl
theorem facts : joinedFacts Tryd.prog 3 Tryd.f3 Rows.utfWritesSpec Rows.utfWritesRow = true := by
  unfold joinedFacts
  repeat' (with_reducible refine both ?_ ?_)
  · exact j5
  · exact laidOut
  · exact j7
  all_goals first
    | with_reducible exact mayEnter
    | with_reducible exact j10
    | with_reducible exact j11
    | with_reducible exact j8
    | with_reducible exact j9
    | with_reducible exact j1
    | with_reducible exact j2
    | with_reducible exact j3
    | with_reducible exact j4
    | (as_aux_lemma => kernel_rfl)
theorem inst : Tryd.f3.isInstance Tryd.prog Rows.utfWritesRow.origin Rows.utfWritesRow.targs := of_decide_eq_true (by kernel_rfl)
theorem wrapper : Tryd.f3.isWrapper Tryd.prog Rows.utfWritesRow.wrapper Rows.utfWritesRow.mainSum := by unfold Func.isWrapper; first | (rw [if_pos (by decide +kernel)]; kernel_rfl) | (rw [if_neg (by decide +kernel)]; exact ⟨rfl, rfl⟩)
theorem proved : Rows.UtfWritesSaid :=
  OpenClaim.holds_of_wide 3 Tryd.f3 rfl rfl rfl rfl rfl rfl rfl ⟨rfl, rfl, rfl, rfl, rfl⟩ rfl rfl rfl rfl rfl named Tryd.func3 facts inst wrapper
    (fun os started H enc _ => lifted os started H enc)
theorem stand : (Tryd.f3.params.toList.all fun u => !Tryd.prog.wantsStandIn u) = true := by kernel_rfl
theorem card : Rows.UtfWritesCardSaid :=
  Claim7.holds_tied_plain_at .later [] [.data, .pinned] true (true, "771d064d7b4110efbaf3315f568775befe3e77303308bae287a1266bf26421a1") false proved (fun _ h => by cases h) (by kernel_rfl) (fun _ h => by cases h) utfWrites_row_tie rfl ⟨rfl, rfl⟩ (by kernel_rfl) rfl
    (fun f fn hf hfn => by
      obtain rfl : f = 3 := Option.some.inj ((show Tryd.prog.funcNamed Rows.utfWritesRow.func = some 3 from named).symm.trans hf) |>.symm
      obtain rfl : fn = Tryd.f3 := (Option.some.inj (Tryd.func3.symm.trans hfn)).symm
      exact ⟨by kernel_rfl, fun j t ht => by
        have hm : t ∈ Tryd.f3.params.toList := by
          rw [← Array.getElem?_toList] at ht
          exact List.mem_of_getElem? ht
        have := List.all_eq_true.1 stand t hm
        exact (show Tryd.prog.wantsStandIn t = false by simpa using this)⟩)
    (by kernel_rfl)
end Go.Proofs.YtcngcapbikfbnaaDoor.utfWrites
