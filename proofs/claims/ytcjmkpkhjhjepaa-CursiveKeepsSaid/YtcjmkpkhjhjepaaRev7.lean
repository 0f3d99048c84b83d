/-
  Whether a row of glyphs is right: the document's function. No condition but on sizes.
-/
import Derived.Test.YtcjmkpkhjhjepaaRev6
namespace Go.Proofs.Ytcjmkpkhjhjepaa.W
open Go Go.Vm Go.Proofs
set_option maxRecDepth 100000
set_option linter.unusedSimpArgs false
set_option maxHeartbeats 4000000

theorem right25_q (ls : List Gl) (hl : ls.length ≤ 1000) : FnQ Try.prog 34 [.sl (ls.map gl)] [.bool (rightF ls)] := by
  refine q34 (by simp) ?_
  unfold c34
  have ho : allR ls ls.length 0 = rightF ls := rfl
  generalize rightF ls = out at *
  simp -implicitDefEqProofs only [vmp,↓vmd,seval]
  refine loop_at (T := Nat) (fun i => [(3, .pure (I (i : Int))), (0, .pure (.sl (ls.map gl)))]) (fun _ => []) (fun i => i ≤ ls.length ∧ allR ls (ls.length - i) i = out) (fun i => ls.length - i)
    0 [] (by simp) rfl ⟨by simp, ho⟩ (by simp -implicitDefEqProofs only [kpp,seval]) (by simp -implicitDefEqProofs only [kpp,seval]) ?_
  rintro i ⟨hi, hr⟩
  unfold c34_1
  simp -implicitDefEqProofs only [vmp,↓vmd,seval]
  refine onIf_intro fun _ => ?_
  (first | apply envO | apply envQ); simp -implicitDefEqProofs only [vmp,↓vmd,seval]; rfl
  simp -implicitDefEqProofs only [vmp,↓vmd,seval]
  refine onB_dec (fun h1 => ?_) (fun h1 => ?_)
  · have hlt : i < ls.length := by omega
    rw [show ls.length - i = (ls.length - (i + 1)) + 1 by omega, allR] at hr
    have hgi : (ls.map gl)[i]? = some (gl (glAt ls (i : Int))) := by
      have := glAt_map (ls := ls) (y := (i : Int)) (by omega) (by omega)
      simpa using this
    have hok : okR ls i = (!(decide (0 < i) && decide ((glAt ls (i : Int)).cl < (glAt ls ((i : Int) - 1)).cl)) && placeF (glAt ls (i : Int)).to ls.length && placeF (glAt ls (i : Int)).hang ls.length) := rfl
    have fin : okR ls i = false → out = false := fun e => by rw [← hr, e]; rfl
    simp -implicitDefEqProofs only [h1, hgi, Int.natCast_nonneg, vmp,↓vmd,seval]
    by_cases h2 : 0 < i
    · have h2' : (0 : Int) < (i : Int) := by omega
      have hw : IntKind.wrap .i64 ((i : Int) - 1) = (i : Int) - 1 := wrap_id (by omega) (by omega)
      have i0 : 0 ≤ (i : Int) - 1 := by omega
      have hgp := glAt_map (ls := ls) (y := (i : Int) - 1) (by omega) (by omega)
      refine onB_pos h2' ?_
      (first | apply envO | apply envQ); simp -implicitDefEqProofs only [h2', vmp,↓vmd,seval]; rfl
      simp -implicitDefEqProofs only [hgi, Int.natCast_nonneg, hw, i0, hgp, vmp,↓vmd,seval]
      refine onB_dec (fun h3 => ?_) (fun h3 => ?_)
      · rw [fin (by rw [hok, decide_eq_true h2, decide_eq_true h3]; rfl)]
        (first | apply envO | apply envQ); simp -implicitDefEqProofs only [h3, vmp,↓vmd,seval]; rfl
        simp -implicitDefEqProofs only [h3, vmp,↓vmd,seval]
        exact gives_pure
      · (first | apply envO | apply envQ); simp -implicitDefEqProofs only [h3, vmp,↓vmd,seval]; rfl
        simp -implicitDefEqProofs only [h3, hgi, Int.natCast_nonneg, vmp,↓vmd,seval]
        try refine onIf_intro fun _ => ?_
        try (first | apply envO | apply envQ); simp -implicitDefEqProofs only [vmp,↓vmd,seval]; rfl
        try simp -implicitDefEqProofs only [hgi, Int.natCast_nonneg, vmp,↓vmd,seval]
        first | refine onQ_q (place25_q (glAt ls (i : Int)).to ls.length) rfl ?_ | refine onC_q (place25_q (glAt ls (i : Int)).to ls.length) rfl ?_
        generalize placeF (glAt ls (i : Int)).to ls.length = b1 at hok ⊢
        cases b1 with
        | false =>
          rw [fin (by rw [hok]; simp)]
          (first | apply envO | apply envQ); simp -implicitDefEqProofs only [vmp,↓vmd,seval]; rfl
          simp -implicitDefEqProofs only [vmp,↓vmd,seval]
          exact gives_pure
        | true =>
          (first | apply envO | apply envQ); simp -implicitDefEqProofs only [vmp,↓vmd,seval]; rfl
          simp -implicitDefEqProofs only [hgi, Int.natCast_nonneg, vmp,↓vmd,seval]
          try refine onIf_intro fun _ => ?_
          try (first | apply envO | apply envQ); simp -implicitDefEqProofs only [vmp,↓vmd,seval]; rfl
          try simp -implicitDefEqProofs only [hgi, Int.natCast_nonneg, vmp,↓vmd,seval]
          first | refine onQ_q (place25_q (glAt ls (i : Int)).hang ls.length) rfl ?_ | refine onC_q (place25_q (glAt ls (i : Int)).hang ls.length) rfl ?_
          generalize placeF (glAt ls (i : Int)).hang ls.length = b2 at hok ⊢
          cases b2 with
          | false =>
            rw [fin (by rw [hok]; simp)]
            (first | apply envO | apply envQ); simp -implicitDefEqProofs only [vmp,↓vmd,seval]; rfl
            simp -implicitDefEqProofs only [vmp,↓vmd,seval]
            exact gives_pure
          | true =>
            have yes : okR ls i = true := by rw [hok]; simp; omega
            rw [yes, Bool.true_and] at hr
            (first | apply envO | apply envQ); simp -implicitDefEqProofs only [vmp,↓vmd,seval]; rfl
            simp -implicitDefEqProofs only [vmp,↓vmd,seval]
            refine onBk_to (i + 1) [] (by simp) rfl (by omega) ⟨hlt, hr⟩ (by simp -implicitDefEqProofs only [next_at hlt (by omega), kpp,seval]) (by simp -implicitDefEqProofs only [kpp,seval])
    · have h2' : ¬ (0 : Int) < (i : Int) := by omega
      refine onB_neg h2' ?_
      (first | apply envO | apply envQ); simp -implicitDefEqProofs only [h2', vmp,↓vmd,seval]; rfl
      simp -implicitDefEqProofs only [hgi, Int.natCast_nonneg, vmp,↓vmd,seval]
      try refine onIf_intro fun _ => ?_
      try (first | apply envO | apply envQ); simp -implicitDefEqProofs only [vmp,↓vmd,seval]; rfl
      try simp -implicitDefEqProofs only [hgi, Int.natCast_nonneg, vmp,↓vmd,seval]
      first | refine onQ_q (place25_q (glAt ls (i : Int)).to ls.length) rfl ?_ | refine onC_q (place25_q (glAt ls (i : Int)).to ls.length) rfl ?_
      generalize placeF (glAt ls (i : Int)).to ls.length = b1 at hok ⊢
      cases b1 with
      | false =>
        rw [fin (by rw [hok]; simp)]
        (first | apply envO | apply envQ); simp -implicitDefEqProofs only [vmp,↓vmd,seval]; rfl
        simp -implicitDefEqProofs only [vmp,↓vmd,seval]
        exact gives_pure
      | true =>
        (first | apply envO | apply envQ); simp -implicitDefEqProofs only [vmp,↓vmd,seval]; rfl
        simp -implicitDefEqProofs only [hgi, Int.natCast_nonneg, vmp,↓vmd,seval]
        try refine onIf_intro fun _ => ?_
        try (first | apply envO | apply envQ); simp -implicitDefEqProofs only [vmp,↓vmd,seval]; rfl
        try simp -implicitDefEqProofs only [hgi, Int.natCast_nonneg, vmp,↓vmd,seval]
        first | refine onQ_q (place25_q (glAt ls (i : Int)).hang ls.length) rfl ?_ | refine onC_q (place25_q (glAt ls (i : Int)).hang ls.length) rfl ?_
        generalize placeF (glAt ls (i : Int)).hang ls.length = b2 at hok ⊢
        cases b2 with
        | false =>
          rw [fin (by rw [hok]; simp)]
          (first | apply envO | apply envQ); simp -implicitDefEqProofs only [vmp,↓vmd,seval]; rfl
          simp -implicitDefEqProofs only [vmp,↓vmd,seval]
          exact gives_pure
        | true =>
          have yes : okR ls i = true := by rw [hok]; simp; omega
          rw [yes, Bool.true_and] at hr
          (first | apply envO | apply envQ); simp -implicitDefEqProofs only [vmp,↓vmd,seval]; rfl
          simp -implicitDefEqProofs only [vmp,↓vmd,seval]
          refine onBk_to (i + 1) [] (by simp) rfl (by omega) ⟨hlt, hr⟩ (by simp -implicitDefEqProofs only [next_at hlt (by omega), kpp,seval]) (by simp -implicitDefEqProofs only [kpp,seval])
  · rw [show ls.length - i = 0 by omega, allR] at hr
    subst hr
    simp -implicitDefEqProofs only [h1, vmp,↓vmd,seval]
    unfold c34_0
    simp -implicitDefEqProofs only [vmp,↓vmd,seval]
    exact gives_pure
end Go.Proofs.Ytcjmkpkhjhjepaa.W
