/-
  Lookups that go from behind: whether they hold, the document's function. No condition but on sizes.
-/
import Derived.Test.YtcjmkpkhjhjepaaRev1
namespace Go.Proofs.Ytcjmkpkhjhjepaa.W
open Go Go.Vm Go.Proofs
set_option maxRecDepth 100000
set_option linter.unusedSimpArgs false
set_option maxHeartbeats 4000000
theorem rholds_q (f : Fo) (k : Lk) (hs : k.kind = 5 → RevS k) (ls : List Gl) (hl : ls.length ≤ 1000) (x : Int) : FnQ Try.prog 23 [fo f, lk k, .sl (ls.map gl), I x] (hoR (holdR f k ls x)) := by
  refine q23 (by simp) ?_
  unfold c23
  have ho : holdR f k ls x = if k.kind = 5 ∧ 0 ≤ x ∧ x < ls.length then goR (stR f k ls x) 0 k.subs else none := rfl
  generalize holdR f k ls x = out at *
  simp -implicitDefEqProofs only [vmp,↓vmd,seval]
  refine onB_dec (fun h1 => ?_) (fun h1 => ?_)
  · rw [if_neg (fun e => h1 e.1)] at ho
    subst ho
    first | refine envO (by simp -implicitDefEqProofs only [h1, vmp,↓vmd,seval]; rfl) ?_ | refine envQ (by simp -implicitDefEqProofs only [h1, vmp,↓vmd,seval]; rfl) ?_
    simp -implicitDefEqProofs only [h1, vmp,↓vmd,seval]
    exact gives_tup rfl (by simp)
  have h1' := Classical.not_not.1 h1
  have hd1 : decide (¬ k.kind = 5) = false := decide_eq_false h1
  first | refine envO (by simp -implicitDefEqProofs only [hd1, vmp,↓vmd,seval]; rfl) ?_ | refine envQ (by simp -implicitDefEqProofs only [hd1, vmp,↓vmd,seval]; rfl) ?_
  simp -implicitDefEqProofs only [vmp,↓vmd,seval]
  refine onB_dec (fun h2 => ?_) (fun h2 => ?_)
  · rw [if_neg (fun e => by omega)] at ho
    subst ho
    first | refine envO (by simp -implicitDefEqProofs only [h2, vmp,↓vmd,seval]; rfl) ?_ | refine envQ (by simp -implicitDefEqProofs only [h2, vmp,↓vmd,seval]; rfl) ?_
    simp -implicitDefEqProofs only [h2, vmp,↓vmd,seval]
    exact gives_tup rfl (by simp)
  first | refine envO (by simp -implicitDefEqProofs only [h2, vmp,↓vmd,seval]; rfl) ?_ | refine envQ (by simp -implicitDefEqProofs only [h2, vmp,↓vmd,seval]; rfl) ?_
  simp -implicitDefEqProofs only [vmp,↓vmd,seval]
  refine onIf_intro fun _ => ?_
  first | refine envO (by simp -implicitDefEqProofs only [vmp,↓vmd,seval]; rfl) ?_ | refine envQ (by simp -implicitDefEqProofs only [vmp,↓vmd,seval]; rfl) ?_
  simp -implicitDefEqProofs only [vmp,↓vmd,seval]
  refine onB_dec (fun h3 => ?_) (fun h3 => ?_)
  · rw [if_neg (fun e => by omega)] at ho
    subst ho
    first | refine envO (by simp -implicitDefEqProofs only [h3, vmp,↓vmd,seval]; rfl) ?_ | refine envQ (by simp -implicitDefEqProofs only [h3, vmp,↓vmd,seval]; rfl) ?_
    simp -implicitDefEqProofs only [h3, vmp,↓vmd,seval]
    exact gives_tup rfl (by simp)
  have x0 : 0 ≤ x := by omega
  have x1 : x < ls.length := by omega
  rw [if_pos ⟨h1', x0, x1⟩] at ho
  have hgx := glAt_map x0 x1
  have hss := (hs h1').sets
  simp -implicitDefEqProofs only [h3, vmp,↓vmd,seval]
  refine loop_at (T := Nat) (fun i => [(10, .pure (I (i : Int))), (2, .pure (.sl (ls.map gl))), (3, .pure (I x)), (4, .ptr 0 0 0), (5, .ptr 1 0 0)])
    (fun _ => [⟨[.pure (fo f)], 6, .live⟩, ⟨[.pure (lk k)], 4, .live⟩]) (fun i => i ≤ k.subs.length ∧ goR (stR f k ls x) i (k.subs.drop i) = out) (fun i => k.subs.length - i)
    0 [0, 1] (by simp) rfl ⟨by simp, ho.symm⟩ (by simp -implicitDefEqProofs only [kpp,seval]) (by simp -implicitDefEqProofs only [kpp,seval]) ?_
  rintro i ⟨hi, hr⟩
  unfold c23_1
  simp -implicitDefEqProofs only [vmp,↓vmd,seval]
  refine onIf_intro fun _ => ?_
  first | refine envO (by simp -implicitDefEqProofs only [vmp,↓vmd,seval]; rfl) ?_ | refine envQ (by simp -implicitDefEqProofs only [vmp,↓vmd,seval]; rfl) ?_
  simp -implicitDefEqProofs only [vmp,↓vmd,seval]
  refine onB_dec (fun h4 => ?_) (fun h4 => ?_)
  · have hlt : i < k.subs.length := by omega
    rw [drop_at hlt, goR] at hr
    have hgi : (k.subs.map sub)[i]? = some (sub k.subs[i]) := map_at hlt
    obtain ⟨s1, s2⟩ := hss k.subs[i] (List.getElem_mem _)
    generalize k.subs[i] = s at hr hgi s1 s2
    have miss : stR f k ls x s = false → goR (stR f k ls x) (i + 1) (k.subs.drop (i + 1)) = out := fun e => by rw [e] at hr; exact hr
    have hit : stR f k ls x s = true → some i = out := fun e => by rw [e] at hr; exact hr
    have hst : stR f k ls x s = (decide (0 ≤ idxF (glAt ls x).id 0 s.cover) && (rowF (prevF (seesF f k.flags k.set ls) ls.length) ls s.back x).isSome && (rowF (nextF (seesF f k.flags k.set ls) ls.length) ls s.ahead x).isSome) := rfl
    simp -implicitDefEqProofs only [h4, hgi, Int.natCast_nonneg, vmp,↓vmd,seval]
    refine onC_q (rbk_q f k ls hl x s.back s1) rfl ?_
    generalize rowF (prevF (seesF f k.flags k.set ls) ls.length) ls s.back x = o1 at hst
    have e1 : ∃ p1 : V, rowR o1 = [p1, .bool o1.isSome] := by cases o1 <;> exact ⟨_, rfl⟩
    obtain ⟨p1, e1⟩ := e1
    rw [e1]
    generalize o1.isSome = b1 at hst
    first | refine envO (by simp -implicitDefEqProofs only [vmp,↓vmd,seval]; rfl) ?_ | refine envQ (by simp -implicitDefEqProofs only [vmp,↓vmd,seval]; rfl) ?_
    simp -implicitDefEqProofs only [vmp,↓vmd,seval]
    refine onC_q (rrw_q f k ls hl x s.ahead s2) rfl ?_
    generalize rowF (nextF (seesF f k.flags k.set ls) ls.length) ls s.ahead x = o2 at hst
    have e2 : ∃ p2 : V, rowR o2 = [p2, .bool o2.isSome] := by cases o2 <;> exact ⟨_, rfl⟩
    obtain ⟨p2, e2⟩ := e2
    rw [e2]
    generalize o2.isSome = b2 at hst
    first | refine envO (by simp -implicitDefEqProofs only [vmp,↓vmd,seval]; rfl) ?_ | refine envQ (by simp -implicitDefEqProofs only [vmp,↓vmd,seval]; rfl) ?_
    simp -implicitDefEqProofs only [hgx, x0, vmp,↓vmd,seval]
    refine onC_q (place30_q s.cover (glAt ls x).id) rfl ?_
    generalize idxF (glAt ls x).id 0 s.cover = pl at hst
    by_cases h0 : 0 ≤ pl
    · rw [decide_eq_true h0] at hst
      cases b1 with
      | false =>
        have miss := miss (by rw [hst]; rfl)
        first | refine envO (by simp -implicitDefEqProofs only [h0, vmp,↓vmd,seval]; rfl) ?_ | refine envQ (by simp -implicitDefEqProofs only [h0, vmp,↓vmd,seval]; rfl) ?_
        simp -implicitDefEqProofs only [h0, vmp,↓vmd,seval]
        refine onBk_to (i + 1) [0, 1] (by simp) rfl (by omega) ⟨hlt, miss⟩ (by simp -implicitDefEqProofs only [next_at hlt (by omega), kpp,seval]) (by simp -implicitDefEqProofs only [kpp,seval])
      | true =>
        cases b2 with
        | false =>
          have miss := miss (by rw [hst]; rfl)
          first | refine envO (by simp -implicitDefEqProofs only [h0, vmp,↓vmd,seval]; rfl) ?_ | refine envQ (by simp -implicitDefEqProofs only [h0, vmp,↓vmd,seval]; rfl) ?_
          simp -implicitDefEqProofs only [h0, vmp,↓vmd,seval]
          refine onBk_to (i + 1) [0, 1] (by simp) rfl (by omega) ⟨hlt, miss⟩ (by simp -implicitDefEqProofs only [next_at hlt (by omega), kpp,seval]) (by simp -implicitDefEqProofs only [kpp,seval])
        | true =>
          have hit := hit (by rw [hst]; rfl)
          subst hit
          first | refine envO (by simp -implicitDefEqProofs only [h0, vmp,↓vmd,seval]; rfl) ?_ | refine envQ (by simp -implicitDefEqProofs only [h0, vmp,↓vmd,seval]; rfl) ?_
          simp -implicitDefEqProofs only [h0, vmp,↓vmd,seval]
          exact gives_tup rfl (by simp)
    · rw [decide_eq_false h0] at hst
      have miss := miss (by rw [hst]; simp)
      first | refine envO (by simp -implicitDefEqProofs only [h0, vmp,↓vmd,seval]; rfl) ?_ | refine envQ (by simp -implicitDefEqProofs only [h0, vmp,↓vmd,seval]; rfl) ?_
      simp -implicitDefEqProofs only [h0, vmp,↓vmd,seval]
      refine onBk_to (i + 1) [0, 1] (by simp) rfl (by omega) ⟨hlt, miss⟩ (by simp -implicitDefEqProofs only [next_at hlt (by omega), kpp,seval]) (by simp -implicitDefEqProofs only [kpp,seval])
  · rw [List.drop_of_length_le (by omega), goR] at hr
    subst hr
    simp -implicitDefEqProofs only [h4, vmp,↓vmd,seval]
    unfold c23_0
    simp -implicitDefEqProofs only [vmp,↓vmd,seval]
    exact gives_tup rfl (by simp)
end Go.Proofs.Ytcjmkpkhjhjepaa.W
