/-
  The abstract machine, part 20: regions that draw their order, whole; calls with data.
-/
import Derived.Test.YtjgodncjlffhjaaVm19
namespace Go.Vm
open Go Go.RowKit

/-- the translation's look at a region, and what it is good for -/
def RCs : Array Oper → List AI → Option Nat := regC
def RQs (P : Program) (pre post : List AI) (K : Env → Heap → Prop) : Env → Heap → Prop := aQs P pre (aOps P post K)

theorem count_set {listed : Array Bool} {i : Nat} (hi : i < listed.size) (h : listed.getD i false = false) : (listed.setIfInBounds i true).toList.countP (fun b => !b) + 1 = listed.toList.countP (fun b => !b) := by
  have hi' : i < listed.toList.length := by simpa using hi
  have hv : listed.toList[i] = false := by
    rw [Array.getD_eq_getD_getElem?, Array.getElem?_eq_getElem hi] at h
    simpa using h
  rw [Array.toList_setIfInBounds, List.countP_set hi']
  have hpos : 0 < listed.toList.countP (fun b => !b) := by
    rw [List.countP_pos_iff]
    exact ⟨listed.toList[i], List.getElem_mem _, by rw [hv]; rfl⟩
  have hv2 : listed[i] = false := by simpa using hv
  simp only [Array.getElem_toList, hv2, Bool.not_false, Bool.not_true, if_true, Bool.false_eq_true, if_false]
  omega
theorem count_zero {listed : Array Bool} (h : listed.toList.countP (fun b => !b) = 0) (i : Nat) (hi : i < listed.size) : listed.getD i false = true := by
  rw [List.countP_eq_zero] at h
  have := h listed.toList[i] (List.getElem_mem _)
  rw [Array.getD_eq_getD_getElem?, Array.getElem?_eq_getElem hi]
  simpa using this

section
variable {P : Program} {w0 : World} {X0 : Nat → Prop} {μ0 : Mu} {n0 n : Nat} {ops : Array Oper} {is : List AI} {K0 : Env → Heap → Prop} {Q : Exit → Act → World → Prop}

theorem tail_any (K : Looked n ops is) (hc : cReg P n0 ops ops.toList = some is) (hQ : ∀ a w, Lands w0 X0 μ0 n0 K0 a w → Q .normal a w) : ∀ (fuel k : Nat) (listed : Array Bool), n ≤ k → listed.size = ops.size → Closed ops (fun j => listed.getD j false) →
    (∀ j, j < k → j < ops.size → listed.getD j false = true) → (∀ j, k ≤ j → listed.getD j false = false) → listed.toList.countP (fun b => !b) ≤ fuel →
    ∀ {env : Env} {H : Heap} {a : Act} {w : World} {μ : Mu}, Rel w0 X0 μ0 n0 env H a w μ → aOps P (is.drop k) K0 env H → wpAny P .any ops Q fuel listed a w := by
  intro fuel
  induction fuel with
  | zero =>
    intro k listed hk hs hcl hlo hhi hcnt env H a w μ hrel hops
    have hall := count_zero (Nat.le_zero.1 hcnt)
    obtain ⟨hlen, _⟩ := cReg_get hc
    have hNk : ops.size ≤ k := by
      rcases Nat.lt_or_ge k ops.size with h | h
      · have h1 := hall k (by omega)
        rw [hhi k (Nat.le_refl _)] at h1
        cases h1
      · exact h
    have hnil : is.drop k = [] := List.drop_eq_nil_of_le (by rw [← hlen]; simpa using hNk)
    rw [hnil] at hops
    refine wpAny_done ?_ (hQ a w ⟨env, H, μ, hops, hrel⟩) 0
    rw [List.eq_nil_iff_forall_not_mem]
    intro j hj
    obtain ⟨o, ho, h1, _⟩ := (ready_iff hs).1 hj
    rw [hall j (by rw [hs]; exact (Array.getElem?_eq_some_iff.1 ho).1)] at h1
    cases h1
  | succ fuel ih =>
    intro k listed hk hs hcl hlo hhi hcnt env H a w μ hrel hops
    obtain ⟨hlen, hget⟩ := cReg_get hc
    rcases Nat.lt_or_ge k ops.size with hkN | hkN
    · have hok : ops[k]? = some ops[k] := Array.getElem?_eq_getElem hkN
      obtain ⟨ai, hai, hci⟩ := hget k ops[k] (by simp)
      have hdrop : is.drop k = ai :: is.drop (k + 1) := by
        have hkl := (List.getElem?_eq_some_iff.1 hai).1
        rw [List.drop_eq_getElem_cons hkl]
        congr 1
        exact (List.getElem?_eq_some_iff.1 hai).2
      rw [hdrop] at hops
      have hready : k ∈ Region.ready .any ops listed := (ready_iff hs).2 ⟨_, hok, hhi k (Nat.le_refl _), fun d hd => by
        have := K.lex k _ hok d hd
        exact hlo d this (by omega)⟩
      refine ⟨(fun h => by rw [h] at hready; cases hready), fun i hi => ?_⟩
      obtain ⟨o, ho, h1, h2⟩ := (ready_iff hs).1 hi
      have hiN := (Array.getElem?_eq_some_iff.1 ho).1
      have hik : i = k := by
        rcases Nat.lt_trichotomy i k with h | h | h
        · rw [hlo i h hiN] at h1; cases h1
        · exact h
        · have := K.full i k o (by omega) h ho _ hcl h2
          rw [hhi k (Nat.le_refl _)] at this
          cases this
      subst hik
      rw [hok] at ho
      cases ho
      have hset := setL (listed := listed) (i := i) (by omega)
      refine wpOp_mono ?_ (ins_sound hrel hci hops hok)
      rintro a' w' ⟨env', H', μ', h3, h4⟩
      refine ih (i + 1) _ (by omega) (by simpa using hs) ?_ (fun j hj hjN => ?_) (fun j hj => ?_) ?_ h4 h3
      · intro j oj hj hjl d hd
        simp only [hset] at hjl ⊢
        by_cases hji : j = i
        · subst hji
          rw [hok] at hj
          cases hj
          have := h2 d hd
          split
          · rfl
          · exact this
        · rw [if_neg hji] at hjl
          have := hcl j oj hj hjl d hd
          split
          · rfl
          · exact this
      · rw [hset]
        split
        · rfl
        · exact hlo j (by omega) hjN
      · rw [hset, if_neg (by omega)]
        exact hhi j (by omega)
      · have := count_set (listed := listed) (i := i) (by omega) h1
        omega
    · have hnil : is.drop k = [] := List.drop_eq_nil_of_le (by rw [← hlen]; simpa using hkN)
      rw [hnil] at hops
      refine wpAny_done ?_ (hQ a w ⟨env, H, μ, hops, hrel⟩) _
      rw [List.eq_nil_iff_forall_not_mem]
      intro j hj
      obtain ⟨o, ho, h1, _⟩ := (ready_iff hs).1 hj
      have hjN := (Array.getElem?_eq_some_iff.1 ho).1
      rw [hlo j (by omega) hjN] at h1
      cases h1

theorem prefix_any (K : Looked n ops is) (hc : cReg P n0 ops ops.toList = some is) (hQ : ∀ a w, Lands w0 X0 μ0 n0 K0 a w → Q .normal a w) {qs : List QI} {env : Env} {H : Heap} (hrun : QRun P (is.take n) qs env H)
    (hops : aOps P (is.drop n) K0 (envOf (is.take n) qs env) (heapOf qs H)) : ∀ (fuel : Nat) (listed : Array Bool), listed.size = ops.size → listed.toList.countP (fun b => !b) ≤ fuel →
    ∀ {a : Act} {w : World} {μ : Mu}, Inv P w0 X0 μ0 n0 n ops is qs env H (fun j => listed.getD j false) a w μ → wpAny P .any ops Q fuel listed a w := by
  obtain ⟨hlen, hget⟩ := cReg_get hc
  have hisl : is.length = ops.size := by rw [← hlen]; simp
  have hql : qs.length = n := by rw [← hrun.len, List.length_take]; have := K.le; omega
  intro fuel
  induction fuel with
  | zero =>
    intro listed hs hcnt a w μ hinv
    have hall := count_zero (Nat.le_zero.1 hcnt)
    by_cases hN : n < ops.size
    · have h1 := hinv.tail n (Nat.le_refl _)
      rw [hall n (by omega)] at h1
      cases h1
    · -- every operation has been carried out
      have hall' : ∀ j, j < n → listed.getD j false = true := fun j hj => hall j (by have := K.le; omega)
      have hheap : heapL qs H (fun j => listed.getD j false) = heapOf qs H := by
        apply List.ext_getElem?
        intro b
        refine heapL_of ?_
        cases hda : deadAt qs H (fun j => listed.getD j false) b with
        | false => rfl
        | true =>
          obtain ⟨j, q, g1, g2, _, _⟩ := deadAt_true hda
          have := (List.getElem?_eq_some_iff.1 g1).1
          rw [hall' j (by omega)] at g2
          cases g2
      have hrel : Rel w0 X0 μ0 n0 (envOf (is.take n) qs env) (heapOf qs H) a w μ := by
        rw [← hheap]
        refine ⟨hinv.tmps, hinv.defers, fun t => ?_, hinv.heap, hinv.fr, hinv.own, hinv.pre, hinv.xo⟩
        by_cases hex : ∃ (j : Nat) (aj : AI), j < n ∧ is[j]? = some aj ∧ aj.dst = some t
        · obtain ⟨j, aj, hj, haj, hd⟩ := hex
          obtain ⟨qj, hqj⟩ : ∃ q, qs[j]? = some q := ⟨_, List.getElem?_eq_getElem (by omega)⟩
          rw [envOf_at (is.take n) qs env t j aj qj (by rw [List.getElem?_take_of_lt hj]; exact haj) hqj hd (fun k ak hk hak hdk => by
            have hkn : k < n := by
              have := (List.getElem?_eq_some_iff.1 hak).1
              simp at this
              omega
            rw [List.getElem?_take_of_lt hkn] at hak
            have := K.uniq j k aj ak t hj hkn haj hak hd hdk
            omega)]
          exact hinv.done j qj aj t hj hqj haj (hall' j hj) hd
        · rw [envOf_other (is.take n) qs env t (fun ak hak hdk => by
            obtain ⟨k, hk, rfl⟩ := List.mem_iff_getElem.1 hak
            simp at hk
            exact hex ⟨k, is[k], by omega, List.getElem?_eq_getElem (by omega), by simpa using hdk⟩)]
          exact hinv.other t fun j aj hj haj _ hd => hex ⟨j, aj, hj, haj, hd⟩
      exact tail_any K hc hQ 0 n listed (Nat.le_refl _) hs hinv.closed (fun j hj _ => hall' j hj) hinv.tail hcnt hrel hops
  | succ fuel ih =>
    intro listed hs hcnt a w μ hinv
    by_cases hex : ∃ j, j < n ∧ listed.getD j false = false
    · obtain ⟨j, ⟨hj, hjl⟩, hmin⟩ := least hex
      have hjN : j < ops.size := by have := K.le; omega
      have hready : j ∈ Region.ready .any ops listed := (ready_iff hs).2 ⟨_, Array.getElem?_eq_getElem hjN, hjl, fun d hd => by
        have hdj := K.lex j _ (Array.getElem?_eq_getElem hjN) d hd
        cases hdl : listed.getD d false with
        | true => rfl
        | false => have := hmin d ⟨by omega, hdl⟩; omega⟩
      refine ⟨(fun h => by rw [h] at hready; cases hready), fun i hi => ?_⟩
      obtain ⟨o, ho, h1, h2⟩ := (ready_iff hs).1 hi
      have hiN := (Array.getElem?_eq_some_iff.1 ho).1
      have hin : i < n := by
        rcases Nat.lt_or_ge i n with h | h
        · exact h
        · have := K.full i j o h (by omega) ho _ hinv.closed h2
          rw [hjl] at this
          cases this
      refine wpOp_mono ?_ (inv_step K hc hrun hs hinv hin hi)
      rintro a' w' ⟨μ', h3⟩
      refine ih _ (by simpa using hs) ?_ h3
      have := count_set (listed := listed) (i := i) (by omega) h1
      omega
    · have hall' : ∀ j, j < n → listed.getD j false = true := fun j hj => by
        cases h : listed.getD j false with
        | true => rfl
        | false => exact absurd ⟨j, hj, h⟩ hex
      have hheap : heapL qs H (fun j => listed.getD j false) = heapOf qs H := by
        apply List.ext_getElem?
        intro b
        refine heapL_of ?_
        cases hda : deadAt qs H (fun j => listed.getD j false) b with
        | false => rfl
        | true =>
          obtain ⟨j, q, g1, g2, _, _⟩ := deadAt_true hda
          have := (List.getElem?_eq_some_iff.1 g1).1
          rw [hall' j (by omega)] at g2
          cases g2
      have hrel : Rel w0 X0 μ0 n0 (envOf (is.take n) qs env) (heapOf qs H) a w μ := by
        rw [← hheap]
        refine ⟨hinv.tmps, hinv.defers, fun t => ?_, hinv.heap, hinv.fr, hinv.own, hinv.pre, hinv.xo⟩
        by_cases hex : ∃ (j : Nat) (aj : AI), j < n ∧ is[j]? = some aj ∧ aj.dst = some t
        · obtain ⟨j, aj, hj, haj, hd⟩ := hex
          obtain ⟨qj, hqj⟩ : ∃ q, qs[j]? = some q := ⟨_, List.getElem?_eq_getElem (by omega)⟩
          rw [envOf_at (is.take n) qs env t j aj qj (by rw [List.getElem?_take_of_lt hj]; exact haj) hqj hd (fun k ak hk hak hdk => by
            have hkn : k < n := by
              have := (List.getElem?_eq_some_iff.1 hak).1
              simp at this
              omega
            rw [List.getElem?_take_of_lt hkn] at hak
            have := K.uniq j k aj ak t hj hkn haj hak hd hdk
            omega)]
          exact hinv.done j qj aj t hj hqj haj (hall' j hj) hd
        · rw [envOf_other (is.take n) qs env t (fun ak hak hdk => by
            obtain ⟨k, hk, rfl⟩ := List.mem_iff_getElem.1 hak
            simp at hk
            exact hex ⟨k, is[k], by omega, List.getElem?_eq_getElem (by omega), by simpa using hdk⟩)]
          exact hinv.other t fun j aj hj haj _ hd => hex ⟨j, aj, hj, haj, hd⟩
      exact tail_any K hc hQ (fuel + 1) n listed (Nat.le_refl _) hs hinv.closed (fun j hj _ => hall' j hj) hinv.tail hcnt hrel hops
end

/-- EVERY ORDER. -/
theorem regQ (P : Program) : RegQ P (RQs P) RCs := by
  intro w0 X0 μ0 n ops is k rid K Q env H a w μ hm hQ hc hr hrel hq
  have hm' : P.follows .mixedOrders = true := hm
  obtain ⟨hlen, _⟩ := cReg_get hc
  have L := regC_looked (by rw [← hlen]; simp) hr
  obtain ⟨qs, hrun, hops⟩ := aQs_inv (is.take k) hq
  refine wp_region_any hm' ?_
  have hql : qs.length = k := by rw [← hrun.len, List.length_take]; have := L.le; simp at hlen; omega
  have hfalse : ∀ j, (Array.replicate ops.size false).getD j false = false := by
    intro j
    simp only [Array.getD_eq_getD_getElem?, Array.getElem?_replicate]
    split <;> rfl
  refine prefix_any L hc hQ hrun hops ops.size _ (by simp) (by simp [List.countP_replicate]) (μ := μ) ?_
  have hk : Keeps (excl μ H) w w.drew := Keeps.drew _ _
  obtain ⟨R, hR, _⟩ := heapOf_append qs H
  have old : ∀ (b : Nat) (r : Row), (heapL qs H fun j => (Array.replicate ops.size false).getD j false)[b]? = some r → r.st ≠ .dead → H[b]? = some r := by
    intro b r hb hd
    obtain ⟨h1, h2⟩ := heapL_alive hb hd
    rcases Nat.lt_or_ge b H.length with h | h
    · rw [hR, List.getElem?_append_left h] at h2
      exact h2
    · -- a row of an operation that has not been carried out
      exfalso
      have : ∀ (qs : List QI) (H : Heap) (b : Nat) (r : Row), H.length ≤ b → (heapOf qs H)[b]? = some r → ∃ j q, qs[j]? = some q ∧ q.row.isSome = true ∧ nameAt qs H j = b := by
        intro qs
        induction qs with
        | nil =>
          intro H b r hb hr
          simp only [heapOf] at hr
          have := (List.getElem?_eq_some_iff.1 hr).1
          omega
        | cons q qs ih =>
          intro H b r hb hr
          simp only [heapOf] at hr
          rcases Nat.lt_or_ge b (H ++ q.row.toList).length with h | h
          · refine ⟨0, q, rfl, ?_, ?_⟩
            · cases hq : q.row with
              | none => rw [hq] at h; simp at h; omega
              | some _ => rfl
            · cases hq : q.row with
              | none => rw [hq] at h; simp at h; omega
              | some _ => rw [hq] at h; simp at h; simp [nameAt, heapOf]; omega
          · obtain ⟨j, q', g1, g2, g3⟩ := ih _ b r h hr
            exact ⟨j + 1, q', by simpa using g1, g2, by simpa [nameAt, heapOf] using g3⟩
      obtain ⟨j, q, g1, g2, g3⟩ := this qs H b r h h2
      rw [← g3, deadAt_of g1 (hfalse j) g2] at h1
      cases h1
  have ho : ∀ k, owned μ (heapL qs H fun j => (Array.replicate ops.size false).getD j false) k → owned μ H k := by
    rintro k ⟨b, r, l, hb, hst, hl, hv, rfl⟩
    exact ⟨b, r, l, old b r hb (by rw [hst]; decide), hst, hl, hv, rfl⟩
  have keep : ∀ {u : Value} {s : S}, Rep w (excl μ H) μ u s → Rep w.drew (excl μ (heapL qs H fun j => (Array.replicate ops.size false).getD j false)) μ u s :=
    fun h => h.keeps hk (fun k hk' => .inl (hk'.imp (ho k) id)) (fun _ _ h => h)
  refine ⟨fun i o _ hL => ?_, fun k _ => hfalse k, hrel.tmps, hrel.defers, fun j q i t _ _ _ hL _ => ?_, fun t _ => keep (hrel.env t), ?_, fun j q hj _ hr => ?_, ?_, fun k hk' => hrel.own k (ho k hk'), hrel.pre, hrel.xo⟩
  · simp only [hfalse] at hL; cases hL
  · simp only [hfalse] at hL; cases hL
  · refine hrel.heap.drew.alter (Keeps.drew _ _) (fun k hk' => .inl (ho k hk')) (fun _ _ h => h) rfl (Nat.le_refl _) ?_ (fun b r l hb hd hl => .inr ⟨old b r hb hd, hl, fun _ _ => rfl⟩) ?_
    · intro b l hb
      rw [heapL_len, hR, List.length_append]
      have := hrel.heap.dom b l hb
      omega
    · intro b b' r r' l l' hb hb' hst hst' hl hl' hv hv' heq
      exact hrel.heap.inj b b' r r' l l' (old b r hb (by rw [hst]; decide)) (old b' r' hb' (by rw [hst']; decide)) hst hst' hl hl' hv hv' heq
  · cases hn : μ (nameAt qs H j) with
    | none => rfl
    | some l =>
      have := hrel.heap.dom _ l hn
      have := nameAt_ge (qs := qs) (H := H) j
      omega
  · exact ⟨hrel.fr.os, hrel.fr.tape, hrel.fr.output, hrel.fr.size, fun k hk' hx => hrel.fr.keep k hk' hx⟩
end Go.Vm
