/-
  Where a host takes marks: the program's function. No condition but on sizes.
-/
import Derived.Test.YtcjmkpkhjhjepaaGreatPMk2
namespace Go.Proofs.YtcjmkpkhjhjepaaGreat.W
open Go Go.Vm Go.Proofs
set_option maxRecDepth 100000
set_option linter.unusedSimpArgs false
set_option maxHeartbeats 4000000
/-! typecase/marks.Anchor -/
def c85 : AC :=
 (.seq (.reg [oo 5 (.box (.s 0)),
 oo 7 (.box (.s 2)),
 oo 10 (.box (.c (.pure (.agg [(.int .i64 0), (.int .i64 0)])))),
 oo 11 (.mov (nB false))])
 (.seq (.seq (.reg [oo 14 (.mov (.s 1)),
 oo 15 (.bin .lss (.s 14) (nI 0)),
 oo 16 (.mov (.s 15)),
 og 17 16 false (.mov (.s 1)),
 og 18 16 false (.fldA 3 (.s 5)),
 og 19 16 false (.load false 1 (.s 18)),
 og 20 16 false (.len (.s 19)),
 og 21 16 false (.bin .geq (.s 17) (.s 20)),
 oo 22 (.pick (.s 16) (nB true) (.s 21))])
 (.cond (.s 22)
 (.seq (.reg [oo 23 (.build [(pI 0), (pI 0)] []),
⟨none, none, .store 2 (.s 10) (.s 23)⟩,
 oo 11 (.mov (nB false))])
 .ret)
 .skip))
 (.seq (.reg [oo 24 (.fldA 3 (.s 5)),
 oo 25 (.load false 1 (.s 24)),
 oo 26 (.mov (.s 1)),
 oo 27 (.idxA 12 (.s 25) (.s 26)),
 oo 28 (.fldA 11 (.s 27)),
 oo 29 (.load false 1 (.s 28)),
 oo 30 (.mkfn (.func 112) [] [(.s 7)]),
 oo 31 (.call 111 [(.s 29), (.s 30)]),
 oo 12 (.mov (.s 31))])
 (.seq (.seq (.reg [oo 32 (.mov (.s 12)),
 oo 33 (.bin .lss (.s 32) (nI 0))])
 (.cond (.s 33)
 (.seq (.reg [oo 34 (.build [(pI 0), (pI 0)] []),
⟨none, none, .store 2 (.s 10) (.s 34)⟩,
 oo 11 (.mov (nB false))])
 .ret)
 .skip))
 (.seq (.reg [oo 35 (.fldA 3 (.s 5)),
 oo 36 (.load false 1 (.s 35)),
 oo 37 (.mov (.s 1)),
 oo 38 (.idxA 12 (.s 36) (.s 37)),
 oo 39 (.fldA 11 (.s 38)),
 oo 40 (.load false 1 (.s 39)),
 oo 41 (.mov (.s 12)),
 oo 42 (.idxA 2 (.s 40) (.s 41)),
 oo 43 (.fldA 1 (.s 42)),
 oo 44 (.load false 1 (.s 43)),
 oo 13 (.mov (.s 44))])
 (.seq (.seq (.reg [oo 45 (.fldA 0 (.s 5)),
 oo 46 (.load false 1 (.s 45)),
 oo 47 (.bin .neq (.s 46) (nI 10))])
 (.cond (.s 47)
 (.reg [oo 4 (.mov (nI 0))])
 (.seq (.reg [oo 48 (.mov (.s 4)),
 oo 49 (.bin .lss (.s 48) (nI 0)),
 oo 50 (.mov (.s 49)),
 og 51 50 false (.mov (.s 4)),
 og 52 50 false (.mov (.s 13)),
 og 53 50 false (.len (.s 52)),
 og 54 50 false (.bin .geq (.s 51) (.s 53)),
 oo 55 (.pick (.s 50) (nB true) (.s 54))])
 (.cond (.s 55)
 (.reg [oo 56 (.mov (.s 13)),
 oo 57 (.len (.s 56)),
 oo 58 (.bin .sub (.s 57) (nI 1)),
 oo 4 (.mov (.s 58))])
 .skip))))
 (.seq (.seq (.reg [oo 59 (.mov (.s 4)),
 oo 60 (.bin .lss (.s 59) (nI 0)),
 oo 61 (.mov (.s 60)),
 og 62 61 false (.mov (.s 4)),
 og 63 61 false (.mov (.s 13)),
 og 64 61 false (.len (.s 63)),
 og 65 61 false (.bin .geq (.s 62) (.s 64)),
 oo 66 (.pick (.s 61) (nB true) (.s 65)),
 oo 67 (.mov (.s 66)),
 og 68 67 false (.mov (.s 3)),
 og 69 67 false (.bin .lss (.s 68) (nI 0)),
 oo 70 (.pick (.s 67) (nB true) (.s 69)),
 oo 71 (.mov (.s 70)),
 og 72 71 false (.mov (.s 3)),
 og 73 71 false (.mov (.s 13)),
 og 74 71 false (.mov (.s 4)),
 og 75 71 false (.idxA 1 (.s 73) (.s 74)),
 og 76 71 false (.load false 1 (.s 75)),
 og 77 71 false (.len (.s 76)),
 og 78 71 false (.bin .geq (.s 72) (.s 77)),
 oo 79 (.pick (.s 71) (nB true) (.s 78)),
 oo 80 (.mov (.s 79)),
 og 81 80 false (.mov (.s 13)),
 og 82 80 false (.mov (.s 4)),
 og 83 80 false (.idxA 1 (.s 81) (.s 82)),
 og 84 80 false (.load false 1 (.s 83)),
 og 85 80 false (.mov (.s 3)),
 og 86 80 false (.idxA 3 (.s 84) (.s 85)),
 og 87 80 false (.fldA 0 (.s 86)),
 og 88 80 false (.load false 1 (.s 87)),
 og 89 80 false (.un .not (.s 88)),
 oo 90 (.pick (.s 80) (nB true) (.s 89))])
 (.cond (.s 90)
 (.seq (.reg [oo 91 (.build [(pI 0), (pI 0)] []),
⟨none, none, .store 2 (.s 10) (.s 91)⟩,
 oo 11 (.mov (nB false))])
 .ret)
 .skip))
 (.seq (.reg [oo 92 (.mov (.s 13)),
 oo 93 (.mov (.s 4)),
 oo 94 (.idxA 1 (.s 92) (.s 93)),
 oo 95 (.load false 1 (.s 94)),
 oo 96 (.mov (.s 3)),
 oo 97 (.idxA 3 (.s 95) (.s 96)),
 oo 98 (.fldA 1 (.s 97)),
 oo 99 (.load true 2 (.s 98)),
⟨none, none, .store 2 (.s 10) (.s 99)⟩,
 oo 11 (.mov (nB true))])
 .ret))))))))
theorem k85 : OkF 85 Tryz.f85 c85 [.c 10 true 2, .t 11] 100 := ⟨Tryz.func85, by kernel_rfl, by kernel_rfl, by kernel_rfl, Tryz.ntmps85⟩
def ancR (o : Option (Int × Int)) : List V := [.agg [I (o.getD (0, 0)).1, I (o.getD (0, 0)).2], .bool o.isSome]
def compM (kind : Int) (n : Nat) (comp : Int) : Int := if kind ≠ 10 then 0 else if comp < 0 ∨ (n : Int) ≤ comp then (n : Int) - 1 else comp
theorem spotF_nil {c : Int} : spotF [] c = none := by
 rw [spotF]
 split <;> rfl
theorem spotF_at {l : List Spt} {c : Int} (h0 : 0 ≤ c) (h1 : c < l.length) : spotF l c = if (l[c.toNat]'(by omega)).has = true then some ((l[c.toNat]'(by omega)).x, (l[c.toNat]'(by omega)).y) else none := by
 rw [spotF, if_neg (by omega), List.getElem?_eq_getElem (by omega)]
theorem spotF_out {l : List Spt} {c : Int} (h : c < 0 ∨ (l.length : Int) ≤ c) : spotF l c = none := by
 rw [spotF]
 split
 ·rfl
 ·rw [List.getElem?_eq_none (by omega)]
theorem spotsF_out {kind comp : Int} {l : List (List Spt)} (h : compM kind l.length comp < 0 ∨ (l.length : Int) ≤ compM kind l.length comp) : spotsF kind l comp = [] := by
 have h0 : l = [] := by
  rw [compM] at h
  refine List.eq_nil_of_length_eq_zero ?_
  split at h
  ·omega
  ·split at h <;> omega
 subst h0
 simp [spotsF]
theorem spotsF_at {kind comp : Int} {l : List (List Spt)} (h0 : 0 ≤ compM kind l.length comp) (h1 : compM kind l.length comp < l.length) : spotsF kind l comp = l[(compM kind l.length comp).toNat]'(by omega) := by
 have key : ∀ n : Nat, n = (compM kind l.length comp).toNat → (l[n]?).getD [] = l[(compM kind l.length comp).toNat]'(by omega) := by
  intro n hn
  subst hn
  rw [List.getElem?_eq_getElem (by omega)]
  rfl
 rw [spotsF]
 split
 ·refine key 0 ?_
  rw [compM, if_pos (by assumption)]; rfl
 ·rename_i hk
  split
  ·refine key _ ?_
   rw [compM, if_neg hk, if_pos (by assumption)]
   omega
  ·refine key _ ?_
   rw [compM, if_neg hk, if_neg (by assumption)]
theorem getE {α : Type} {f : α → V} {l : List α} {y : Int} (h0 : 0 ≤ y) (h1 : y < l.length) : (l.map f)[y.toNat]? = some (f (l[y.toNat]'(by omega))) := by
 rw [List.getElem?_map, List.getElem?_eq_getElem (by omega)]; rfl
theorem anchorF_at {k : Lk} {sb host cls comp : Int} (h0 : 0 ≤ sb) (h1 : sb < k.subs.length) : anchorF k sb host cls comp = match findHo (k.subs[sb.toNat]'(by omega)).hosts host with
   | some h => spotF (spotsF k.kind h.spots comp) cls
   | none => none := by
 rw [anchorF, if_neg (by omega), List.getElem?_eq_getElem (by omega)]
 rfl
theorem anchor_q (k : Lk) (hs : ∀ s ∈ k.subs, s.hosts.length ≤ 5000) (sb host cls comp : Int) : FnQ Tryz.prog 85 [lk k, I sb, I host, I cls, I comp] (ancR (anchorF k sb host cls comp)) := by
 refine k85.q (by simp) ?_
 unfold c85
 simp only [*, vmp,↓vmd,seval]
 refine onB_dec (fun h0 => ?_) (fun h0 => ?_)
 ·simp only [h0, vmp,↓vmd,seval]
  rw [show anchorF k sb host cls comp = none by rw [anchorF, if_pos h0]]
  exact gives_tup rfl (by simp)
 simp only [h0, vmp,↓vmd,seval]
 refine onIf_intro fun _ => ?_
 simp only [h0, vmp,↓vmd,seval]
 refine onB_dec (fun h1 => ?_) (fun h1 => ?_)
 ·simp only [h0, h1, vmp,↓vmd,seval]
  rw [show anchorF k sb host cls comp = none by rw [anchorF, if_neg h0, List.getElem?_eq_none (by omega)]]
  exact gives_tup rfl (by simp)
 have b0 : 0 ≤ sb := by omega
 have b1 : sb < k.subs.length := by omega
 have hv := anchorF_at (host := host) (cls := cls) (comp := comp) b0 b1
 obtain ⟨s, hse⟩ : ∃ s, s = k.subs[sb.toNat]'(by omega) := ⟨_, rfl⟩
 have hg : (k.subs.map sub)[sb.toNat]? = some (sub s) := by rw [hse]; exact getE b0 b1
 have hh : s.hosts.length ≤ 5000 := hs s (by rw [hse]; exact List.getElem_mem _)
 rw [← hse] at hv
 generalize anchorF k sb host cls comp = out at hv
 simp only [h0, h1, b0, b1, hg, vmp,↓vmd,seval]
 refine onC_fr (ixho_c host s.hosts hh) [1] (by simp) (by simp only [kpp,seval]) rfl rfl (by simp) ?_
 (first | apply envO | apply envQ); simp only [vmp,↓vmd,seval]; rfl
 simp only [vmp,↓vmd,seval]
 rcases ix_ho host s.hosts 0 with ⟨h2, h3⟩ | ⟨i, hi, h2, h3⟩
 ·rw [h3] at hv
  subst hv
  simp only [h2, vmp,↓vmd,seval]
  exact gives_tup rfl (by simp)
 rw [h3] at hv
 rw [Nat.zero_add] at h2
 have hgi : (s.hosts.map ho)[i]? = some (ho s.hosts[i]) := map_at hi
 generalize s.hosts[i] = h at hv hgi
 simp only at hv
 have i0 : ¬ (i : Int) < 0 := by omega
 simp only [h0, h1, b0, b1, hg, h2, i0, hgi, Int.natCast_nonneg, vmp,↓vmd,seval]
 by_cases h10 : k.kind = 10
 ·simp only [h10, vmp,↓vmd,seval]
  have non : compM k.kind h.spots.length comp < 0 ∨ (h.spots.length : Int) ≤ compM k.kind h.spots.length comp → out = none := fun e => by rw [hv, spotsF_out e, spotF_nil]
  refine onB_dec (fun h8 => ?_) (fun h8 => ?_)
  ·simp only [h8, vmp,↓vmd,seval]
   refine onIf_intro fun hl => ?_
   have w : IntKind.wrap .i64 ((h.spots.length : Int) - 1) = (h.spots.length : Int) - 1 := wrap_id (by omega) (by omega)
   simp only [h8, w, vmp,↓vmd,seval]
   refine onB_dec (fun h9 => ?_) (fun h9 => ?_)
   ·rw [non (.inl (by simp only [compM, h10]; simp only [ne_eq, not_true_eq_false, if_false]; rw [if_pos (.inl h8)]; exact h9))]
    simp only [h8, h9, w, vmp,↓vmd,seval]
    exact gives_tup rfl (by simp)
   have w0 : 0 ≤ ((h.spots.length : Int) - 1) := by omega
   have w1 : ((h.spots.length : Int) - 1) < h.spots.length := by omega
   have n0 : ¬ ((h.spots.length : Int) - 1) < 0 := by omega
   have n1 : ¬ (h.spots.length : Int) ≤ ((h.spots.length : Int) - 1) := by omega
   have hc : compM k.kind h.spots.length comp = ((h.spots.length : Int) - 1) := by simp only [compM, ne_eq, h10, not_true_eq_false, not_false_eq_true, if_true, if_false]; rw [if_pos (.inl h8)]
   have hsp := spotsF_at (kind := k.kind) (l := h.spots) (comp := comp) (by rw [hc]; exact w0) (by rw [hc]; exact w1)
   have hgl := getE (f := spr) w0 w1
   simp only [hc] at hsp
   rw [← hsp] at hgl
   generalize spotsF k.kind h.spots comp = l at hv hgl
   simp only [h8, h9, w, n0, n1, w0, w1, vmp,↓vmd,seval]
   refine onIf_intro fun _ => ?_
   (first | apply envO | apply envQ); simp only [vmp,↓vmd,seval]; rfl
   simp only [h8, h9, w, n0, n1, w0, w1, vmp,↓vmd,seval]
   refine onB_dec (fun h5 => ?_) (fun h5 => ?_)
   ·rw [spotF_out (.inl h5)] at hv
    subst hv
    simp only [h8, h9, w, n0, n1, h5, w0, w1, vmp,↓vmd,seval]
    exact gives_tup rfl (by simp)
   simp only [h8, h9, w, n0, n1, h5, w0, w1, hgl, vmp,↓vmd,seval]
   refine onIf_intro fun _ => ?_
   (first | apply envO | apply envQ); simp only [vmp,↓vmd,seval]; rfl
   simp only [h8, h9, w, n0, n1, h5, w0, w1, vmp,↓vmd,seval]
   refine onB_dec (fun h6 => ?_) (fun h6 => ?_)
   ·rw [spotF_out (.inr h6)] at hv
    subst hv
    simp only [h8, h9, w, n0, n1, h5, h6, w0, w1, vmp,↓vmd,seval]
    exact gives_tup rfl (by simp)
   have x0 : 0 ≤ cls := by omega
   have x1 : cls < l.length := by omega
   have hgs := getE (f := spt) x0 x1
   rw [spotF_at x0 x1] at hv
   generalize l[cls.toNat]'(by omega) = q at hv hgs
   simp only [h8, h9, w, n0, n1, h5, h6, w0, w1, hgl, x0, x1, hgs, vmp,↓vmd,seval]
   have two : q.has = false ∨ q.has = true := by cases q.has <;> simp
   rcases two with h7 | h7
   ·rw [if_neg (by rw [h7]; simp)] at hv
    subst hv
    simp only [h8, h9, w, n0, n1, h5, h6, h7, w0, w1, vmp,↓vmd,seval]
    exact gives_tup rfl (by simp)
   ·rw [if_pos h7] at hv
    subst hv
    simp only [h8, h9, w, n0, n1, h5, h6, h7, w0, w1, hgl, x0, x1, hgs, vmp,↓vmd,seval]
    exact gives_tup rfl (by simp)
  simp only [h8, vmp,↓vmd,seval]
  refine onIf_intro fun hl => ?_
  (first | apply envO | apply envQ); simp only [vmp,↓vmd,seval]; rfl
  simp only [h8, vmp,↓vmd,seval]
  refine onB_dec (fun h9 => ?_) (fun h9 => ?_)
  ·have w : IntKind.wrap .i64 ((h.spots.length : Int) - 1) = (h.spots.length : Int) - 1 := wrap_id (by omega) (by omega)
   simp only [h8, h9, w, vmp,↓vmd,seval]
   refine onIf_intro fun _ => ?_
   (first | apply envO | apply envQ); simp only [vmp,↓vmd,seval]; rfl
   simp only [h8, h9, w, vmp,↓vmd,seval]
   refine onB_dec (fun h4 => ?_) (fun h4 => ?_)
   ·rw [non (.inl (by simp only [compM, h10]; simp only [ne_eq, not_true_eq_false, if_false]; rw [if_pos (.inr h9)]; exact h4))]
    simp only [h8, h9, h4, w, vmp,↓vmd,seval]
    exact gives_tup rfl (by simp)
   have w0 : 0 ≤ ((h.spots.length : Int) - 1) := by omega
   have w1 : ((h.spots.length : Int) - 1) < h.spots.length := by omega
   have n0 : ¬ ((h.spots.length : Int) - 1) < 0 := by omega
   have n1 : ¬ (h.spots.length : Int) ≤ ((h.spots.length : Int) - 1) := by omega
   have hc : compM k.kind h.spots.length comp = ((h.spots.length : Int) - 1) := by simp only [compM, ne_eq, h10, not_true_eq_false, not_false_eq_true, if_true, if_false]; rw [if_pos (.inr h9)]
   have hsp := spotsF_at (kind := k.kind) (l := h.spots) (comp := comp) (by rw [hc]; exact w0) (by rw [hc]; exact w1)
   have hgl := getE (f := spr) w0 w1
   simp only [hc] at hsp
   rw [← hsp] at hgl
   generalize spotsF k.kind h.spots comp = l at hv hgl
   simp only [h8, h9, h4, w, n0, n1, w0, w1, vmp,↓vmd,seval]
   refine onIf_intro fun _ => ?_
   (first | apply envO | apply envQ); simp only [vmp,↓vmd,seval]; rfl
   simp only [h8, h9, h4, w, n0, n1, w0, w1, vmp,↓vmd,seval]
   refine onB_dec (fun h5 => ?_) (fun h5 => ?_)
   ·rw [spotF_out (.inl h5)] at hv
    subst hv
    simp only [h8, h9, h4, w, n0, n1, h5, w0, w1, vmp,↓vmd,seval]
    exact gives_tup rfl (by simp)
   simp only [h8, h9, h4, w, n0, n1, h5, w0, w1, hgl, vmp,↓vmd,seval]
   refine onIf_intro fun _ => ?_
   (first | apply envO | apply envQ); simp only [vmp,↓vmd,seval]; rfl
   simp only [h8, h9, h4, w, n0, n1, h5, w0, w1, vmp,↓vmd,seval]
   refine onB_dec (fun h6 => ?_) (fun h6 => ?_)
   ·rw [spotF_out (.inr h6)] at hv
    subst hv
    simp only [h8, h9, h4, w, n0, n1, h5, h6, w0, w1, vmp,↓vmd,seval]
    exact gives_tup rfl (by simp)
   have x0 : 0 ≤ cls := by omega
   have x1 : cls < l.length := by omega
   have hgs := getE (f := spt) x0 x1
   rw [spotF_at x0 x1] at hv
   generalize l[cls.toNat]'(by omega) = q at hv hgs
   simp only [h8, h9, h4, w, n0, n1, h5, h6, w0, w1, hgl, x0, x1, hgs, vmp,↓vmd,seval]
   have two : q.has = false ∨ q.has = true := by cases q.has <;> simp
   rcases two with h7 | h7
   ·rw [if_neg (by rw [h7]; simp)] at hv
    subst hv
    simp only [h8, h9, h4, w, n0, n1, h5, h6, h7, w0, w1, vmp,↓vmd,seval]
    exact gives_tup rfl (by simp)
   ·rw [if_pos h7] at hv
    subst hv
    simp only [h8, h9, h4, w, n0, n1, h5, h6, h7, w0, w1, hgl, x0, x1, hgs, vmp,↓vmd,seval]
    exact gives_tup rfl (by simp)
  ·simp only [h8, h9, vmp,↓vmd,seval]
   have w0 : 0 ≤ comp := by omega
   have w1 : comp < h.spots.length := by omega
   have n0 : ¬ comp < 0 := by omega
   have n1 : ¬ (h.spots.length : Int) ≤ comp := by omega
   have hc : compM k.kind h.spots.length comp = comp := by simp only [compM, ne_eq, h10, not_true_eq_false, not_false_eq_true, if_true, if_false]; rw [if_neg (by omega)]
   have hsp := spotsF_at (kind := k.kind) (l := h.spots) (comp := comp) (by rw [hc]; exact w0) (by rw [hc]; exact w1)
   have hgl := getE (f := spr) w0 w1
   simp only [hc] at hsp
   rw [← hsp] at hgl
   generalize spotsF k.kind h.spots comp = l at hv hgl
   refine onIf_intro fun _ => ?_
   (first | apply envO | apply envQ); simp only [vmp,↓vmd,seval]; rfl
   simp only [h8, h9, n0, n1, w0, w1, vmp,↓vmd,seval]
   refine onB_dec (fun h5 => ?_) (fun h5 => ?_)
   ·rw [spotF_out (.inl h5)] at hv
    subst hv
    simp only [h8, h9, n0, n1, h5, w0, w1, vmp,↓vmd,seval]
    exact gives_tup rfl (by simp)
   simp only [h8, h9, n0, n1, h5, w0, w1, hgl, vmp,↓vmd,seval]
   refine onIf_intro fun _ => ?_
   (first | apply envO | apply envQ); simp only [vmp,↓vmd,seval]; rfl
   simp only [h8, h9, n0, n1, h5, w0, w1, vmp,↓vmd,seval]
   refine onB_dec (fun h6 => ?_) (fun h6 => ?_)
   ·rw [spotF_out (.inr h6)] at hv
    subst hv
    simp only [h8, h9, n0, n1, h5, h6, w0, w1, vmp,↓vmd,seval]
    exact gives_tup rfl (by simp)
   have x0 : 0 ≤ cls := by omega
   have x1 : cls < l.length := by omega
   have hgs := getE (f := spt) x0 x1
   rw [spotF_at x0 x1] at hv
   generalize l[cls.toNat]'(by omega) = q at hv hgs
   simp only [h8, h9, n0, n1, h5, h6, w0, w1, hgl, x0, x1, hgs, vmp,↓vmd,seval]
   have two : q.has = false ∨ q.has = true := by cases q.has <;> simp
   rcases two with h7 | h7
   ·rw [if_neg (by rw [h7]; simp)] at hv
    subst hv
    simp only [h8, h9, n0, n1, h5, h6, h7, w0, w1, vmp,↓vmd,seval]
    exact gives_tup rfl (by simp)
   ·rw [if_pos h7] at hv
    subst hv
    simp only [h8, h9, n0, n1, h5, h6, h7, w0, w1, hgl, x0, x1, hgs, vmp,↓vmd,seval]
    exact gives_tup rfl (by simp)
 ·simp only [h10, vmp,↓vmd,seval]
  have non : compM k.kind h.spots.length comp < 0 ∨ (h.spots.length : Int) ≤ compM k.kind h.spots.length comp → out = none := fun e => by rw [hv, spotsF_out e, spotF_nil]
  refine onIf_intro fun hl => ?_
  (first | apply envO | apply envQ); simp only [vmp,↓vmd,seval]; rfl
  simp only [h10, vmp,↓vmd,seval]
  refine onB_dec (fun h9 => ?_) (fun h9 => ?_)
  ·rw [non (.inr (by rw [compM, if_pos h10]; exact h9))]
   simp only [h10, h9, vmp,↓vmd,seval]
   exact gives_tup rfl (by simp)
  have w0 : 0 ≤ (0 : Int) := by omega
  have w1 : (0 : Int) < h.spots.length := by omega
  have n0 : ¬ (0 : Int) < 0 := by omega
  have n1 : ¬ (h.spots.length : Int) ≤ (0 : Int) := by omega
  have hc : compM k.kind h.spots.length comp = (0 : Int) := by simp only [compM, ne_eq, h10, not_true_eq_false, not_false_eq_true, if_true, if_false]
  have hsp := spotsF_at (kind := k.kind) (l := h.spots) (comp := comp) (by rw [hc]; exact w0) (by rw [hc]; exact w1)
  have hgl := getE (f := spr) w0 w1
  simp only [hc] at hsp
  rw [← hsp] at hgl
  generalize spotsF k.kind h.spots comp = l at hv hgl
  have hgl : (h.spots.map spr)[0]? = some (spr l) := hgl
  simp only [h10, h9, n0, n1, w0, w1, vmp,↓vmd,seval]
  refine onB_dec (fun h5 => ?_) (fun h5 => ?_)
  ·rw [spotF_out (.inl h5)] at hv
   subst hv
   simp only [h10, h9, n0, n1, h5, w0, w1, vmp,↓vmd,seval]
   exact gives_tup rfl (by simp)
  simp only [h10, h9, n0, n1, h5, w0, w1, hgl, vmp,↓vmd,seval]
  refine onIf_intro fun _ => ?_
  (first | apply envO | apply envQ); simp only [vmp,↓vmd,seval]; rfl
  simp only [h10, h9, n0, n1, h5, w0, w1, vmp,↓vmd,seval]
  refine onB_dec (fun h6 => ?_) (fun h6 => ?_)
  ·rw [spotF_out (.inr h6)] at hv
   subst hv
   simp only [h10, h9, n0, n1, h5, h6, w0, w1, vmp,↓vmd,seval]
   exact gives_tup rfl (by simp)
  have x0 : 0 ≤ cls := by omega
  have x1 : cls < l.length := by omega
  have hgs := getE (f := spt) x0 x1
  rw [spotF_at x0 x1] at hv
  generalize l[cls.toNat]'(by omega) = q at hv hgs
  simp only [h10, h9, n0, n1, h5, h6, w0, w1, hgl, x0, x1, hgs, vmp,↓vmd,seval]
  have two : q.has = false ∨ q.has = true := by cases q.has <;> simp
  rcases two with h7 | h7
  ·rw [if_neg (by rw [h7]; simp)] at hv
   subst hv
   simp only [h10, h9, n0, n1, h5, h6, h7, w0, w1, vmp,↓vmd,seval]
   exact gives_tup rfl (by simp)
  ·rw [if_pos h7] at hv
   subst hv
   simp only [h10, h9, n0, n1, h5, h6, h7, w0, w1, hgl, x0, x1, hgs, vmp,↓vmd,seval]
   exact gives_tup rfl (by simp)
end Go.Proofs.YtcjmkpkhjhjepaaGreat.W
