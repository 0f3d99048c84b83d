/-
  Where a host takes marks: the program's function. No condition but on sizes.
-/
import Derived.Test.YtcjmkpkhjhjepaaPMk2
namespace Go.Proofs.Ytcjmkpkhjhjepaa.W
open Go Go.Vm Go.Proofs
set_option maxRecDepth 100000
set_option linter.unusedSimpArgs false
set_option maxHeartbeats 4000000
/-! typecase/marks.Anchor -/
def c114 : AC :=
 (.seq (.reg [⟨some 5, none, .box (.s 0)⟩,
⟨some 7, none, .box (.s 2)⟩,
⟨some 10, none, .box (.c (.pure (.agg [(.int .i64 0), (.int .i64 0)])))⟩,
⟨some 11, none, .mov (.c (.pure (.bool false)))⟩])
 (.seq (.seq (.reg [⟨some 14, none, .mov (.s 1)⟩,
⟨some 15, none, .bin .lss (.s 14) (.c (.pure (.int .i64 0)))⟩,
⟨some 16, none, .mov (.s 15)⟩,
⟨some 17, some (16, false), .mov (.s 1)⟩,
⟨some 18, some (16, false), .fldA 3 (.s 5)⟩,
⟨some 19, some (16, false), .load false 1 (.s 18)⟩,
⟨some 20, some (16, false), .len (.s 19)⟩,
⟨some 21, some (16, false), .bin .geq (.s 17) (.s 20)⟩,
⟨some 22, none, .pick (.s 16) (.c (.pure (.bool true))) (.s 21)⟩])
 (.cond (.s 22)
 (.seq (.reg [⟨some 23, none, .build [(.pure (.int .i64 0)), (.pure (.int .i64 0))] []⟩,
⟨none, none, .store 2 (.s 10) (.s 23)⟩,
⟨some 11, none, .mov (.c (.pure (.bool false)))⟩])
 .ret)
 .skip))
 (.seq (.reg [⟨some 24, none, .fldA 3 (.s 5)⟩,
⟨some 25, none, .load false 1 (.s 24)⟩,
⟨some 26, none, .mov (.s 1)⟩,
⟨some 27, none, .idxA 12 (.s 25) (.s 26)⟩,
⟨some 28, none, .fldA 11 (.s 27)⟩,
⟨some 29, none, .load false 1 (.s 28)⟩,
⟨some 30, none, .mkfn (.func 119) [] [(.s 7)]⟩,
⟨some 31, none, .call 118 [(.s 29), (.s 30)]⟩,
⟨some 12, none, .mov (.s 31)⟩])
 (.seq (.seq (.reg [⟨some 32, none, .mov (.s 12)⟩,
⟨some 33, none, .bin .lss (.s 32) (.c (.pure (.int .i64 0)))⟩])
 (.cond (.s 33)
 (.seq (.reg [⟨some 34, none, .build [(.pure (.int .i64 0)), (.pure (.int .i64 0))] []⟩,
⟨none, none, .store 2 (.s 10) (.s 34)⟩,
⟨some 11, none, .mov (.c (.pure (.bool false)))⟩])
 .ret)
 .skip))
 (.seq (.reg [⟨some 35, none, .fldA 3 (.s 5)⟩,
⟨some 36, none, .load false 1 (.s 35)⟩,
⟨some 37, none, .mov (.s 1)⟩,
⟨some 38, none, .idxA 12 (.s 36) (.s 37)⟩,
⟨some 39, none, .fldA 11 (.s 38)⟩,
⟨some 40, none, .load false 1 (.s 39)⟩,
⟨some 41, none, .mov (.s 12)⟩,
⟨some 42, none, .idxA 2 (.s 40) (.s 41)⟩,
⟨some 43, none, .fldA 1 (.s 42)⟩,
⟨some 44, none, .load false 1 (.s 43)⟩,
⟨some 13, none, .mov (.s 44)⟩])
 (.seq (.seq (.reg [⟨some 45, none, .fldA 0 (.s 5)⟩,
⟨some 46, none, .load false 1 (.s 45)⟩,
⟨some 47, none, .bin .neq (.s 46) (.c (.pure (.int .i64 10)))⟩])
 (.cond (.s 47)
 (.reg [⟨some 4, none, .mov (.c (.pure (.int .i64 0)))⟩])
 (.seq (.reg [⟨some 48, none, .mov (.s 4)⟩,
⟨some 49, none, .bin .lss (.s 48) (.c (.pure (.int .i64 0)))⟩,
⟨some 50, none, .mov (.s 49)⟩,
⟨some 51, some (50, false), .mov (.s 4)⟩,
⟨some 52, some (50, false), .mov (.s 13)⟩,
⟨some 53, some (50, false), .len (.s 52)⟩,
⟨some 54, some (50, false), .bin .geq (.s 51) (.s 53)⟩,
⟨some 55, none, .pick (.s 50) (.c (.pure (.bool true))) (.s 54)⟩])
 (.cond (.s 55)
 (.reg [⟨some 56, none, .mov (.s 13)⟩,
⟨some 57, none, .len (.s 56)⟩,
⟨some 58, none, .bin .sub (.s 57) (.c (.pure (.int .i64 1)))⟩,
⟨some 4, none, .mov (.s 58)⟩])
 .skip))))
 (.seq (.seq (.reg [⟨some 59, none, .mov (.s 4)⟩,
⟨some 60, none, .bin .lss (.s 59) (.c (.pure (.int .i64 0)))⟩,
⟨some 61, none, .mov (.s 60)⟩,
⟨some 62, some (61, false), .mov (.s 4)⟩,
⟨some 63, some (61, false), .mov (.s 13)⟩,
⟨some 64, some (61, false), .len (.s 63)⟩,
⟨some 65, some (61, false), .bin .geq (.s 62) (.s 64)⟩,
⟨some 66, none, .pick (.s 61) (.c (.pure (.bool true))) (.s 65)⟩,
⟨some 67, none, .mov (.s 66)⟩,
⟨some 68, some (67, false), .mov (.s 3)⟩,
⟨some 69, some (67, false), .bin .lss (.s 68) (.c (.pure (.int .i64 0)))⟩,
⟨some 70, none, .pick (.s 67) (.c (.pure (.bool true))) (.s 69)⟩,
⟨some 71, none, .mov (.s 70)⟩,
⟨some 72, some (71, false), .mov (.s 3)⟩,
⟨some 73, some (71, false), .mov (.s 13)⟩,
⟨some 74, some (71, false), .mov (.s 4)⟩,
⟨some 75, some (71, false), .idxA 1 (.s 73) (.s 74)⟩,
⟨some 76, some (71, false), .load false 1 (.s 75)⟩,
⟨some 77, some (71, false), .len (.s 76)⟩,
⟨some 78, some (71, false), .bin .geq (.s 72) (.s 77)⟩,
⟨some 79, none, .pick (.s 71) (.c (.pure (.bool true))) (.s 78)⟩,
⟨some 80, none, .mov (.s 79)⟩,
⟨some 81, some (80, false), .mov (.s 13)⟩,
⟨some 82, some (80, false), .mov (.s 4)⟩,
⟨some 83, some (80, false), .idxA 1 (.s 81) (.s 82)⟩,
⟨some 84, some (80, false), .load false 1 (.s 83)⟩,
⟨some 85, some (80, false), .mov (.s 3)⟩,
⟨some 86, some (80, false), .idxA 3 (.s 84) (.s 85)⟩,
⟨some 87, some (80, false), .fldA 0 (.s 86)⟩,
⟨some 88, some (80, false), .load false 1 (.s 87)⟩,
⟨some 89, some (80, false), .un .not (.s 88)⟩,
⟨some 90, none, .pick (.s 80) (.c (.pure (.bool true))) (.s 89)⟩])
 (.cond (.s 90)
 (.seq (.reg [⟨some 91, none, .build [(.pure (.int .i64 0)), (.pure (.int .i64 0))] []⟩,
⟨none, none, .store 2 (.s 10) (.s 91)⟩,
⟨some 11, none, .mov (.c (.pure (.bool false)))⟩])
 .ret)
 .skip))
 (.seq (.reg [⟨some 92, none, .mov (.s 13)⟩,
⟨some 93, none, .mov (.s 4)⟩,
⟨some 94, none, .idxA 1 (.s 92) (.s 93)⟩,
⟨some 95, none, .load false 1 (.s 94)⟩,
⟨some 96, none, .mov (.s 3)⟩,
⟨some 97, none, .idxA 3 (.s 95) (.s 96)⟩,
⟨some 98, none, .fldA 1 (.s 97)⟩,
⟨some 99, none, .load true 2 (.s 98)⟩,
⟨none, none, .store 2 (.s 10) (.s 99)⟩,
⟨some 11, none, .mov (.c (.pure (.bool true)))⟩])
 .ret))))))))
theorem k114 : OkF 114 Try.f114 c114 [.c 10 true 2, .t 11] 100 := ⟨Try.func114, by kernel_rfl, by kernel_rfl, by kernel_rfl, Try.ntmps114⟩
def ancR (o : Option (Int × Int)) : List V := [.agg [I (o.getD (0, 0)).1, I (o.getD (0, 0)).2], .bool o.isSome]
def compM (kind : Int) (n : Nat) (comp : Int) : Int := if kind ≠ 10 then 0 else if comp < 0 ∨ (n : Int) ≤ comp then (n : Int) - 1 else comp
theorem spotF_nil {c : Int} : spotF [] c = none := by
 rw [spotF]
 split <;> rfl
theorem spotF_at {l : List Spt} {c : Int} (h0 : 0 ≤ c) (h1 : c < l.length) : spotF l c = if (l[c.toNat]'(by omega)).has = true then some ((l[c.toNat]'(by omega)).x, (l[c.toNat]'(by omega)).y) else none := by
 rw [spotF, if_neg (by omega), List.getElem?_eq_getElem (by omega)]
theorem spotF_out {l : List Spt} {c : Int} (h : c < 0 ∨ (l.length : Int) ≤ c) : spotF l c = none := by
 rw [spotF]
 split
 ·rfl
 ·rw [List.getElem?_eq_none (by omega)]
theorem spotsF_out {kind comp : Int} {l : List (List Spt)} (h : compM kind l.length comp < 0 ∨ (l.length : Int) ≤ compM kind l.length comp) : spotsF kind l comp = [] := by
 have h0 : l = [] := by
  rw [compM] at h
  refine List.eq_nil_of_length_eq_zero ?_
  split at h
  ·omega
  ·split at h <;> omega
 subst h0
 simp [spotsF]
theorem spotsF_at {kind comp : Int} {l : List (List Spt)} (h0 : 0 ≤ compM kind l.length comp) (h1 : compM kind l.length comp < l.length) : spotsF kind l comp = l[(compM kind l.length comp).toNat]'(by omega) := by
 have key : ∀ n : Nat, n = (compM kind l.length comp).toNat → (l[n]?).getD [] = l[(compM kind l.length comp).toNat]'(by omega) := by
  intro n hn
  subst hn
  rw [List.getElem?_eq_getElem (by omega)]
  rfl
 rw [spotsF]
 split
 ·refine key 0 ?_
  rw [compM, if_pos (by assumption)]; rfl
 ·rename_i hk
  split
  ·refine key _ ?_
   rw [compM, if_neg hk, if_pos (by assumption)]
   omega
  ·refine key _ ?_
   rw [compM, if_neg hk, if_neg (by assumption)]
theorem getE {α : Type} {f : α → V} {l : List α} {y : Int} (h0 : 0 ≤ y) (h1 : y < l.length) : (l.map f)[y.toNat]? = some (f (l[y.toNat]'(by omega))) := by
 rw [List.getElem?_map, List.getElem?_eq_getElem (by omega)]; rfl
theorem anchorF_at {k : Lk} {sb host cls comp : Int} (h0 : 0 ≤ sb) (h1 : sb < k.subs.length) : anchorF k sb host cls comp = match findHo (k.subs[sb.toNat]'(by omega)).hosts host with
   | some h => spotF (spotsF k.kind h.spots comp) cls
   | none => none := by
 rw [anchorF, if_neg (by omega), List.getElem?_eq_getElem (by omega)]
 rfl
theorem anchor_q (k : Lk) (hs : ∀ s ∈ k.subs, s.hosts.length ≤ 5000) (sb host cls comp : Int) : FnQ Try.prog 114 [lk k, I sb, I host, I cls, I comp] (ancR (anchorF k sb host cls comp)) := by
 refine k114.q (by simp) ?_
 unfold c114
 simp -implicitDefEqProofs only [*, vmp,↓vmd,seval]
 refine onB_dec (fun h0 => ?_) (fun h0 => ?_)
 ·simp -implicitDefEqProofs only [h0, vmp,↓vmd,seval]
  rw [show anchorF k sb host cls comp = none by rw [anchorF, if_pos h0]]
  exact gives_tup rfl (by simp)
 simp -implicitDefEqProofs only [h0, vmp,↓vmd,seval]
 refine onIf_intro fun _ => ?_
 simp -implicitDefEqProofs only [h0, vmp,↓vmd,seval]
 refine onB_dec (fun h1 => ?_) (fun h1 => ?_)
 ·simp -implicitDefEqProofs only [h0, h1, vmp,↓vmd,seval]
  rw [show anchorF k sb host cls comp = none by rw [anchorF, if_neg h0, List.getElem?_eq_none (by omega)]]
  exact gives_tup rfl (by simp)
 have b0 : 0 ≤ sb := by omega
 have b1 : sb < k.subs.length := by omega
 have hv := anchorF_at (host := host) (cls := cls) (comp := comp) b0 b1
 obtain ⟨s, hse⟩ : ∃ s, s = k.subs[sb.toNat]'(by omega) := ⟨_, rfl⟩
 have hg : (k.subs.map sub)[sb.toNat]? = some (sub s) := by rw [hse]; exact getE b0 b1
 have hh : s.hosts.length ≤ 5000 := hs s (by rw [hse]; exact List.getElem_mem _)
 rw [← hse] at hv
 generalize anchorF k sb host cls comp = out at hv
 simp -implicitDefEqProofs only [h0, h1, b0, b1, hg, vmp,↓vmd,seval]
 refine onC_fr (ixho_c host s.hosts hh) [1] (by simp) (by simp -implicitDefEqProofs only [kpp,seval]) rfl rfl (by simp) ?_
 (first | apply envO | apply envQ); simp -implicitDefEqProofs only [vmp,↓vmd,seval]; rfl
 simp -implicitDefEqProofs only [vmp,↓vmd,seval]
 rcases ix_ho host s.hosts 0 with ⟨h2, h3⟩ | ⟨i, hi, h2, h3⟩
 ·rw [h3] at hv
  subst hv
  simp -implicitDefEqProofs only [h2, vmp,↓vmd,seval]
  exact gives_tup rfl (by simp)
 rw [h3] at hv
 rw [Nat.zero_add] at h2
 have hgi : (s.hosts.map ho)[i]? = some (ho s.hosts[i]) := map_at hi
 generalize s.hosts[i] = h at hv hgi
 simp only at hv
 have i0 : ¬ (i : Int) < 0 := by omega
 simp -implicitDefEqProofs only [h0, h1, b0, b1, hg, h2, i0, hgi, Int.natCast_nonneg, vmp,↓vmd,seval]
 by_cases h10 : k.kind = 10
 ·simp -implicitDefEqProofs only [h10, vmp,↓vmd,seval]
  have non : compM k.kind h.spots.length comp < 0 ∨ (h.spots.length : Int) ≤ compM k.kind h.spots.length comp → out = none := fun e => by rw [hv, spotsF_out e, spotF_nil]
  refine onB_dec (fun h8 => ?_) (fun h8 => ?_)
  ·simp -implicitDefEqProofs only [h8, vmp,↓vmd,seval]
   refine onIf_intro fun hl => ?_
   have w : IntKind.wrap .i64 ((h.spots.length : Int) - 1) = (h.spots.length : Int) - 1 := wrap_id (by omega) (by omega)
   simp -implicitDefEqProofs only [h8, w, vmp,↓vmd,seval]
   refine onB_dec (fun h9 => ?_) (fun h9 => ?_)
   ·rw [non (.inl (by simp only [compM, h10]; simp only [ne_eq, not_true_eq_false, if_false]; rw [if_pos (.inl h8)]; exact h9))]
    simp -implicitDefEqProofs only [h8, h9, w, vmp,↓vmd,seval]
    exact gives_tup rfl (by simp)
   have w0 : 0 ≤ ((h.spots.length : Int) - 1) := by omega
   have w1 : ((h.spots.length : Int) - 1) < h.spots.length := by omega
   have n0 : ¬ ((h.spots.length : Int) - 1) < 0 := by omega
   have n1 : ¬ (h.spots.length : Int) ≤ ((h.spots.length : Int) - 1) := by omega
   have hc : compM k.kind h.spots.length comp = ((h.spots.length : Int) - 1) := by simp only [compM, ne_eq, h10, not_true_eq_false, not_false_eq_true, if_true, if_false]; rw [if_pos (.inl h8)]
   have hsp := spotsF_at (kind := k.kind) (l := h.spots) (comp := comp) (by rw [hc]; exact w0) (by rw [hc]; exact w1)
   have hgl := getE (f := spr) w0 w1
   simp only [hc] at hsp
   rw [← hsp] at hgl
   generalize spotsF k.kind h.spots comp = l at hv hgl
   simp -implicitDefEqProofs only [h8, h9, w, n0, n1, w0, w1, vmp,↓vmd,seval]
   refine onIf_intro fun _ => ?_
   (first | apply envO | apply envQ); simp -implicitDefEqProofs only [vmp,↓vmd,seval]; rfl
   simp -implicitDefEqProofs only [h8, h9, w, n0, n1, w0, w1, vmp,↓vmd,seval]
   refine onB_dec (fun h5 => ?_) (fun h5 => ?_)
   ·rw [spotF_out (.inl h5)] at hv
    subst hv
    simp -implicitDefEqProofs only [h8, h9, w, n0, n1, h5, w0, w1, vmp,↓vmd,seval]
    exact gives_tup rfl (by simp)
   simp -implicitDefEqProofs only [h8, h9, w, n0, n1, h5, w0, w1, hgl, vmp,↓vmd,seval]
   refine onIf_intro fun _ => ?_
   (first | apply envO | apply envQ); simp -implicitDefEqProofs only [vmp,↓vmd,seval]; rfl
   simp -implicitDefEqProofs only [h8, h9, w, n0, n1, h5, w0, w1, vmp,↓vmd,seval]
   refine onB_dec (fun h6 => ?_) (fun h6 => ?_)
   ·rw [spotF_out (.inr h6)] at hv
    subst hv
    simp -implicitDefEqProofs only [h8, h9, w, n0, n1, h5, h6, w0, w1, vmp,↓vmd,seval]
    exact gives_tup rfl (by simp)
   have x0 : 0 ≤ cls := by omega
   have x1 : cls < l.length := by omega
   have hgs := getE (f := spt) x0 x1
   rw [spotF_at x0 x1] at hv
   generalize l[cls.toNat]'(by omega) = q at hv hgs
   simp -implicitDefEqProofs only [h8, h9, w, n0, n1, h5, h6, w0, w1, hgl, x0, x1, hgs, vmp,↓vmd,seval]
   have two : q.has = false ∨ q.has = true := by cases q.has <;> simp
   rcases two with h7 | h7
   ·rw [if_neg (by rw [h7]; simp)] at hv
    subst hv
    simp -implicitDefEqProofs only [h8, h9, w, n0, n1, h5, h6, h7, w0, w1, vmp,↓vmd,seval]
    exact gives_tup rfl (by simp)
   ·rw [if_pos h7] at hv
    subst hv
    simp -implicitDefEqProofs only [h8, h9, w, n0, n1, h5, h6, h7, w0, w1, hgl, x0, x1, hgs, vmp,↓vmd,seval]
    exact gives_tup rfl (by simp)
  simp -implicitDefEqProofs only [h8, vmp,↓vmd,seval]
  refine onIf_intro fun hl => ?_
  (first | apply envO | apply envQ); simp -implicitDefEqProofs only [vmp,↓vmd,seval]; rfl
  simp -implicitDefEqProofs only [h8, vmp,↓vmd,seval]
  refine onB_dec (fun h9 => ?_) (fun h9 => ?_)
  ·have w : IntKind.wrap .i64 ((h.spots.length : Int) - 1) = (h.spots.length : Int) - 1 := wrap_id (by omega) (by omega)
   simp -implicitDefEqProofs only [h8, h9, w, vmp,↓vmd,seval]
   refine onIf_intro fun _ => ?_
   (first | apply envO | apply envQ); simp -implicitDefEqProofs only [vmp,↓vmd,seval]; rfl
   simp -implicitDefEqProofs only [h8, h9, w, vmp,↓vmd,seval]
   refine onB_dec (fun h4 => ?_) (fun h4 => ?_)
   ·rw [non (.inl (by simp only [compM, h10]; simp only [ne_eq, not_true_eq_false, if_false]; rw [if_pos (.inr h9)]; exact h4))]
    simp -implicitDefEqProofs only [h8, h9, h4, w, vmp,↓vmd,seval]
    exact gives_tup rfl (by simp)
   have w0 : 0 ≤ ((h.spots.length : Int) - 1) := by omega
   have w1 : ((h.spots.length : Int) - 1) < h.spots.length := by omega
   have n0 : ¬ ((h.spots.length : Int) - 1) < 0 := by omega
   have n1 : ¬ (h.spots.length : Int) ≤ ((h.spots.length : Int) - 1) := by omega
   have hc : compM k.kind h.spots.length comp = ((h.spots.length : Int) - 1) := by simp only [compM, ne_eq, h10, not_true_eq_false, not_false_eq_true, if_true, if_false]; rw [if_pos (.inr h9)]
   have hsp := spotsF_at (kind := k.kind) (l := h.spots) (comp := comp) (by rw [hc]; exact w0) (by rw [hc]; exact w1)
   have hgl := getE (f := spr) w0 w1
   simp only [hc] at hsp
   rw [← hsp] at hgl
   generalize spotsF k.kind h.spots comp = l at hv hgl
   simp -implicitDefEqProofs only [h8, h9, h4, w, n0, n1, w0, w1, vmp,↓vmd,seval]
   refine onIf_intro fun _ => ?_
   (first | apply envO | apply envQ); simp -implicitDefEqProofs only [vmp,↓vmd,seval]; rfl
   simp -implicitDefEqProofs only [h8, h9, h4, w, n0, n1, w0, w1, vmp,↓vmd,seval]
   refine onB_dec (fun h5 => ?_) (fun h5 => ?_)
   ·rw [spotF_out (.inl h5)] at hv
    subst hv
    simp -implicitDefEqProofs only [h8, h9, h4, w, n0, n1, h5, w0, w1, vmp,↓vmd,seval]
    exact gives_tup rfl (by simp)
   simp -implicitDefEqProofs only [h8, h9, h4, w, n0, n1, h5, w0, w1, hgl, vmp,↓vmd,seval]
   refine onIf_intro fun _ => ?_
   (first | apply envO | apply envQ); simp -implicitDefEqProofs only [vmp,↓vmd,seval]; rfl
   simp -implicitDefEqProofs only [h8, h9, h4, w, n0, n1, h5, w0, w1, vmp,↓vmd,seval]
   refine onB_dec (fun h6 => ?_) (fun h6 => ?_)
   ·rw [spotF_out (.inr h6)] at hv
    subst hv
    simp -implicitDefEqProofs only [h8, h9, h4, w, n0, n1, h5, h6, w0, w1, vmp,↓vmd,seval]
    exact gives_tup rfl (by simp)
   have x0 : 0 ≤ cls := by omega
   have x1 : cls < l.length := by omega
   have hgs := getE (f := spt) x0 x1
   rw [spotF_at x0 x1] at hv
   generalize l[cls.toNat]'(by omega) = q at hv hgs
   simp -implicitDefEqProofs only [h8, h9, h4, w, n0, n1, h5, h6, w0, w1, hgl, x0, x1, hgs, vmp,↓vmd,seval]
   have two : q.has = false ∨ q.has = true := by cases q.has <;> simp
   rcases two with h7 | h7
   ·rw [if_neg (by rw [h7]; simp)] at hv
    subst hv
    simp -implicitDefEqProofs only [h8, h9, h4, w, n0, n1, h5, h6, h7, w0, w1, vmp,↓vmd,seval]
    exact gives_tup rfl (by simp)
   ·rw [if_pos h7] at hv
    subst hv
    simp -implicitDefEqProofs only [h8, h9, h4, w, n0, n1, h5, h6, h7, w0, w1, hgl, x0, x1, hgs, vmp,↓vmd,seval]
    exact gives_tup rfl (by simp)
  ·simp -implicitDefEqProofs only [h8, h9, vmp,↓vmd,seval]
   have w0 : 0 ≤ comp := by omega
   have w1 : comp < h.spots.length := by omega
   have n0 : ¬ comp < 0 := by omega
   have n1 : ¬ (h.spots.length : Int) ≤ comp := by omega
   have hc : compM k.kind h.spots.length comp = comp := by simp only [compM, ne_eq, h10, not_true_eq_false, not_false_eq_true, if_true, if_false]; rw [if_neg (by omega)]
   have hsp := spotsF_at (kind := k.kind) (l := h.spots) (comp := comp) (by rw [hc]; exact w0) (by rw [hc]; exact w1)
   have hgl := getE (f := spr) w0 w1
   simp only [hc] at hsp
   rw [← hsp] at hgl
   generalize spotsF k.kind h.spots comp = l at hv hgl
   refine onIf_intro fun _ => ?_
   (first | apply envO | apply envQ); simp -implicitDefEqProofs only [vmp,↓vmd,seval]; rfl
   simp -implicitDefEqProofs only [h8, h9, n0, n1, w0, w1, vmp,↓vmd,seval]
   refine onB_dec (fun h5 => ?_) (fun h5 => ?_)
   ·rw [spotF_out (.inl h5)] at hv
    subst hv
    simp -implicitDefEqProofs only [h8, h9, n0, n1, h5, w0, w1, vmp,↓vmd,seval]
    exact gives_tup rfl (by simp)
   simp -implicitDefEqProofs only [h8, h9, n0, n1, h5, w0, w1, hgl, vmp,↓vmd,seval]
   refine onIf_intro fun _ => ?_
   (first | apply envO | apply envQ); simp -implicitDefEqProofs only [vmp,↓vmd,seval]; rfl
   simp -implicitDefEqProofs only [h8, h9, n0, n1, h5, w0, w1, vmp,↓vmd,seval]
   refine onB_dec (fun h6 => ?_) (fun h6 => ?_)
   ·rw [spotF_out (.inr h6)] at hv
    subst hv
    simp -implicitDefEqProofs only [h8, h9, n0, n1, h5, h6, w0, w1, vmp,↓vmd,seval]
    exact gives_tup rfl (by simp)
   have x0 : 0 ≤ cls := by omega
   have x1 : cls < l.length := by omega
   have hgs := getE (f := spt) x0 x1
   rw [spotF_at x0 x1] at hv
   generalize l[cls.toNat]'(by omega) = q at hv hgs
   simp -implicitDefEqProofs only [h8, h9, n0, n1, h5, h6, w0, w1, hgl, x0, x1, hgs, vmp,↓vmd,seval]
   have two : q.has = false ∨ q.has = true := by cases q.has <;> simp
   rcases two with h7 | h7
   ·rw [if_neg (by rw [h7]; simp)] at hv
    subst hv
    simp -implicitDefEqProofs only [h8, h9, n0, n1, h5, h6, h7, w0, w1, vmp,↓vmd,seval]
    exact gives_tup rfl (by simp)
   ·rw [if_pos h7] at hv
    subst hv
    simp -implicitDefEqProofs only [h8, h9, n0, n1, h5, h6, h7, w0, w1, hgl, x0, x1, hgs, vmp,↓vmd,seval]
    exact gives_tup rfl (by simp)
 ·simp -implicitDefEqProofs only [h10, vmp,↓vmd,seval]
  have non : compM k.kind h.spots.length comp < 0 ∨ (h.spots.length : Int) ≤ compM k.kind h.spots.length comp → out = none := fun e => by rw [hv, spotsF_out e, spotF_nil]
  refine onIf_intro fun hl => ?_
  (first | apply envO | apply envQ); simp -implicitDefEqProofs only [vmp,↓vmd,seval]; rfl
  simp -implicitDefEqProofs only [h10, vmp,↓vmd,seval]
  refine onB_dec (fun h9 => ?_) (fun h9 => ?_)
  ·rw [non (.inr (by rw [compM, if_pos h10]; exact h9))]
   simp -implicitDefEqProofs only [h10, h9, vmp,↓vmd,seval]
   exact gives_tup rfl (by simp)
  have w0 : 0 ≤ (0 : Int) := by omega
  have w1 : (0 : Int) < h.spots.length := by omega
  have n0 : ¬ (0 : Int) < 0 := by omega
  have n1 : ¬ (h.spots.length : Int) ≤ (0 : Int) := by omega
  have hc : compM k.kind h.spots.length comp = (0 : Int) := by simp only [compM, ne_eq, h10, not_true_eq_false, not_false_eq_true, if_true, if_false]
  have hsp := spotsF_at (kind := k.kind) (l := h.spots) (comp := comp) (by rw [hc]; exact w0) (by rw [hc]; exact w1)
  have hgl := getE (f := spr) w0 w1
  simp only [hc] at hsp
  rw [← hsp] at hgl
  generalize spotsF k.kind h.spots comp = l at hv hgl
  have hgl : (h.spots.map spr)[0]? = some (spr l) := hgl
  simp -implicitDefEqProofs only [h10, h9, n0, n1, w0, w1, vmp,↓vmd,seval]
  refine onB_dec (fun h5 => ?_) (fun h5 => ?_)
  ·rw [spotF_out (.inl h5)] at hv
   subst hv
   simp -implicitDefEqProofs only [h10, h9, n0, n1, h5, w0, w1, vmp,↓vmd,seval]
   exact gives_tup rfl (by simp)
  simp -implicitDefEqProofs only [h10, h9, n0, n1, h5, w0, w1, hgl, vmp,↓vmd,seval]
  refine onIf_intro fun _ => ?_
  (first | apply envO | apply envQ); simp -implicitDefEqProofs only [vmp,↓vmd,seval]; rfl
  simp -implicitDefEqProofs only [h10, h9, n0, n1, h5, w0, w1, vmp,↓vmd,seval]
  refine onB_dec (fun h6 => ?_) (fun h6 => ?_)
  ·rw [spotF_out (.inr h6)] at hv
   subst hv
   simp -implicitDefEqProofs only [h10, h9, n0, n1, h5, h6, w0, w1, vmp,↓vmd,seval]
   exact gives_tup rfl (by simp)
  have x0 : 0 ≤ cls := by omega
  have x1 : cls < l.length := by omega
  have hgs := getE (f := spt) x0 x1
  rw [spotF_at x0 x1] at hv
  generalize l[cls.toNat]'(by omega) = q at hv hgs
  simp -implicitDefEqProofs only [h10, h9, n0, n1, h5, h6, w0, w1, hgl, x0, x1, hgs, vmp,↓vmd,seval]
  have two : q.has = false ∨ q.has = true := by cases q.has <;> simp
  rcases two with h7 | h7
  ·rw [if_neg (by rw [h7]; simp)] at hv
   subst hv
   simp -implicitDefEqProofs only [h10, h9, n0, n1, h5, h6, h7, w0, w1, vmp,↓vmd,seval]
   exact gives_tup rfl (by simp)
  ·rw [if_pos h7] at hv
   subst hv
   simp -implicitDefEqProofs only [h10, h9, n0, n1, h5, h6, h7, w0, w1, hgl, x0, x1, hgs, vmp,↓vmd,seval]
   exact gives_tup rfl (by simp)
end Go.Proofs.Ytcjmkpkhjhjepaa.W
