/-
  Whether a context stands, and where places come to lie: the program's functions. No condition but on sizes.
-/
import Derived.Test.YtcjmkpkhjhjepaaPCx0
import Derived.Test.YtcjmkpkhjhjepaaCIndex
namespace Go.Proofs.Ytcjmkpkhjhjepaa.W
open Go Go.Vm Go.Proofs
set_option maxRecDepth 100000
set_option linter.unusedSimpArgs false
set_option maxHeartbeats 4000000
/-! slices.Clone[[]int,int] -/
def c121 : AC :=
 (.seq (.reg [⟨some 2, none, .mov (.c .empty)⟩])
 (.seq (.seq (.reg [⟨some 3, none, .mov (.s 0)⟩,
⟨some 4, none, .slnil false (.s 3)⟩])
 (.cond (.s 4)
 (.seq (.reg [⟨some 2, none, .mov (.c .empty)⟩])
 .ret)
 .skip))
 (.seq (.reg [⟨some 5, none, .bslice 1 []⟩,
⟨some 6, none, .mov (.s 0)⟩,
⟨some 7, none, .app 1 8 (.s 5) (.s 6)⟩,
⟨some 2, none, .mov (.s 7)⟩])
 .ret)))
theorem k121 : OkF 121 Try.f121 c121 [.t 2] 8 := ⟨Try.func121, by kernel_rfl, by kernel_rfl, by kernel_rfl, Try.ntmps121⟩
/-! typecase/context.Moved -/
def c120_0 : AC :=
 (.seq (.reg [⟨some 53, none, .mov (.s 10)⟩,
⟨some 8, none, .mov (.s 53)⟩])
 .ret)
def c120_1 : AC :=
 (.seq (.reg [⟨some 21, none, .bin .lss (.s 20) (.s 19)⟩])
 (.seq (.cond (.s 21)
 .skip
 (.exit 0))
 (.seq (.block 1
 (.seq (.reg [⟨some 22, none, .mov (.s 20)⟩,
⟨some 23, none, .idxA 1 (.s 18) (.s 20)⟩,
⟨some 24, none, .load false 1 (.s 23)⟩,
⟨some 11, none, .mov (.s 22)⟩,
⟨some 12, none, .mov (.s 24)⟩])
 (.block 2
 (.seq (.reg [⟨some 32, none, .mov (.s 12)⟩,
⟨some 33, none, .bin .eql (.s 32) (.c (.pure (.int .i64 (-1))))⟩,
⟨some 34, none, .mov (.s 33)⟩,
⟨some 35, some (34, false), .mov (.s 12)⟩,
⟨some 36, some (34, false), .mov (.s 1)⟩,
⟨some 37, some (34, false), .bin .leq (.s 35) (.s 36)⟩,
⟨some 38, none, .pick (.s 34) (.c (.pure (.bool true))) (.s 37)⟩,
⟨some 31, none, .mov (.s 38)⟩])
 (.cond (.s 31)
 .skip
 (.seq (.reg [⟨some 40, none, .mov (.s 9)⟩,
⟨some 41, none, .bin .lss (.s 40) (.c (.pure (.int .i64 0)))⟩,
⟨some 42, none, .mov (.s 41)⟩,
⟨some 43, some (42, true), .mov (.s 12)⟩,
⟨some 44, some (42, true), .mov (.s 1)⟩,
⟨some 45, some (42, true), .mov (.s 9)⟩,
⟨some 46, some (42, true), .bin .sub (.s 44) (.s 45)⟩,
⟨some 47, some (42, true), .bin .leq (.s 43) (.s 46)⟩,
⟨some 48, none, .pick (.s 42) (.s 47) (.c (.pure (.bool false)))⟩,
⟨some 39, none, .mov (.s 48)⟩])
 (.cond (.s 39)
 (.reg [⟨some 49, none, .mov (.s 10)⟩,
⟨some 50, none, .mov (.s 11)⟩,
⟨some 51, none, .idxA 1 (.s 49) (.s 50)⟩,
⟨none, none, .store 1 (.s 51) (.c (.pure (.int .i64 (-1))))⟩])
 (.reg [⟨some 25, none, .mov (.s 10)⟩,
⟨some 26, none, .mov (.s 11)⟩,
⟨some 27, none, .mov (.s 12)⟩,
⟨some 28, none, .mov (.s 9)⟩,
⟨some 29, none, .bin .add (.s 27) (.s 28)⟩,
⟨some 30, none, .idxA 1 (.s 25) (.s 26)⟩,
⟨none, none, .store 1 (.s 30) (.s 29)⟩]))))))))
 (.reg [⟨some 52, none, .bin .add (.s 20) (.c (.pure (.int .i64 1)))⟩,
⟨some 20, none, .mov (.s 52)⟩]))))
def c120 : AC :=
 (.seq (.reg [⟨some 8, none, .mov (.c .empty)⟩])
 (.seq (.reg [⟨some 13, none, .mov (.s 3)⟩,
⟨some 14, none, .mov (.s 2)⟩,
⟨some 15, none, .bin .sub (.s 13) (.s 14)⟩,
⟨some 9, none, .mov (.s 15)⟩])
 (.seq (.reg [⟨some 16, none, .mov (.s 0)⟩,
⟨some 17, none, .call 121 [(.s 16)]⟩,
⟨some 10, none, .mov (.s 17)⟩])
 (.seq (.seq (.reg [⟨some 18, none, .mov (.s 0)⟩,
⟨some 19, none, .len (.s 18)⟩,
⟨some 20, none, .mov (.c (.pure (.int .i64 0)))⟩])
 (.block 0
 (.loop c120_1)))
 c120_0))))
theorem k120 : OkF 120 Try.f120 c120 [.t 8] 54 := ⟨Try.func120, by kernel_rfl, by kernel_rfl, by kernel_rfl, Try.ntmps120⟩
/-! typecase/context.Match -/
def c102_0 : AC :=
 (.seq (.reg [⟨some 8, none, .mov (.c (.pure (.int .i64 0)))⟩,
⟨some 9, none, .mov (.c .empty)⟩,
⟨some 10, none, .mov (.c (.pure (.bool false)))⟩])
 .ret)
def c102_1 : AC :=
 (.seq (.reg [⟨some 32, none, .bin .lss (.s 31) (.s 30)⟩])
 (.seq (.cond (.s 32)
 .skip
 (.exit 0))
 (.seq (.block 1
 (.seq (.reg [⟨some 33, none, .mov (.s 31)⟩,
⟨some 34, none, .idxA 12 (.s 29) (.s 31)⟩,
⟨some 35, none, .load true 12 (.s 34)⟩,
⟨some 12, none, .box (.c (.agg [.empty, .empty, .empty, .empty, .empty, .empty, .empty, .empty, .empty, .empty, .empty, .empty]))⟩,
⟨some 11, none, .mov (.s 33)⟩,
⟨none, none, .store 12 (.s 12) (.s 35)⟩])
 (.seq (.seq (.regq [⟨some 36, none, .fldA 4 (.s 12)⟩,
⟨some 37, none, .load false 1 (.s 36)⟩,
⟨some 38, none, .len (.s 37)⟩,
⟨some 39, none, .bin .eql (.s 38) (.c (.pure (.int .i64 0)))⟩,
⟨some 40, none, .mov (.s 39)⟩,
⟨some 41, some (40, false), .fldA 4 (.s 12)⟩,
⟨some 42, some (40, false), .load false 1 (.s 41)⟩,
⟨some 43, some (40, false), .idxA 1 (.s 42) (.c (.pure (.int .i64 0)))⟩,
⟨some 44, some (40, false), .load false 1 (.s 43)⟩,
⟨some 45, some (40, false), .mov (.s 2)⟩,
⟨some 46, some (40, false), .mov (.s 3)⟩,
⟨some 47, some (40, false), .idxA 10 (.s 45) (.s 46)⟩,
⟨some 48, some (40, false), .fldA 0 (.s 47)⟩,
⟨some 49, some (40, false), .load false 1 (.s 48)⟩]
[⟨some 50, some (40, false), .call 84 [(.s 44), (.s 49)]⟩,
⟨some 51, some (40, false), .un .not (.s 50)⟩,
⟨some 52, none, .pick (.s 40) (.c (.pure (.bool true))) (.s 51)⟩])
 (.cond (.s 52)
 (.exit 1)
 .skip))
 (.seq (.regq [⟨some 54, none, .load true 6 (.s 4)⟩,
⟨some 55, none, .load true 4 (.s 5)⟩,
⟨some 56, none, .mov (.s 2)⟩,
⟨some 57, none, .mov (.s 3)⟩,
⟨some 58, none, .fldA 4 (.s 12)⟩,
⟨some 59, none, .load false 1 (.s 58)⟩,
⟨some 60, none, .slc 1 (.s 59) (some (.c (.pure (.int .i64 1)))) none none⟩,
⟨some 61, none, .call 45 [(.s 54), (.s 55), (.s 56), (.s 57), (.s 60)]⟩,
⟨some 53, none, .mov (.s 61)⟩,
⟨some 62, none, .ext 0 (.s 53)⟩,
⟨some 63, none, .ext 1 (.s 53)⟩,
⟨some 13, none, .mov (.s 62)⟩]
[⟨some 14, none, .mov (.s 63)⟩])
 (.seq (.seq (.reg [⟨some 64, none, .mov (.s 14)⟩,
⟨some 65, none, .un .not (.s 64)⟩])
 (.cond (.s 65)
 (.exit 1)
 .skip))
 (.seq (.reg [⟨some 66, none, .mov (.s 3)⟩,
⟨some 67, none, .bslice 1 [(.s 66)]⟩,
⟨some 68, none, .mov (.s 13)⟩,
⟨some 69, none, .app 1 8 (.s 67) (.s 68)⟩,
⟨some 15, none, .mov (.s 69)⟩])
 (.seq (.seq (.reg [⟨some 71, none, .load true 6 (.s 4)⟩,
⟨some 72, none, .load true 4 (.s 5)⟩,
⟨some 73, none, .mov (.s 2)⟩,
⟨some 74, none, .mov (.s 3)⟩,
⟨some 75, none, .fldA 3 (.s 12)⟩,
⟨some 76, none, .load false 1 (.s 75)⟩,
⟨some 77, none, .call 44 [(.s 71), (.s 72), (.s 73), (.s 74), (.s 76)]⟩,
⟨some 70, none, .mov (.s 77)⟩,
⟨some 78, none, .ext 0 (.s 70)⟩,
⟨some 79, none, .ext 1 (.s 70)⟩,
⟨some 16, none, .mov (.s 78)⟩,
⟨some 17, none, .mov (.s 79)⟩])
 (.seq (.reg [⟨some 80, none, .mov (.s 17)⟩,
⟨some 81, none, .un .not (.s 80)⟩])
 (.cond (.s 81)
 (.exit 1)
 .skip)))
 (.seq (.regq [⟨some 83, none, .load true 6 (.s 4)⟩,
⟨some 84, none, .load true 4 (.s 5)⟩,
⟨some 85, none, .mov (.s 2)⟩,
⟨some 86, none, .mov (.s 15)⟩,
⟨some 87, none, .mov (.s 15)⟩,
⟨some 88, none, .len (.s 87)⟩,
⟨some 89, none, .bin .sub (.s 88) (.c (.pure (.int .i64 1)))⟩,
⟨some 90, none, .idxA 1 (.s 86) (.s 89)⟩,
⟨some 91, none, .load false 1 (.s 90)⟩,
⟨some 92, none, .fldA 5 (.s 12)⟩,
⟨some 93, none, .load false 1 (.s 92)⟩,
⟨some 94, none, .call 45 [(.s 83), (.s 84), (.s 85), (.s 91), (.s 93)]⟩,
⟨some 82, none, .mov (.s 94)⟩,
⟨some 95, none, .ext 0 (.s 82)⟩,
⟨some 96, none, .ext 1 (.s 82)⟩,
⟨some 18, none, .mov (.s 95)⟩]
[⟨some 19, none, .mov (.s 96)⟩])
 (.seq (.reg [⟨some 97, none, .mov (.s 19)⟩])
 (.cond (.s 97)
 (.seq (.reg [⟨some 98, none, .mov (.s 11)⟩,
⟨some 99, none, .mov (.s 15)⟩,
⟨some 8, none, .mov (.s 98)⟩,
⟨some 9, none, .mov (.s 99)⟩,
⟨some 10, none, .mov (.c (.pure (.bool true)))⟩])
 .ret)
 .skip))))))))))
 (.reg [⟨some 100, none, .bin .add (.s 31) (.c (.pure (.int .i64 1)))⟩,
⟨some 31, none, .mov (.s 100)⟩]))))
def c102 : AC :=
 (.seq (.reg [⟨some 4, none, .box (.s 0)⟩,
⟨some 5, none, .box (.s 1)⟩,
⟨some 8, none, .mov (.c (.pure (.int .i64 0)))⟩,
⟨some 9, none, .mov (.c .empty)⟩,
⟨some 10, none, .mov (.c (.pure (.bool false)))⟩])
 (.seq (.seq (.reg [⟨some 20, none, .mov (.s 3)⟩,
⟨some 21, none, .bin .lss (.s 20) (.c (.pure (.int .i64 0)))⟩,
⟨some 22, none, .mov (.s 21)⟩,
⟨some 23, some (22, false), .mov (.s 3)⟩,
⟨some 24, some (22, false), .mov (.s 2)⟩,
⟨some 25, some (22, false), .len (.s 24)⟩,
⟨some 26, some (22, false), .bin .geq (.s 23) (.s 25)⟩,
⟨some 27, none, .pick (.s 22) (.c (.pure (.bool true))) (.s 26)⟩])
 (.cond (.s 27)
 (.seq (.reg [⟨some 8, none, .mov (.c (.pure (.int .i64 0)))⟩,
⟨some 9, none, .mov (.c .empty)⟩,
⟨some 10, none, .mov (.c (.pure (.bool false)))⟩])
 .ret)
 .skip))
 (.seq (.seq (.reg [⟨some 28, none, .fldA 3 (.s 5)⟩,
⟨some 29, none, .load false 1 (.s 28)⟩,
⟨some 30, none, .len (.s 29)⟩,
⟨some 31, none, .mov (.c (.pure (.int .i64 0)))⟩])
 (.block 0
 (.loop c102_1)))
 c102_0)))
theorem k102 : OkF 102 Try.f102 c102 [.t 8, .t 9, .t 10] 101 := ⟨Try.func102, by kernel_rfl, by kernel_rfl, by kernel_rfl, Try.ntmps102⟩
theorem clone_c (l : List Int) (hl : l.length ≤ 1000) : CallA Try.prog 121 [.pure (LI l)] [] fun s H' => s = .rsl 0 0 l.length ∧ H' = [⟨(l.map I).map .pure, 1, .live⟩] := by
 refine CallA.virt 1 (by simp) ?_
 refine CallA.weak (K := fun s H' => (s = .rsl 1 0 l.length ∧ H' = [⟨[], 1, .dead⟩, ⟨(l.map I).map .pure, 1, .live⟩]) ∨ (l = [] ∧ s = .empty ∧ H' = [])) ?_ ?_
 ·refine k121.a (by simp) ?_
  unfold c121
  simp -implicitDefEqProofs only [*, vmp,↓vmd,seval]
  refine onN_intro fun b hb => ?_
  simp -implicitDefEqProofs only [*, vmp,↓vmd,seval]
  refine onB_intro (fun h => ?_) (fun h => ?_)
  ·simp -implicitDefEqProofs only [h, vmp,↓vmd,seval]
   rcases Nat.eq_zero_or_pos l.length with h0 | h0
   ·exact List.eq_nil_of_length_eq_zero h0
   ·rw [hb (by omega)] at h; cases h
  ·simp -implicitDefEqProofs only [h, vmp,↓vmd,seval]
   refine onIf'_intro (appOk_map (fun _ => rfl) rfl (by simp) (by omega) (by simp [maxLen]; omega)) ?_
   simp -implicitDefEqProofs only [vmp,↓vmd,seval]
 ·rintro s H' (⟨rfl, rfl⟩ | ⟨rfl, rfl, rfl⟩)
  ·exact ⟨[1], .rsl 0 0 l.length, [⟨(l.map I).map .pure, 1, .live⟩], by simp, rfl, (by simp -implicitDefEqProofs only [kpp,seval]), (by simp -implicitDefEqProofs only [kpp,seval]), .inl ⟨rfl, rfl⟩⟩
  ·exact ⟨[], .empty, [], by simp, rfl, (by simp -implicitDefEqProofs only [kpp,seval]), trivial, .inr ⟨rfl, rfl, rfl⟩⟩
def mvK (at' d : Int) (l : List Int) (k : Nat) : List Int := (l.take k).map (mv at' d) ++ l.drop k
theorem mvK_len {at' d : Int} {l : List Int} {k : Nat} : (mvK at' d l k).length = l.length := by simp [mvK]; omega
theorem mvK_zero {at' d : Int} {l : List Int} : mvK at' d l 0 = l := by simp [mvK]
theorem mvK_all {at' d : Int} {l : List Int} : mvK at' d l l.length = l.map (mv at' d) := by simp [mvK]
theorem mvK_set {at' d : Int} {l : List Int} {k : Nat} (h : k < l.length) : (mvK at' d l k).set k (mv at' d l[k]) = mvK at' d l (k + 1) := by
 have hk : ((l.take k).map (mv at' d)).length = k := by simp; omega
 rw [mvK, mvK, List.set_append_right _ _ (by omega), hk, Nat.sub_self, List.drop_eq_getElem_cons h, List.set_cons_zero, List.take_succ_eq_append_getElem h, List.map_append, List.append_assoc]
 rfl
theorem mvK_at {at' d : Int} {l : List Int} {k : Nat} (h : k < l.length) : (mvK at' d l k)[k]? = some l[k] := by
 have hk : ((l.take k).map (mv at' d)).length = k := by simp; omega
 rw [mvK, List.getElem?_append_right (by omega), hk, Nat.sub_self, List.drop_eq_getElem_cons h]
 rfl
theorem List.set_getElem_self' {α : Type} {l : List α} {k : Nat} {a : α} (h : l[k]? = some a) : l.set k a = l := by
 apply List.ext_getElem?
 intro i
 rw [List.getElem?_set]
 split
 ·rename_i hi
  subst hi
  split
  ·exact h.symm
  ·rename_i hlt
   rw [List.getElem?_eq_none (by omega)]
 ·rfl
theorem moved_q (l : List Int) (at' was now : Int) (hl : l.length ≤ 1000) : FnQ Try.prog 120 [LI l, I at', I was, I now] [LI (l.map (mv at' (IntKind.wrap .i64 (now - was))))] := by
 refine k120.q (by simp) ?_
 unfold c120
 simp -implicitDefEqProofs only [*, vmp,↓vmd,seval]
 refine onC_fr (clone_c l hl) [] (by simp) trivial rfl rfl (by simp) ?_
 generalize IntKind.wrap .i64 (now - was) = d
 simp -implicitDefEqProofs only [vmp,↓vmd,seval]
 refine onIf_intro fun hlen => ?_
 simp -implicitDefEqProofs only [vmp,↓vmd,seval]
 refine loop_at (T := Nat) (fun k => [(20, .pure (I k)), (19, .pure (I l.length)), (18, .pure (LI l)), (1, .pure (I at')), (9, .pure (I d)), (10, .rsl 0 0 l.length)]) (fun k => [⟨((mvK at' d l k).map I).map .pure, 1, .live⟩]) (fun k => k ≤ l.length) (fun k => l.length - k)
  0 [0] (by simp) rfl (by simp) (by simp -implicitDefEqProofs only [kpp,seval]) (by simp -implicitDefEqProofs only [mvK_zero, kpp,seval]) ?_
 intro k hk
 unfold c120_1
 simp -implicitDefEqProofs only [vmp,↓vmd,seval]
 refine onB_dec (fun h1 => ?_) (fun h1 => ?_)
 ·have hlt : k < l.length := by omega
  have hlt2 : k < (mvK at' d l k).length := by rw [mvK_len]; exact hlt
  simp -implicitDefEqProofs only [h1, map_at hlt, Int.natCast_nonneg, vmp,↓vmd,seval]
  have bk : ∀ {e : Env} {X : List Int}, X = mvK at' d l (k + 1) → keepE e 1 (pick [0]) [(20, .pure (I ((k + 1 : Nat) : Int))), (19, .pure (I l.length)), (18, .pure (LI l)), (1, .pure (I at')), (9, .pure (I d)), (10, .rsl 0 0 l.length)] →
    @onBk 0 ⟨Nat, fun k => [(20, .pure (I k)), (19, .pure (I l.length)), (18, .pure (LI l)), (1, .pure (I at')), (9, .pure (I d)), (10, .rsl 0 0 l.length)], fun k => [⟨((mvK at' d l k).map I).map .pure, 1, .live⟩], fun k => k ≤ l.length, fun k => l.length - k⟩ k e [⟨(X.map I).map .pure, 1, .live⟩] := by
   rintro e X rfl he
   exact onBk_to (k + 1) [0] (by simp) rfl (by omega) hlt he (by simp -implicitDefEqProofs only [kpp,seval])
  have same : mv at' d l[k] = l[k] → mvK at' d l k = mvK at' d l (k + 1) := by
   intro h
   rw [← mvK_set hlt, h]
   have := mvK_at (at' := at') (d := d) hlt
   exact (List.set_getElem_self' this).symm
  refine onB_dec (fun h2 => ?_) (fun h2 => ?_)
  ·simp -implicitDefEqProofs only [h2, vmp,↓vmd,seval]
   exact bk (same (by simp [mv, h2])) (by simp -implicitDefEqProofs only [next_at hlt hlen, kpp,seval])
  simp -implicitDefEqProofs only [h2, vmp,↓vmd,seval]
  refine onB_dec (fun h3 => ?_) (fun h3 => ?_)
  ·simp -implicitDefEqProofs only [h3, vmp,↓vmd,seval]
   exact bk (same (by simp [mv, h3])) (by simp -implicitDefEqProofs only [next_at hlt hlen, kpp,seval])
  have hmv : mv at' d l[k] = if d < 0 ∧ l[k] ≤ IntKind.wrap .i64 (at' - d) then -1 else IntKind.wrap .i64 (l[k] + d) := by
   rw [mv, if_neg]
   rintro (h | h)
   ·exact h2 h
   ·exact h3 h
  simp -implicitDefEqProofs only [h3, vmp,↓vmd,seval]
  refine onB_dec (fun h4 => ?_) (fun h4 => ?_)
  ·simp -implicitDefEqProofs only [h4, vmp,↓vmd,seval]
   refine onB_dec (fun h5 => ?_) (fun h5 => ?_)
   ·simp -implicitDefEqProofs only [h5, Int.natCast_nonneg, h1, row_at hlt2, row_set, vmp,↓vmd,seval]
    exact bk (by rw [← mvK_set hlt, hmv, if_pos ⟨h4, h5⟩]) (by simp -implicitDefEqProofs only [next_at hlt hlen, kpp,seval])
   ·simp -implicitDefEqProofs only [h5, Int.natCast_nonneg, h1, row_at hlt2, row_set, vmp,↓vmd,seval]
    exact bk (by rw [← mvK_set hlt, hmv, if_neg (by simp [h5])]) (by simp -implicitDefEqProofs only [next_at hlt hlen, kpp,seval])
  ·simp -implicitDefEqProofs only [h4, Int.natCast_nonneg, h1, row_at hlt2, row_set, vmp,↓vmd,seval]
   exact bk (by rw [← mvK_set hlt, hmv, if_neg (by simp [h4])]) (by simp -implicitDefEqProofs only [next_at hlt hlen, kpp,seval])
 ·simp -implicitDefEqProofs only [h1, vmp,↓vmd,seval]
  unfold c120_0
  simp -implicitDefEqProofs only [vmp,↓vmd,seval]
  obtain rfl : k = l.length := by omega
  rw [mvK_all]
  exact gives_row' rfl (by simp) (by simp)
theorem match_q (f : Fo) (k : Lk) (ls : List Gl) (hl : ls.length ≤ 1000) (x : Int) (hs : ∀ s ∈ k.subs, s.back.length ≤ 16 ∧ s.inn.length ≤ 16 ∧ s.ahead.length ≤ 16) :
  FnQ Try.prog 102 [fo f, lk k, .sl (ls.map gl), I x] (matR (matchF f k ls x)) := by
 refine k102.q (by simp) ?_
 unfold c102
 simp -implicitDefEqProofs only [*, vmp,↓vmd,seval]
 by_cases h0 : x < 0
 ·simp -implicitDefEqProofs only [h0, vmp,↓vmd,seval]
  rw [matchF, if_pos (.inl h0)]
  exact gives_tup rfl (by simp)
 simp -implicitDefEqProofs only [h0, vmp,↓vmd,seval]
 refine onIf_intro fun _ => ?_
 simp -implicitDefEqProofs only [h0, vmp,↓vmd,seval]
 by_cases h1 : (ls.length : Int) ≤ x
 ·simp -implicitDefEqProofs only [h1, vmp,↓vmd,seval]
  rw [matchF, if_pos (.inr h1)]
  exact gives_tup rfl (by simp)
 simp -implicitDefEqProofs only [h1, vmp,↓vmd,seval]
 refine onIf_intro fun _ => ?_
 simp -implicitDefEqProofs only [vmp,↓vmd,seval]
 rw [matchF, if_neg (by omega)]
 refine loop_at (T := Nat) (fun i => [(31, .pure (I i)), (30, .pure (I k.subs.length)), (29, .pure (.sl (k.subs.map sub))), (2, .pure (.sl (ls.map gl))), (3, .pure (I x)), (4, .ptr 0 0 0), (5, .ptr 1 0 0)]) (fun _ => [⟨[.pure (fo f)], 6, .live⟩, ⟨[.pure (lk k)], 4, .live⟩]) (fun i => i ≤ k.subs.length ∧ matF (stF f k.flags k.set ls x) i (k.subs.drop i) = matF (stF f k.flags k.set ls x) 0 k.subs) (fun i => k.subs.length - i)
  0 [0, 1] (by simp) rfl ⟨by simp, by simp⟩ (by simp -implicitDefEqProofs only [kpp,seval]) (by simp -implicitDefEqProofs only [kpp,seval]) ?_
 rintro i ⟨hi, hr⟩
 unfold c102_1
 simp -implicitDefEqProofs only [vmp,↓vmd,seval]
 by_cases h2 : (i : Int) < (k.subs.length : Int)
 ·have hlt : i < k.subs.length := by omega
  rw [drop_at hlt, matF] at hr
  obtain ⟨hb, hin, ha⟩ := hs _ (List.getElem_mem hlt)
  obtain ⟨s, hs'⟩ : ∃ s, s = k.subs[i] := ⟨_, rfl⟩
  have hmap : (k.subs.map sub)[i]? = some (sub s) := by rw [map_at hlt, hs']
  rw [← hs'] at hr hb hin ha
  obtain ⟨q, hq1, hq2⟩ := at_id (ls := ls) (y := x) (by omega) (by omega)
  have hx0 : 0 ≤ x := by omega
  have hx1 : x < ls.length := by omega
  have back : ∀ {o : Option (List Int)}, stF f k.flags k.set ls x s = o → o = none → matF (stF f k.flags k.set ls x) (i + 1) (k.subs.drop (i + 1)) = matF (stF f k.flags k.set ls x) 0 k.subs := fun e1 e2 => by rw [e1, e2] at hr; exact hr
  simp -implicitDefEqProofs only [h2, hmap, Int.natCast_nonneg, vmp,↓vmd,seval]
  obtain hz | ⟨z, zs, hz⟩ : s.inn = [] ∨ ∃ z zs, s.inn = z :: zs := by cases s.inn <;> simp
  ·simp -implicitDefEqProofs only [hz, vmp,↓vmd,seval]
   refine onBk_to (i + 1) [0, 1] (by simp) rfl (by omega) ⟨hlt, back (o := none) (by rw [stF, hz]) rfl⟩ (by simp -implicitDefEqProofs only [next_at hlt (by omega), kpp,seval]) (by simp -implicitDefEqProofs only [kpp,seval])
  ·rw [hz] at hin
   simp only [List.length_cons] at hin
   obtain ⟨e0, en, es⟩ := inn_cons hz
   have hst : stF f k.flags k.set ls x s = if idAt ls x ∉ z then none else match rowF (nextF (seesF f k.flags k.set ls) ls.length) ls zs x with
     | none => none
     | some r => match rowF (prevF (seesF f k.flags k.set ls) ls.length) ls s.back x with
      | none => none
      | some _ => match rowF (nextF (seesF f k.flags k.set ls) ls.length) ls s.ahead (lastF x r) with
       | none => none
       | some _ => some (x :: r) := by rw [stF, hz] <;> rfl
   simp -implicitDefEqProofs only [e0, en, hq1, hx0, hx1, vmp,↓vmd,seval]
   refine onC_q (contains_q _ _) rfl ?_
   rw [hq2]
   (first | apply envO | apply envQ); simp -implicitDefEqProofs only [vmp,↓vmd,seval]; rfl
   by_cases hm : idAt ls x ∈ z
   ·rw [if_neg (by simp [hm])] at hst
    simp -implicitDefEqProofs only [hm, es, en, vmp,↓vmd,seval]
    have hr1 := row_q f k.kind k.flags k.set (.sl (k.subs.map sub)) ls hl x zs (by omega)
    have hr2 := back_q f k.kind k.flags k.set (.sl (k.subs.map sub)) ls hl x s.back (by omega)
    cases hc1 : rowF (nextF (seesF f k.flags k.set ls) ls.length) ls zs x with
    | none =>
     rw [hc1] at hr1 hst
     have hr1' : FnQ Try.prog 45 [fo f, lk k, .sl (ls.map gl), I x, LL zs] [LI [], .bool false] := hr1
     refine onQ_q hr1' rfl ?_
     (first | apply envO | apply envQ); simp -implicitDefEqProofs only [vmp,↓vmd,seval]; rfl
     simp -implicitDefEqProofs only [vmp,↓vmd,seval]
     refine onBk_to (i + 1) [0, 1] (by simp) rfl (by omega) ⟨hlt, back hst rfl⟩ (by simp -implicitDefEqProofs only [next_at hlt (by omega), kpp,seval]) (by simp -implicitDefEqProofs only [kpp,seval])
    | some r =>
     rw [hc1] at hr1 hst
     have hrl := rowF_len hc1
     have hr1' : FnQ Try.prog 45 [fo f, lk k, .sl (ls.map gl), I x, LL zs] [LI r, .bool true] := hr1
     refine onQ_q hr1' rfl ?_
     (first | apply envO | apply envQ); simp -implicitDefEqProofs only [vmp,↓vmd,seval]; rfl
     simp -implicitDefEqProofs only [vmp,↓vmd,seval]
     refine onIf'_intro (appOk_map (fun _ => rfl) rfl (by simp) (by omega) (by simp [maxLen]; omega)) ?_
     simp -implicitDefEqProofs only [vmp,↓vmd,seval]
     cases hc2 : rowF (prevF (seesF f k.flags k.set ls) ls.length) ls s.back x with
     | none =>
      rw [hc2] at hr2
      have hst2 : stF f k.flags k.set ls x s = none := by rw [hst]; simp only [hc2]
      have hr2' : FnQ Try.prog 44 [fo f, lk k, .sl (ls.map gl), I x, LL s.back] [LI [], .bool false] := hr2
      refine onC_q hr2' rfl ?_
      (first | apply envO | apply envQ); simp -implicitDefEqProofs only [vmp,↓vmd,seval]; rfl
      simp -implicitDefEqProofs only [vmp,↓vmd,seval]
      refine onBk_to (i + 1) [0, 1] (by simp) rfl (by omega) ⟨hlt, back hst2 rfl⟩ (by simp -implicitDefEqProofs only [next_at hlt (by omega), kpp,seval]) (by simp -implicitDefEqProofs only [kpp,seval])
     | some r2 =>
      rw [hc2] at hr2
      have hr2' : FnQ Try.prog 44 [fo f, lk k, .sl (ls.map gl), I x, LL s.back] [LI r2, .bool true] := hr2
      refine onC_q hr2' rfl ?_
      (first | apply envO | apply envQ); simp -implicitDefEqProofs only [vmp,↓vmd,seval]; rfl
      have hwL : IntKind.wrap .i64 (((1 + r.length : Nat) : Int) - 1) = (r.length : Int) := by rw [wrap_id (by omega) (by omega)]; omega
      simp -implicitDefEqProofs only [hwL, last_at, Int.natCast_nonneg, show (r.length : Int) < ((1 + r.length : Nat) : Int) by omega, vmp,↓vmd,seval]
      have hr3 := row_q f k.kind k.flags k.set (.sl (k.subs.map sub)) ls hl (lastF x r) s.ahead (by omega)
      cases hc3 : rowF (nextF (seesF f k.flags k.set ls) ls.length) ls s.ahead (lastF x r) with
      | none =>
       rw [hc3] at hr3
       have hst2 : stF f k.flags k.set ls x s = none := by rw [hst]; simp only [hc2, hc3]
       have hr3' : FnQ Try.prog 45 [fo f, lk k, .sl (ls.map gl), I (lastF x r), LL s.ahead] [LI [], .bool false] := hr3
       refine onQ_q hr3' rfl ?_
       (first | apply envO | apply envQ); simp -implicitDefEqProofs only [vmp,↓vmd,seval]; rfl
       simp -implicitDefEqProofs only [vmp,↓vmd,seval]
       refine onBk_to (i + 1) [0, 1] (by simp) rfl (by omega) ⟨hlt, back hst2 rfl⟩ (by simp -implicitDefEqProofs only [next_at hlt (by omega), kpp,seval]) (by simp -implicitDefEqProofs only [kpp,seval])
      | some r3 =>
       rw [hc3] at hr3
       have hst2 : stF f k.flags k.set ls x s = some (x :: r) := by rw [hst]; simp only [hc2, hc3]
       have hr3' : FnQ Try.prog 45 [fo f, lk k, .sl (ls.map gl), I (lastF x r), LL s.ahead] [LI r3, .bool true] := hr3
       refine onQ_q hr3' rfl ?_
       (first | apply envO | apply envQ); simp -implicitDefEqProofs only [vmp,↓vmd,seval]; rfl
       simp -implicitDefEqProofs only [vmp,↓vmd,seval]
       rw [hst2] at hr
       rw [← hr]
       exact gives_tup (toVs_of rfl (toVs_of (toV_row1 rfl (.inr ⟨rfl, rfl⟩) (by omega)) rfl)) (by simp)
   ·rw [if_pos hm] at hst
    simp -implicitDefEqProofs only [hm, en, vmp,↓vmd,seval]
    refine onBk_to (i + 1) [0, 1] (by simp) rfl (by omega) ⟨hlt, back hst rfl⟩ (by simp -implicitDefEqProofs only [next_at hlt (by omega), kpp,seval]) (by simp -implicitDefEqProofs only [kpp,seval])
 ·simp -implicitDefEqProofs only [h2, vmp,↓vmd,seval]
  unfold c102_0
  simp -implicitDefEqProofs only [vmp,↓vmd,seval]
  rw [List.drop_of_length_le (by omega)] at hr
  rw [← hr]
  exact gives_tup rfl (by simp)
end Go.Proofs.Ytcjmkpkhjhjepaa.W
