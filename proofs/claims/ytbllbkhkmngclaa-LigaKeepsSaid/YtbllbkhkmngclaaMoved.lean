/-
  The law ContextMoved: what its function does, and what all that it calls does, for every input. No condition.
-/
import Derived.Test.YtbllbkhkmngclaaSame
namespace Go.Proofs.Ytbllbkhkmngclaa.W
open Go Go.Vm Go.Proofs
set_option maxRecDepth 100000
set_option linter.unusedSimpArgs false
/-! slices.Clone[[]int,int] -/
def c79 : AC :=
  (.seq (.reg [⟨some 2, none, .mov (.c .empty)⟩])
  (.seq (.seq (.reg [⟨some 3, none, .mov (.s 0)⟩,
    ⟨some 4, none, .slnil false (.s 3)⟩])
  (.cond (.s 4)
  (.seq (.reg [⟨some 2, none, .mov (.c .empty)⟩])
  .ret)
  .skip))
  (.seq (.reg [⟨some 5, none, .bslice 1 []⟩,
    ⟨some 6, none, .mov (.s 0)⟩,
    ⟨some 7, none, .app 1 8 (.s 5) (.s 6)⟩,
    ⟨some 2, none, .mov (.s 7)⟩])
  .ret)))
theorem k79 : (Try.f79.body.bind fun c => cCode Try.prog Try.f79.ntmps RCs c) = some c79 := by kernel_rfl
theorem h79 : (Try.f79.name == "runtime.NumGoroutine") = false := by kernel_rfl
theorem r79 : resC Try.prog Try.f79.results.toList = some [.t 2] := by kernel_rfl
theorem a79 {args : List S} {H : Heap} {K : S → Heap → Prop} (hn : args.length ≤ 8) (h : aWx Try.prog H.length c79 (PostX [.t 2] K) (argEnv 0 args) H) : CallA Try.prog 79 args H K :=
  callA_of_x mixed Try.func79 h79 k79 r79 (by rw [Try.ntmps79]; exact hn) h
theorem q79 {vs ds : List V} (hn : vs.length ≤ 8) (h : aWx Try.prog 0 c79 (PostX [.t 2] (Gives ds)) (argEnv 0 (vs.map .pure)) []) : FnQ Try.prog 79 vs ds :=
  fnQ_of_call (a79 (by simpa using hn) h)
/-! typecase/context.Moved -/
def c88_0 : AC :=
  (.seq (.reg [⟨some 53, none, .mov (.s 10)⟩,
    ⟨some 8, none, .mov (.s 53)⟩])
  .ret)
def c88_1 : AC :=
  (.seq (.reg [⟨some 21, none, .bin .lss (.s 20) (.s 19)⟩])
  (.seq (.cond (.s 21)
  .skip
  (.exit 0))
  (.seq (.block 1
  (.seq (.reg [⟨some 22, none, .mov (.s 20)⟩,
    ⟨some 23, none, .idxA 1 (.s 18) (.s 20)⟩,
    ⟨some 24, none, .load false 1 (.s 23)⟩,
    ⟨some 11, none, .mov (.s 22)⟩,
    ⟨some 12, none, .mov (.s 24)⟩])
  (.block 2
  (.seq (.reg [⟨some 32, none, .mov (.s 12)⟩,
    ⟨some 33, none, .bin .eql (.s 32) (.c (.pure (.int .i64 (-1))))⟩,
    ⟨some 34, none, .mov (.s 33)⟩,
    ⟨some 35, some (34, false), .mov (.s 12)⟩,
    ⟨some 36, some (34, false), .mov (.s 1)⟩,
    ⟨some 37, some (34, false), .bin .leq (.s 35) (.s 36)⟩,
    ⟨some 38, none, .pick (.s 34) (.c (.pure (.bool true))) (.s 37)⟩,
    ⟨some 31, none, .mov (.s 38)⟩])
  (.cond (.s 31)
  .skip
  (.seq (.reg [⟨some 40, none, .mov (.s 9)⟩,
    ⟨some 41, none, .bin .lss (.s 40) (.c (.pure (.int .i64 0)))⟩,
    ⟨some 42, none, .mov (.s 41)⟩,
    ⟨some 43, some (42, true), .mov (.s 12)⟩,
    ⟨some 44, some (42, true), .mov (.s 1)⟩,
    ⟨some 45, some (42, true), .mov (.s 9)⟩,
    ⟨some 46, some (42, true), .bin .sub (.s 44) (.s 45)⟩,
    ⟨some 47, some (42, true), .bin .leq (.s 43) (.s 46)⟩,
    ⟨some 48, none, .pick (.s 42) (.s 47) (.c (.pure (.bool false)))⟩,
    ⟨some 39, none, .mov (.s 48)⟩])
  (.cond (.s 39)
  (.reg [⟨some 49, none, .mov (.s 10)⟩,
    ⟨some 50, none, .mov (.s 11)⟩,
    ⟨some 51, none, .idxA 1 (.s 49) (.s 50)⟩,
    ⟨none, none, .store 1 (.s 51) (.c (.pure (.int .i64 (-1))))⟩])
  (.reg [⟨some 25, none, .mov (.s 10)⟩,
    ⟨some 26, none, .mov (.s 11)⟩,
    ⟨some 27, none, .mov (.s 12)⟩,
    ⟨some 28, none, .mov (.s 9)⟩,
    ⟨some 29, none, .bin .add (.s 27) (.s 28)⟩,
    ⟨some 30, none, .idxA 1 (.s 25) (.s 26)⟩,
    ⟨none, none, .store 1 (.s 30) (.s 29)⟩]))))))))
  (.reg [⟨some 52, none, .bin .add (.s 20) (.c (.pure (.int .i64 1)))⟩,
    ⟨some 20, none, .mov (.s 52)⟩]))))
def c88 : AC :=
  (.seq (.reg [⟨some 8, none, .mov (.c .empty)⟩])
  (.seq (.reg [⟨some 13, none, .mov (.s 3)⟩,
    ⟨some 14, none, .mov (.s 2)⟩,
    ⟨some 15, none, .bin .sub (.s 13) (.s 14)⟩,
    ⟨some 9, none, .mov (.s 15)⟩])
  (.seq (.reg [⟨some 16, none, .mov (.s 0)⟩,
    ⟨some 17, none, .call 79 [(.s 16)]⟩,
    ⟨some 10, none, .mov (.s 17)⟩])
  (.seq (.seq (.reg [⟨some 18, none, .mov (.s 0)⟩,
    ⟨some 19, none, .len (.s 18)⟩,
    ⟨some 20, none, .mov (.c (.pure (.int .i64 0)))⟩])
  (.block 0
  (.loop c88_1)))
  c88_0))))
theorem k88 : (Try.f88.body.bind fun c => cCode Try.prog Try.f88.ntmps RCs c) = some c88 := by kernel_rfl
theorem h88 : (Try.f88.name == "runtime.NumGoroutine") = false := by kernel_rfl
theorem r88 : resC Try.prog Try.f88.results.toList = some [.t 8] := by kernel_rfl
theorem a88 {args : List S} {H : Heap} {K : S → Heap → Prop} (hn : args.length ≤ 54) (h : aWx Try.prog H.length c88 (PostX [.t 8] K) (argEnv 0 args) H) : CallA Try.prog 88 args H K :=
  callA_of_x mixed Try.func88 h88 k88 r88 (by rw [Try.ntmps88]; exact hn) h
theorem q88 {vs ds : List V} (hn : vs.length ≤ 54) (h : aWx Try.prog 0 c88 (PostX [.t 8] (Gives ds)) (argEnv 0 (vs.map .pure)) []) : FnQ Try.prog 88 vs ds :=
  fnQ_of_call (a88 (by simpa using hn) h)
/-! typecase/typecaseref29.Moved -/
def c66_0 : AC :=
  (.seq (.reg [⟨some 51, none, .mov (.s 10)⟩,
    ⟨some 8, none, .mov (.s 51)⟩])
  .ret)
def c66_1 : AC :=
  (.seq (.seq (.reg [⟨some 16, none, .mov (.s 11)⟩,
    ⟨some 17, none, .mov (.s 0)⟩,
    ⟨some 18, none, .len (.s 17)⟩,
    ⟨some 19, none, .bin .lss (.s 16) (.s 18)⟩])
  (.cond (.s 19)
  .skip
  (.exit 0)))
  (.seq (.block 1
  (.seq (.reg [⟨some 22, none, .mov (.s 0)⟩,
    ⟨some 23, none, .mov (.s 11)⟩,
    ⟨some 24, none, .idxA 1 (.s 22) (.s 23)⟩,
    ⟨some 25, none, .load false 1 (.s 24)⟩,
    ⟨some 12, none, .mov (.s 25)⟩])
  (.seq (.block 2
  (.seq (.reg [⟨some 30, none, .mov (.s 12)⟩,
    ⟨some 31, none, .bin .eql (.s 30) (.c (.pure (.int .i64 (-1))))⟩,
    ⟨some 32, none, .mov (.s 31)⟩,
    ⟨some 33, some (32, false), .mov (.s 12)⟩,
    ⟨some 34, some (32, false), .mov (.s 1)⟩,
    ⟨some 35, some (32, false), .bin .leq (.s 33) (.s 34)⟩,
    ⟨some 36, none, .pick (.s 32) (.c (.pure (.bool true))) (.s 35)⟩,
    ⟨some 29, none, .mov (.s 36)⟩])
  (.cond (.s 29)
  .skip
  (.seq (.reg [⟨some 38, none, .mov (.s 9)⟩,
    ⟨some 39, none, .bin .lss (.s 38) (.c (.pure (.int .i64 0)))⟩,
    ⟨some 40, none, .mov (.s 39)⟩,
    ⟨some 41, some (40, true), .mov (.s 12)⟩,
    ⟨some 42, some (40, true), .mov (.s 1)⟩,
    ⟨some 43, some (40, true), .mov (.s 9)⟩,
    ⟨some 44, some (40, true), .bin .sub (.s 42) (.s 43)⟩,
    ⟨some 45, some (40, true), .bin .leq (.s 41) (.s 44)⟩,
    ⟨some 46, none, .pick (.s 40) (.s 45) (.c (.pure (.bool false)))⟩,
    ⟨some 37, none, .mov (.s 46)⟩])
  (.cond (.s 37)
  (.reg [⟨some 12, none, .mov (.c (.pure (.int .i64 (-1))))⟩])
  (.reg [⟨some 26, none, .mov (.s 12)⟩,
    ⟨some 27, none, .mov (.s 9)⟩,
    ⟨some 28, none, .bin .add (.s 26) (.s 27)⟩,
    ⟨some 12, none, .mov (.s 28)⟩]))))))
  (.reg [⟨some 47, none, .mov (.s 10)⟩,
    ⟨some 48, none, .mov (.s 12)⟩,
    ⟨some 49, none, .bslice 1 [(.s 48)]⟩,
    ⟨some 50, none, .app 1 8 (.s 47) (.s 49)⟩,
    ⟨some 10, none, .mov (.s 50)⟩]))))
  (.reg [⟨some 20, none, .mov (.s 11)⟩,
    ⟨some 21, none, .bin .add (.s 20) (.c (.pure (.int .i64 1)))⟩,
    ⟨some 11, none, .mov (.s 21)⟩])))
def c66 : AC :=
  (.seq (.reg [⟨some 8, none, .mov (.c .empty)⟩])
  (.seq (.reg [⟨some 13, none, .mov (.s 3)⟩,
    ⟨some 14, none, .mov (.s 2)⟩,
    ⟨some 15, none, .bin .sub (.s 13) (.s 14)⟩,
    ⟨some 9, none, .mov (.s 15)⟩])
  (.seq (.reg [⟨some 10, none, .mov (.c .empty)⟩])
  (.seq (.seq (.reg [⟨some 11, none, .mov (.c (.pure (.int .i64 0)))⟩])
  (.block 0
  (.loop c66_1)))
  c66_0))))
theorem k66 : (Try.f66.body.bind fun c => cCode Try.prog Try.f66.ntmps RCs c) = some c66 := by kernel_rfl
theorem h66 : (Try.f66.name == "runtime.NumGoroutine") = false := by kernel_rfl
theorem r66 : resC Try.prog Try.f66.results.toList = some [.t 8] := by kernel_rfl
theorem a66 {args : List S} {H : Heap} {K : S → Heap → Prop} (hn : args.length ≤ 52) (h : aWx Try.prog H.length c66 (PostX [.t 8] K) (argEnv 0 args) H) : CallA Try.prog 66 args H K :=
  callA_of_x mixed Try.func66 h66 k66 r66 (by rw [Try.ntmps66]; exact hn) h
theorem q66 {vs ds : List V} (hn : vs.length ≤ 52) (h : aWx Try.prog 0 c66 (PostX [.t 8] (Gives ds)) (argEnv 0 (vs.map .pure)) []) : FnQ Try.prog 66 vs ds :=
  fnQ_of_call (a66 (by simpa using hn) h)

theorem clone_c (l : List Int) (hl : l.length ≤ 1000) : CallA Try.prog 79 [.pure (LI l)] [] fun s H' => s = .rsl 0 0 l.length ∧ H' = [⟨(l.map I).map .pure, 1, .live⟩] := by
  refine CallA.virt 1 (by simp) ?_
  refine CallA.weak (K := fun s H' => (s = .rsl 1 0 l.length ∧ H' = [⟨[], 1, .dead⟩, ⟨(l.map I).map .pure, 1, .live⟩]) ∨ (l = [] ∧ s = .empty ∧ H' = [])) ?_ ?_
  · refine a79 (by simp) ?_
    unfold c79
    simp -implicitDefEqProofs only [*, vmp,↓vmd,seval]
    refine onN_intro fun b hb => ?_
    simp -implicitDefEqProofs only [*, vmp,↓vmd,seval]
    refine onB_intro (fun h => ?_) (fun h => ?_)
    · simp -implicitDefEqProofs only [h, vmp,↓vmd,seval]
      rcases Nat.eq_zero_or_pos l.length with h0 | h0
      · exact List.eq_nil_of_length_eq_zero h0
      · rw [hb (by omega)] at h; cases h
    · simp -implicitDefEqProofs only [h, vmp,↓vmd,seval]
      refine onIf'_intro (appOk_map (fun _ => rfl) rfl (by simp) (by omega) (by simp [maxLen]; omega)) ?_
      simp -implicitDefEqProofs only [vmp,↓vmd,seval]
  · rintro s H' (⟨rfl, rfl⟩ | ⟨rfl, rfl, rfl⟩)
    · exact ⟨[1], .rsl 0 0 l.length, [⟨(l.map I).map .pure, 1, .live⟩], by simp, rfl, (by simp -implicitDefEqProofs only [kpp,seval]), (by simp -implicitDefEqProofs only [kpp,seval]), .inl ⟨rfl, rfl⟩⟩
    · exact ⟨[], .empty, [], by simp, rfl, (by simp -implicitDefEqProofs only [kpp,seval]), trivial, .inr ⟨rfl, rfl, rfl⟩⟩
/-- where a place comes to lie -/
def mv (at' d p : Int) : Int := if p = -1 ∨ p ≤ at' then p else if d < 0 ∧ p ≤ IntKind.wrap .i64 (at' - d) then -1 else IntKind.wrap .i64 (p + d)
def mvK (at' d : Int) (l : List Int) (k : Nat) : List Int := (l.take k).map (mv at' d) ++ l.drop k
theorem mvK_len {at' d : Int} {l : List Int} {k : Nat} : (mvK at' d l k).length = l.length := by simp [mvK]; omega
theorem mvK_zero {at' d : Int} {l : List Int} : mvK at' d l 0 = l := by simp [mvK]
theorem mvK_all {at' d : Int} {l : List Int} : mvK at' d l l.length = l.map (mv at' d) := by simp [mvK]
theorem mvK_set {at' d : Int} {l : List Int} {k : Nat} (h : k < l.length) : (mvK at' d l k).set k (mv at' d l[k]) = mvK at' d l (k + 1) := by
  have hk : ((l.take k).map (mv at' d)).length = k := by simp; omega
  rw [mvK, mvK, List.set_append_right _ _ (by omega), hk, Nat.sub_self, List.drop_eq_getElem_cons h, List.set_cons_zero, List.take_succ_eq_append_getElem h, List.map_append, List.append_assoc]
  rfl
theorem mvK_at {at' d : Int} {l : List Int} {k : Nat} (h : k < l.length) : (mvK at' d l k)[k]? = some l[k] := by
  have hk : ((l.take k).map (mv at' d)).length = k := by simp; omega
  rw [mvK, List.getElem?_append_right (by omega), hk, Nat.sub_self, List.drop_eq_getElem_cons h]
  rfl
theorem List.set_getElem_self' {α : Type} {l : List α} {k : Nat} {a : α} (h : l[k]? = some a) : l.set k a = l := by
  apply List.ext_getElem?
  intro i
  rw [List.getElem?_set]
  split
  · rename_i hi
    subst hi
    split
    · exact h.symm
    · rename_i hlt
      rw [List.getElem?_eq_none (by omega)]
  · rfl
theorem moved_q (l : List Int) (at' was now : Int) (hl : l.length ≤ 1000) : FnQ Try.prog 88 [LI l, I at', I was, I now] [LI (l.map (mv at' (IntKind.wrap .i64 (now - was))))] := by
  refine q88 (by simp) ?_
  unfold c88
  simp -implicitDefEqProofs only [*, vmp,↓vmd,seval]
  refine onC_fr (clone_c l hl) [] (by simp) trivial rfl rfl (by simp) ?_
  generalize IntKind.wrap .i64 (now - was) = d
  simp -implicitDefEqProofs only [vmp,↓vmd,seval]
  refine onIf_intro fun hlen => ?_
  simp -implicitDefEqProofs only [vmp,↓vmd,seval]
  refine loop_at (T := Nat) (fun k => [(20, .pure (I k)), (19, .pure (I l.length)), (18, .pure (LI l)), (1, .pure (I at')), (9, .pure (I d)), (10, .rsl 0 0 l.length)]) (fun k => [⟨((mvK at' d l k).map I).map .pure, 1, .live⟩]) (fun k => k ≤ l.length) (fun k => l.length - k)
    0 [0] (by simp) rfl (by simp) (by simp -implicitDefEqProofs only [kpp,seval]) (by simp -implicitDefEqProofs only [mvK_zero, kpp,seval]) ?_
  intro k hk
  unfold c88_1
  simp -implicitDefEqProofs only [vmp,↓vmd,seval]
  refine onB_dec (fun h1 => ?_) (fun h1 => ?_)
  · have hlt : k < l.length := by omega
    have hlt2 : k < (mvK at' d l k).length := by rw [mvK_len]; exact hlt
    simp -implicitDefEqProofs only [h1, map_at hlt, Int.natCast_nonneg, vmp,↓vmd,seval]
    have bk : ∀ {e : Env} {X : List Int}, X = mvK at' d l (k + 1) → keepE e 1 (pick [0]) [(20, .pure (I ((k + 1 : Nat) : Int))), (19, .pure (I l.length)), (18, .pure (LI l)), (1, .pure (I at')), (9, .pure (I d)), (10, .rsl 0 0 l.length)] →
        @onBk 0 ⟨Nat, fun k => [(20, .pure (I k)), (19, .pure (I l.length)), (18, .pure (LI l)), (1, .pure (I at')), (9, .pure (I d)), (10, .rsl 0 0 l.length)], fun k => [⟨((mvK at' d l k).map I).map .pure, 1, .live⟩], fun k => k ≤ l.length, fun k => l.length - k⟩ k e [⟨(X.map I).map .pure, 1, .live⟩] := by
      rintro e X rfl he
      exact onBk_to (k + 1) [0] (by simp) rfl (by omega) hlt he (by simp -implicitDefEqProofs only [kpp,seval])
    have same : mv at' d l[k] = l[k] → mvK at' d l k = mvK at' d l (k + 1) := by
      intro h
      rw [← mvK_set hlt, h]
      have := mvK_at (at' := at') (d := d) hlt
      exact (List.set_getElem_self' this).symm
    refine onB_dec (fun h2 => ?_) (fun h2 => ?_)
    · simp -implicitDefEqProofs only [h2, vmp,↓vmd,seval]
      exact bk (same (by simp [mv, h2])) (by simp -implicitDefEqProofs only [next_at hlt hlen, kpp,seval])
    simp -implicitDefEqProofs only [h2, vmp,↓vmd,seval]
    refine onB_dec (fun h3 => ?_) (fun h3 => ?_)
    · simp -implicitDefEqProofs only [h3, vmp,↓vmd,seval]
      exact bk (same (by simp [mv, h3])) (by simp -implicitDefEqProofs only [next_at hlt hlen, kpp,seval])
    have hmv : mv at' d l[k] = if d < 0 ∧ l[k] ≤ IntKind.wrap .i64 (at' - d) then -1 else IntKind.wrap .i64 (l[k] + d) := by
      rw [mv, if_neg]
      rintro (h | h)
      · exact h2 h
      · exact h3 h
    simp -implicitDefEqProofs only [h3, vmp,↓vmd,seval]
    refine onB_dec (fun h4 => ?_) (fun h4 => ?_)
    · simp -implicitDefEqProofs only [h4, vmp,↓vmd,seval]
      refine onB_dec (fun h5 => ?_) (fun h5 => ?_)
      · simp -implicitDefEqProofs only [h5, Int.natCast_nonneg, h1, row_at hlt2, row_set, vmp,↓vmd,seval]
        exact bk (by rw [← mvK_set hlt, hmv, if_pos ⟨h4, h5⟩]) (by simp -implicitDefEqProofs only [next_at hlt hlen, kpp,seval])
      · simp -implicitDefEqProofs only [h5, Int.natCast_nonneg, h1, row_at hlt2, row_set, vmp,↓vmd,seval]
        exact bk (by rw [← mvK_set hlt, hmv, if_neg (by simp [h5])]) (by simp -implicitDefEqProofs only [next_at hlt hlen, kpp,seval])
    · simp -implicitDefEqProofs only [h4, Int.natCast_nonneg, h1, row_at hlt2, row_set, vmp,↓vmd,seval]
      exact bk (by rw [← mvK_set hlt, hmv, if_neg (by simp [h4])]) (by simp -implicitDefEqProofs only [next_at hlt hlen, kpp,seval])
  · simp -implicitDefEqProofs only [h1, vmp,↓vmd,seval]
    unfold c88_0
    simp -implicitDefEqProofs only [vmp,↓vmd,seval]
    obtain rfl : k = l.length := by omega
    rw [mvK_all]
    exact gives_row' rfl (by simp) (by simp)
def mvR (at' d : Int) (l : List Int) (k : Nat) : List Int := (l.take k).map (mv at' d)
theorem mvR_len {at' d : Int} {l : List Int} {k : Nat} (h : k ≤ l.length) : (mvR at' d l k).length = k := by simp [mvR]; omega
theorem mvR_zero {at' d : Int} {l : List Int} : mvR at' d l 0 = [] := rfl
theorem mvR_all {at' d : Int} {l : List Int} : mvR at' d l l.length = l.map (mv at' d) := by simp [mvR]
theorem mvR_succ {at' d : Int} {l : List Int} {k : Nat} (h : k < l.length) : mvR at' d l (k + 1) = mvR at' d l k ++ [mv at' d l[k]] := by
  rw [mvR, mvR, List.take_succ_eq_append_getElem h, List.map_append]
  rfl
theorem rmoved_q (l : List Int) (at' was now : Int) (hl : l.length ≤ 1000) : FnQ Try.prog 66 [LI l, I at', I was, I now] [LI (l.map (mv at' (IntKind.wrap .i64 (now - was))))] := by
  refine q66 (by simp) ?_
  unfold c66
  simp -implicitDefEqProofs only [*, vmp,↓vmd,seval]
  generalize IntKind.wrap .i64 (now - was) = d
  refine loop_virt 10 1 rfl (by simp) ?_
  refine loop_at (T := Nat) (fun k => [(11, .pure (I k)), (0, .pure (LI l)), (1, .pure (I at')), (9, .pure (I d)), (10, .rsl 0 0 (mvR at' d l k).length)]) (fun k => [⟨((mvR at' d l k).map I).map .pure, 1, .live⟩]) (fun k => k ≤ l.length) (fun k => l.length - k)
    0 [0] (by simp) rfl (by simp) (by simp -implicitDefEqProofs only [mvR_zero, kpp,seval]) (by simp -implicitDefEqProofs only [mvR_zero, kpp,seval]) ?_
  intro k hk
  unfold c66_1
  simp -implicitDefEqProofs only [vmp,↓vmd,seval]
  refine onIf_intro fun hlen => ?_
  simp -implicitDefEqProofs only [vmp,↓vmd,seval]
  refine onB_dec (fun h1 => ?_) (fun h1 => ?_)
  · have hlt : k < l.length := by omega
    have hlen' : l.length ≤ 9223372036854775807 := by omega
    have hkl := mvR_len (at' := at') (d := d) hk
    have hs := mvR_succ (at' := at') (d := d) hlt
    simp -implicitDefEqProofs only [h1, map_at hlt, Int.natCast_nonneg, vmp,↓vmd,seval]
    refine onB_dec (fun h2 => ?_) (fun h2 => ?_)
    · simp -implicitDefEqProofs only [h2, vmp,↓vmd,seval]
      refine onIf'_intro (appOk_one rfl rfl (by simp) (by omega) (by simp [maxLen]; omega)) ?_
      have hv : mv at' d l[k] = -1 := by simp [mv, h2]
      simp -implicitDefEqProofs only [vmp,↓vmd,seval]
      refine onBk_to (k + 1) [2] (by simp) rfl (by omega) hlt (by simp -implicitDefEqProofs only [next_at hlt hlen', hs, kpp,seval]) (by simp -implicitDefEqProofs only [hs, hv, kpp,seval])
    simp -implicitDefEqProofs only [h2, vmp,↓vmd,seval]
    refine onB_dec (fun h3 => ?_) (fun h3 => ?_)
    · simp -implicitDefEqProofs only [h3, vmp,↓vmd,seval]
      refine onIf'_intro (appOk_one rfl rfl (by simp) (by omega) (by simp [maxLen]; omega)) ?_
      have hv : mv at' d l[k] = l[k] := by simp [mv, h3]
      simp -implicitDefEqProofs only [vmp,↓vmd,seval]
      refine onBk_to (k + 1) [2] (by simp) rfl (by omega) hlt (by simp -implicitDefEqProofs only [next_at hlt hlen', hs, kpp,seval]) (by simp -implicitDefEqProofs only [hs, hv, kpp,seval])
    have hmv : mv at' d l[k] = if d < 0 ∧ l[k] ≤ IntKind.wrap .i64 (at' - d) then -1 else IntKind.wrap .i64 (l[k] + d) := by
      rw [mv, if_neg]
      rintro (h | h)
      · exact h2 h
      · exact h3 h
    simp -implicitDefEqProofs only [h3, vmp,↓vmd,seval]
    refine onB_dec (fun h4 => ?_) (fun h4 => ?_)
    · simp -implicitDefEqProofs only [h4, vmp,↓vmd,seval]
      refine onB_dec (fun h5 => ?_) (fun h5 => ?_)
      · rw [if_pos ⟨h4, h5⟩] at hmv
        simp -implicitDefEqProofs only [h5, vmp,↓vmd,seval]
        refine onIf'_intro (appOk_one rfl rfl (by simp) (by omega) (by simp [maxLen]; omega)) ?_
        simp -implicitDefEqProofs only [vmp,↓vmd,seval]
        refine onBk_to (k + 1) [2] (by simp) rfl (by omega) hlt (by simp -implicitDefEqProofs only [next_at hlt hlen', hs, kpp,seval]) (by simp -implicitDefEqProofs only [hs, hmv, kpp,seval])
      · rw [if_neg (by simp [h5])] at hmv
        simp -implicitDefEqProofs only [h5, vmp,↓vmd,seval]
        refine onIf'_intro (appOk_one rfl rfl (by simp) (by omega) (by simp [maxLen]; omega)) ?_
        simp -implicitDefEqProofs only [vmp,↓vmd,seval]
        refine onBk_to (k + 1) [2] (by simp) rfl (by omega) hlt (by simp -implicitDefEqProofs only [next_at hlt hlen', hs, kpp,seval]) (by simp -implicitDefEqProofs only [hs, hmv, kpp,seval])
    · rw [if_neg (by simp [h4])] at hmv
      simp -implicitDefEqProofs only [h4, vmp,↓vmd,seval]
      refine onIf'_intro (appOk_one rfl rfl (by simp) (by omega) (by simp [maxLen]; omega)) ?_
      simp -implicitDefEqProofs only [vmp,↓vmd,seval]
      refine onBk_to (k + 1) [2] (by simp) rfl (by omega) hlt (by simp -implicitDefEqProofs only [next_at hlt hlen', hs, kpp,seval]) (by simp -implicitDefEqProofs only [hs, hmv, kpp,seval])
  · simp -implicitDefEqProofs only [h1, vmp,↓vmd,seval]
    unfold c66_0
    simp -implicitDefEqProofs only [vmp,↓vmd,seval]
    obtain rfl : k = l.length := by omega
    rw [mvR_all]
    exact gives_row rfl (by simp)
end Go.Proofs.Ytbllbkhkmngclaa.W
