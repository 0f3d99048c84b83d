/-
  Which places are seen: the two functions, one answer. No condition but on sizes.
-/
import Derived.Test.YtcjmkpkhjhjepaaNext
namespace Go.Proofs.Ytcjmkpkhjhjepaa.W
open Go Go.Vm Go.Proofs
set_option maxRecDepth 100000
set_option linter.unusedSimpArgs false
set_option maxHeartbeats 1000000
/-! typecase/skip.Seen -/
def c40_0 : AC :=
  (.seq (.reg [⟨some 28, none, .mov (.s 7)⟩,
    ⟨some 6, none, .mov (.s 28)⟩])
  .ret)
def c40_1 : AC :=
  (.seq (.reg [⟨some 13, none, .bin .lss (.s 12) (.s 11)⟩])
  (.seq (.cond (.s 13)
  .skip
  (.exit 0))
  (.seq (.block 1
  (.seq (.reg [⟨some 14, none, .mov (.s 12)⟩,
    ⟨some 15, none, .idxA 10 (.s 10) (.s 12)⟩,
    ⟨some 16, none, .load true 10 (.s 15)⟩,
    ⟨some 9, none, .box (.c (.pure (.agg [(.int .i64 0), (.int .i64 0), (.int .i64 0), (.int .i64 0), (.int .i64 0), (.int .i64 0), (.int .i64 0), (.int .i64 0), (.int .i64 0), (.int .i64 0)])))⟩,
    ⟨some 8, none, .mov (.s 14)⟩,
    ⟨none, none, .store 10 (.s 9) (.s 16)⟩])
  (.seq (.reg [⟨some 17, none, .load true 6 (.s 3)⟩,
    ⟨some 18, none, .load true 4 (.s 4)⟩,
    ⟨some 19, none, .fldA 0 (.s 9)⟩,
    ⟨some 20, none, .load false 1 (.s 19)⟩,
    ⟨some 21, none, .call 49 [(.s 17), (.s 18), (.s 20)]⟩,
    ⟨some 22, none, .un .not (.s 21)⟩])
  (.cond (.s 22)
  (.reg [⟨some 23, none, .mov (.s 7)⟩,
    ⟨some 24, none, .mov (.s 8)⟩,
    ⟨some 25, none, .bslice 1 [(.s 24)]⟩,
    ⟨some 26, none, .app 1 8 (.s 23) (.s 25)⟩,
    ⟨some 7, none, .mov (.s 26)⟩])
  .skip))))
  (.reg [⟨some 27, none, .bin .add (.s 12) (.c (.pure (.int .i64 1)))⟩,
    ⟨some 12, none, .mov (.s 27)⟩]))))
def c40 : AC :=
  (.seq (.reg [⟨some 3, none, .box (.s 0)⟩,
    ⟨some 4, none, .box (.s 1)⟩,
    ⟨some 6, none, .mov (.c .empty)⟩])
  (.seq (.reg [⟨some 7, none, .mov (.c .empty)⟩])
  (.seq (.seq (.reg [⟨some 10, none, .mov (.s 2)⟩,
    ⟨some 11, none, .len (.s 10)⟩,
    ⟨some 12, none, .mov (.c (.pure (.int .i64 0)))⟩])
  (.block 0
  (.loop c40_1)))
  c40_0)))
theorem k40 : (Try.f40.body.bind fun c => cCode Try.prog Try.f40.ntmps RCs c) = some c40 := by kernel_rfl
theorem h40 : (Try.f40.name == "runtime.NumGoroutine") = false := by kernel_rfl
theorem r40 : resC Try.prog Try.f40.results.toList = some [.t 6] := by kernel_rfl
theorem a40 {args : List S} {H : Heap} {K : S → Heap → Prop} (hn : args.length ≤ 29) (h : aWx Try.prog H.length c40 (PostX [.t 6] K) (argEnv 0 args) H) : CallA Try.prog 40 args H K :=
  callA_of_x mixed Try.func40 h40 k40 r40 (by rw [Try.ntmps40]; exact hn) h
theorem q40 {vs ds : List V} (hn : vs.length ≤ 29) (h : aWx Try.prog 0 c40 (PostX [.t 6] (Gives ds)) (argEnv 0 (vs.map .pure)) []) : FnQ Try.prog 40 vs ds :=
  fnQ_of_call (a40 (by simpa using hn) h)
/-! typecase/typecaseref26.Seen -/
def c41_0 : AC :=
  (.seq (.reg [⟨some 28, none, .mov (.s 7)⟩,
    ⟨some 6, none, .mov (.s 28)⟩])
  .ret)
def c41_1 : AC :=
  (.seq (.seq (.reg [⟨some 9, none, .mov (.s 8)⟩,
    ⟨some 10, none, .mov (.s 2)⟩,
    ⟨some 11, none, .len (.s 10)⟩,
    ⟨some 12, none, .bin .lss (.s 9) (.s 11)⟩])
  (.cond (.s 12)
  .skip
  (.exit 0)))
  (.seq (.block 1
  (.seq (.regq [⟨some 15, none, .load true 6 (.s 3)⟩,
    ⟨some 16, none, .load true 4 (.s 4)⟩,
    ⟨some 17, none, .mov (.s 2)⟩,
    ⟨some 18, none, .mov (.s 8)⟩,
    ⟨some 19, none, .idxA 10 (.s 17) (.s 18)⟩,
    ⟨some 20, none, .fldA 0 (.s 19)⟩,
    ⟨some 21, none, .load false 1 (.s 20)⟩]
    [⟨some 22, none, .call 50 [(.s 15), (.s 16), (.s 21)]⟩,
    ⟨some 23, none, .un .not (.s 22)⟩])
  (.cond (.s 23)
  (.reg [⟨some 24, none, .mov (.s 7)⟩,
    ⟨some 25, none, .mov (.s 8)⟩,
    ⟨some 26, none, .bslice 1 [(.s 25)]⟩,
    ⟨some 27, none, .app 1 8 (.s 24) (.s 26)⟩,
    ⟨some 7, none, .mov (.s 27)⟩])
  .skip)))
  (.reg [⟨some 13, none, .mov (.s 8)⟩,
    ⟨some 14, none, .bin .add (.s 13) (.c (.pure (.int .i64 1)))⟩,
    ⟨some 8, none, .mov (.s 14)⟩])))
def c41 : AC :=
  (.seq (.reg [⟨some 3, none, .box (.s 0)⟩,
    ⟨some 4, none, .box (.s 1)⟩,
    ⟨some 6, none, .mov (.c .empty)⟩])
  (.seq (.reg [⟨some 7, none, .mov (.c .empty)⟩])
  (.seq (.seq (.reg [⟨some 8, none, .mov (.c (.pure (.int .i64 0)))⟩])
  (.block 0
  (.loop c41_1)))
  c41_0)))
theorem k41 : (Try.f41.body.bind fun c => cCode Try.prog Try.f41.ntmps RCs c) = some c41 := by kernel_rfl
theorem h41 : (Try.f41.name == "runtime.NumGoroutine") = false := by kernel_rfl
theorem r41 : resC Try.prog Try.f41.results.toList = some [.t 6] := by kernel_rfl
theorem a41 {args : List S} {H : Heap} {K : S → Heap → Prop} (hn : args.length ≤ 29) (h : aWx Try.prog H.length c41 (PostX [.t 6] K) (argEnv 0 args) H) : CallA Try.prog 41 args H K :=
  callA_of_x mixed Try.func41 h41 k41 r41 (by rw [Try.ntmps41]; exact hn) h
theorem q41 {vs ds : List V} (hn : vs.length ≤ 29) (h : aWx Try.prog 0 c41 (PostX [.t 6] (Gives ds)) (argEnv 0 (vs.map .pure)) []) : FnQ Try.prog 41 vs ds :=
  fnQ_of_call (a41 (by simpa using hn) h)

def seenK (p : Nat → Bool) (k : Nat) : List Int := ((List.range k).filter p).map fun i => ((i : Nat) : Int)
theorem seenK_succ {p : Nat → Bool} {k : Nat} : seenK p (k + 1) = if p k = true then seenK p k ++ [(k : Int)] else seenK p k := by
  rw [seenK, seenK, List.range_succ, List.filter_append]
  cases h : p k <;> simp [h]
theorem seenK_len {p : Nat → Bool} {k : Nat} : (seenK p k).length ≤ k := by
  have := List.length_filter_le p (List.range k)
  simpa [seenK] using this
theorem seen_q (f : Fo) (a b n : Int) (s : V) (ls : List Gl) (hl : ls.length ≤ 1000) : FnQ Try.prog 40 [fo f, lkV a b n s, .sl (ls.map gl)] [LI (seenK (seesF f b n ls) ls.length)] := by
  refine q40 (by simp) ?_
  unfold c40
  simp -implicitDefEqProofs only [*, vmp,↓vmd,seval]
  refine onIf_intro fun hlen => ?_
  simp -implicitDefEqProofs only [*, vmp,↓vmd,seval]
  refine loop_virt 7 1 rfl (by simp) ?_
  refine loop_at (T := Nat) (fun k => [(12, .pure (I (k : Int))), (11, .pure (I ls.length)), (10, .pure (.sl (ls.map gl))), (3, .ptr 0 0 0), (4, .ptr 1 0 0), (7, .rsl 2 0 (seenK (seesF f b n ls) k).length)])
    (fun k => [⟨[.pure (fo f)], 6, .live⟩, ⟨[.pure (lkV a b n s)], 4, .live⟩, ⟨((seenK (seesF f b n ls) k).map I).map .pure, 1, .live⟩]) (fun k => k ≤ ls.length) (fun k => ls.length - k)
    0 [0, 1, 2] (by simp) rfl (by simp) (by simp -implicitDefEqProofs only [show seenK (seesF f b n ls) 0 = [] from rfl, kpp,seval]) (by simp -implicitDefEqProofs only [show seenK (seesF f b n ls) 0 = [] from rfl, kpp,seval]) ?_
  intro k hk
  unfold c40_1
  simp -implicitDefEqProofs only [vmp,↓vmd,seval]
  refine onB_dec (fun h1 => ?_) (fun h1 => ?_)
  · have hlt : k < ls.length := by omega
    have hs := seenK_succ (p := seesF f b n ls) (k := k)
    have hkl := seenK_len (p := seesF f b n ls) (k := k)
    rw [seesF_at hlt] at hs
    simp -implicitDefEqProofs only [h1, map_at hlt, Int.natCast_nonneg, vmp,↓vmd,seval]
    refine onC_q (skips_q f a b n _ s) rfl ?_
    cases hc : skipsF f b n ls[k].id
    · rw [hc] at hs
      simp only [Bool.not_false, if_true] at hs
      simp -implicitDefEqProofs only [hc, vmp,↓vmd,seval]
      refine onIf'_intro (appOk_one rfl rfl (by simp) (by omega) (by simp [maxLen]; omega)) ?_
      simp -implicitDefEqProofs only [vmp,↓vmd,seval]
      refine onBk_to (k + 1) [0, 1, 5] (by simp) rfl (by omega) hlt (by simp -implicitDefEqProofs only [next_at hlt hlen, hs, kpp,seval]) (by simp -implicitDefEqProofs only [hs, kpp,seval])
    · rw [hc] at hs
      simp only [Bool.not_true, Bool.false_eq_true, if_false] at hs
      simp -implicitDefEqProofs only [hc, vmp,↓vmd,seval]
      refine onBk_to (k + 1) [0, 1, 2] (by simp) rfl (by omega) hlt (by simp -implicitDefEqProofs only [next_at hlt hlen, hs, kpp,seval]) (by simp -implicitDefEqProofs only [hs, kpp,seval])
  · simp -implicitDefEqProofs only [h1, vmp,↓vmd,seval]
    unfold c40_0
    simp -implicitDefEqProofs only [vmp,↓vmd,seval]
    obtain rfl : k = ls.length := by omega
    exact gives_row rfl (by simp)
theorem rseen_q (f : Fo) (a b n : Int) (s : V) (ls : List Gl) (hl : ls.length ≤ 1000) : FnQ Try.prog 41 [fo f, lkV a b n s, .sl (ls.map gl)] [LI (seenK (seesF f b n ls) ls.length)] := by
  refine q41 (by simp) ?_
  unfold c41
  simp -implicitDefEqProofs only [*, vmp,↓vmd,seval]
  refine loop_virt 7 1 rfl (by simp) ?_
  refine loop_at (T := Nat) (fun k => [(8, .pure (I (k : Int))), (2, .pure (.sl (ls.map gl))), (3, .ptr 0 0 0), (4, .ptr 1 0 0), (7, .rsl 2 0 (seenK (seesF f b n ls) k).length)])
    (fun k => [⟨[.pure (fo f)], 6, .live⟩, ⟨[.pure (lkV a b n s)], 4, .live⟩, ⟨((seenK (seesF f b n ls) k).map I).map .pure, 1, .live⟩]) (fun k => k ≤ ls.length) (fun k => ls.length - k)
    0 [0, 1, 2] (by simp) rfl (by simp) (by simp -implicitDefEqProofs only [show seenK (seesF f b n ls) 0 = [] from rfl, kpp,seval]) (by simp -implicitDefEqProofs only [show seenK (seesF f b n ls) 0 = [] from rfl, kpp,seval]) ?_
  intro k hk
  unfold c41_1
  simp -implicitDefEqProofs only [vmp,↓vmd,seval]
  refine onIf_intro fun hlen => ?_
  simp -implicitDefEqProofs only [vmp,↓vmd,seval]
  refine onB_dec (fun h1 => ?_) (fun h1 => ?_)
  · have hlt : k < ls.length := by omega
    have hlen' : ls.length ≤ 9223372036854775807 := by omega
    have hs := seenK_succ (p := seesF f b n ls) (k := k)
    have hkl := seenK_len (p := seesF f b n ls) (k := k)
    rw [seesF_at hlt] at hs
    simp -implicitDefEqProofs only [h1, map_at hlt, Int.natCast_nonneg, vmp,↓vmd,seval]
    refine onC_q (rskips_q f a b n _ s) rfl ?_
    cases hc : skipsF f b n ls[k].id
    · rw [hc] at hs
      simp only [Bool.not_false, if_true] at hs
      simp -implicitDefEqProofs only [hc, vmp,↓vmd,seval]
      refine onIf'_intro (appOk_one rfl rfl (by simp) (by omega) (by simp [maxLen]; omega)) ?_
      simp -implicitDefEqProofs only [vmp,↓vmd,seval]
      refine onBk_to (k + 1) [0, 1, 4] (by simp) rfl (by omega) hlt (by simp -implicitDefEqProofs only [next_at hlt hlen', hs, kpp,seval]) (by simp -implicitDefEqProofs only [hs, kpp,seval])
    · rw [hc] at hs
      simp only [Bool.not_true, Bool.false_eq_true, if_false] at hs
      simp -implicitDefEqProofs only [hc, vmp,↓vmd,seval]
      refine onBk_to (k + 1) [0, 1, 2] (by simp) rfl (by omega) hlt (by simp -implicitDefEqProofs only [next_at hlt hlen', hs, kpp,seval]) (by simp -implicitDefEqProofs only [hs, kpp,seval])
  · simp -implicitDefEqProofs only [h1, vmp,↓vmd,seval]
    unfold c41_0
    simp -implicitDefEqProofs only [vmp,↓vmd,seval]
    obtain rfl : k = ls.length := by omega
    exact gives_row rfl (by simp)
end Go.Proofs.Ytcjmkpkhjhjepaa.W
