/-
  The shapes of the program's types: spans, glyphs, lookups, fonts. No condition.
-/
import Derived.Test.YtjgodncjlffhjaaSkip
namespace Go.Proofs.Ytjgodncjlffhjaa.W
open Go Go.Vm Go.Proofs
set_option maxRecDepth 100000
abbrev N64 : CT := .int .i64
def subC : List CT := [.sl false [N64], .sl false [.sl false [N64]], .sl false [.sl true [.sl false [N64], N64]], .sl false [.sl false [N64]], .sl false [.sl false [N64]], .sl false [.sl false [N64]], .sl true [N64, N64], .sl true [N64, N64, N64],
  .sl true (List.replicate 8 N64), .sl true [N64, .bool, .bool, N64, N64, N64, N64], .sl true [N64, N64, N64, N64], .sl true [N64, .sl false [.sl true [.bool, N64, N64]]]]
def lkC : List CT := [N64, N64, N64, .sl true subC]
def foC : List CT := [N64, .sl true [N64, N64, N64, .sl false [N64]], .sl true [.int .i32, N64], .sl true lkC, .sl true [.str, N64, .sl false [N64]], .sl false [.sl false [N64]]]
theorem ty_lookup : tyC Try.prog 20 32 = some (true, lkC) := by kernel_rfl
theorem ty_font : tyC Try.prog 20 40 = some (true, foC) := by kernel_rfl
theorem ty_int : tyC Try.prog 20 3 = some (false, [.int .i64]) := by kernel_rfl
theorem ty_ints : tyC Try.prog 20 44 = some (false, [.sl false [.int .i64]]) := by kernel_rfl
theorem ty_lists : tyC Try.prog 20 38 = some (false, [.sl false [.sl false [.int .i64]]]) := by kernel_rfl
theorem ty_glyphs : tyC Try.prog 20 74 = some (false, [.sl true (List.replicate 10 N64)]) := by kernel_rfl
theorem font_of {v : V} (h : OkT Try.prog 40 v) : ∃ f, v = fo f := fo_of (h _ _ _ ty_font)
theorem lookup_of {v : V} (h : OkT Try.prog 32 v) : ∃ a b c s, v = lkV a b c s ∧ s.isCell = true := lkV_of (h _ _ _ ty_lookup)
theorem lookup_of' {v : V} (h : OkT Try.prog 32 v) : ∃ k, v = lk k := by
  obtain ⟨k, h1, _⟩ := lk_of (t1 := .sl false [N64]) (t2 := .sl true [.sl false [N64], N64]) (t3 := .bool) (h _ _ _ ty_lookup)
  exact ⟨k, h1⟩
theorem int_of' {v : V} (h : OkT Try.prog 3 v) : ∃ n, v = I n ∧ OkN n := okN_of (cell_of (h _ _ _ ty_int))
/-- is a font too great, or are there too many glyphs? -/
def greatS (f : Fo) (n : Nat) : Bool := decide (60 < f.gs.length) || decide (8 < f.sets.length) || decide (30 < n) || f.sets.any fun s => decide (60 < s.length)
/-! typecase/typecaselaw26.great -/
def c58_0 : AC :=
  (.seq (.reg [⟨some 4, none, .mov (.c (.pure (.bool false)))⟩])
  .ret)
def c58_1 : AC :=
  (.seq (.seq (.reg [⟨some 21, none, .mov (.s 5)⟩,
    ⟨some 22, none, .fldA 5 (.s 2)⟩,
    ⟨some 23, none, .load false 1 (.s 22)⟩,
    ⟨some 24, none, .len (.s 23)⟩,
    ⟨some 25, none, .bin .lss (.s 21) (.s 24)⟩])
  (.cond (.s 25)
  .skip
  (.exit 0)))
  (.seq (.block 1
  (.seq (.reg [⟨some 28, none, .fldA 5 (.s 2)⟩,
    ⟨some 29, none, .load false 1 (.s 28)⟩,
    ⟨some 30, none, .mov (.s 5)⟩,
    ⟨some 31, none, .idxA 1 (.s 29) (.s 30)⟩,
    ⟨some 32, none, .load false 1 (.s 31)⟩,
    ⟨some 33, none, .len (.s 32)⟩,
    ⟨some 34, none, .bin .gtr (.s 33) (.c (.pure (.int .i64 60)))⟩])
  (.cond (.s 34)
  (.seq (.reg [⟨some 4, none, .mov (.c (.pure (.bool true)))⟩])
  .ret)
  .skip)))
  (.reg [⟨some 26, none, .mov (.s 5)⟩,
    ⟨some 27, none, .bin .add (.s 26) (.c (.pure (.int .i64 1)))⟩,
    ⟨some 5, none, .mov (.s 27)⟩])))
def c58 : AC :=
  (.seq (.reg [⟨some 2, none, .box (.s 0)⟩,
    ⟨some 4, none, .mov (.c (.pure (.bool false)))⟩])
  (.seq (.seq (.reg [⟨some 6, none, .fldA 1 (.s 2)⟩,
    ⟨some 7, none, .load false 1 (.s 6)⟩,
    ⟨some 8, none, .len (.s 7)⟩,
    ⟨some 9, none, .bin .gtr (.s 8) (.c (.pure (.int .i64 60)))⟩,
    ⟨some 10, none, .mov (.s 9)⟩,
    ⟨some 11, some (10, false), .fldA 5 (.s 2)⟩,
    ⟨some 12, some (10, false), .load false 1 (.s 11)⟩,
    ⟨some 13, some (10, false), .len (.s 12)⟩,
    ⟨some 14, some (10, false), .bin .gtr (.s 13) (.c (.pure (.int .i64 8)))⟩,
    ⟨some 15, none, .pick (.s 10) (.c (.pure (.bool true))) (.s 14)⟩,
    ⟨some 16, none, .mov (.s 15)⟩,
    ⟨some 17, some (16, false), .mov (.s 1)⟩,
    ⟨some 18, some (16, false), .len (.s 17)⟩,
    ⟨some 19, some (16, false), .bin .gtr (.s 18) (.c (.pure (.int .i64 30)))⟩,
    ⟨some 20, none, .pick (.s 16) (.c (.pure (.bool true))) (.s 19)⟩])
  (.cond (.s 20)
  (.seq (.reg [⟨some 4, none, .mov (.c (.pure (.bool true)))⟩])
  .ret)
  .skip))
  (.seq (.seq (.reg [⟨some 5, none, .mov (.c (.pure (.int .i64 0)))⟩])
  (.block 0
  (.loop c58_1)))
  c58_0)))
theorem k58 : (Try.f58.body.bind fun c => cCode Try.prog Try.f58.ntmps RCs c) = some c58 := by kernel_rfl
theorem h58 : (Try.f58.name == "runtime.NumGoroutine") = false := by kernel_rfl
theorem r58 : resC Try.prog Try.f58.results.toList = some [.t 4] := by kernel_rfl
theorem a58 {args : List S} {H : Heap} {K : S → Heap → Prop} (hn : args.length ≤ 35) (h : aWx Try.prog H.length c58 (PostX [.t 4] K) (argEnv 0 args) H) : CallA Try.prog 58 args H K :=
  callA_of_x mixed Try.func58 h58 k58 r58 (by rw [Try.ntmps58]; exact hn) h
theorem q58 {vs ds : List V} (hn : vs.length ≤ 35) (h : aWx Try.prog 0 c58 (PostX [.t 4] (Gives ds)) (argEnv 0 (vs.map .pure)) []) : FnQ Try.prog 58 vs ds :=
  fnQ_of_call (a58 (by simpa using hn) h)

set_option linter.unusedSimpArgs false
theorem great_q (f : Fo) (ls : List V) : FnQ Try.prog 58 [fo f, .sl ls] [.bool (greatS f ls.length)] := by
  refine q58 (by simp) ?_
  unfold c58
  simp -implicitDefEqProofs only [*, vmp,↓vmd,Env.get,putD,argEnv,List.map,x00,x01,x02,x03,x04,x05,x06,x07,List.take,List.drop,x08,x09,x0a,x0b,List.isEmpty,↓reduceIte,reduceCtorEq,Nat.reduceEqDiff,Nat.reduceAdd,Nat.reduceLeDiff,x0c,Int.reduceNeg,Nat.reduceMul,Nat.reduceSub,x0d,x0e,x0f,x0g,x0h,x0i,x0j,x0k,Int.reduceEq,Int.reduceLT,Int.reduceLE,Int.reduceToNat,Int.cast_ofNat_Int,List.reduceReplicate]
  refine onIf_intro fun _ => ?_
  simp -implicitDefEqProofs only [*, vmp,↓vmd,Env.get,putD,argEnv,List.map,x00,x01,x02,x03,x04,x05,x06,x07,List.take,List.drop,x08,x09,x0a,x0b,List.isEmpty,↓reduceIte,reduceCtorEq,Nat.reduceEqDiff,Nat.reduceAdd,Nat.reduceLeDiff,x0c,Int.reduceNeg,Nat.reduceMul,Nat.reduceSub,x0d,x0e,x0f,x0g,x0h,x0i,x0j,x0k,Int.reduceEq,Int.reduceLT,Int.reduceLE,Int.reduceToNat,Int.cast_ofNat_Int,List.reduceReplicate]
  refine onB_dec (fun h1 => ?_) (fun h1 => ?_)
  · simp -implicitDefEqProofs only [*, vmp,↓vmd,Env.get,putD,argEnv,List.map,x00,x01,x02,x03,x04,x05,x06,x07,List.take,List.drop,x08,x09,x0a,x0b,List.isEmpty,↓reduceIte,reduceCtorEq,Nat.reduceEqDiff,Nat.reduceAdd,Nat.reduceLeDiff,x0c,Int.reduceNeg,Nat.reduceMul,Nat.reduceSub,x0d,x0e,x0f,x0g,x0h,x0i,x0j,x0k,Int.reduceEq,Int.reduceLT,Int.reduceLE,Int.reduceToNat,Int.cast_ofNat_Int,List.reduceReplicate]
    rw [show greatS f ls.length = true by simp [greatS, show 60 < f.gs.length by omega]]
    exact gives_pure
  simp -implicitDefEqProofs only [*, vmp,↓vmd,Env.get,putD,argEnv,List.map,x00,x01,x02,x03,x04,x05,x06,x07,List.take,List.drop,x08,x09,x0a,x0b,List.isEmpty,↓reduceIte,reduceCtorEq,Nat.reduceEqDiff,Nat.reduceAdd,Nat.reduceLeDiff,x0c,Int.reduceNeg,Nat.reduceMul,Nat.reduceSub,x0d,x0e,x0f,x0g,x0h,x0i,x0j,x0k,Int.reduceEq,Int.reduceLT,Int.reduceLE,Int.reduceToNat,Int.cast_ofNat_Int,List.reduceReplicate]
  refine onIf_intro fun hlen => ?_
  simp -implicitDefEqProofs only [*, vmp,↓vmd,Env.get,putD,argEnv,List.map,x00,x01,x02,x03,x04,x05,x06,x07,List.take,List.drop,x08,x09,x0a,x0b,List.isEmpty,↓reduceIte,reduceCtorEq,Nat.reduceEqDiff,Nat.reduceAdd,Nat.reduceLeDiff,x0c,Int.reduceNeg,Nat.reduceMul,Nat.reduceSub,x0d,x0e,x0f,x0g,x0h,x0i,x0j,x0k,Int.reduceEq,Int.reduceLT,Int.reduceLE,Int.reduceToNat,Int.cast_ofNat_Int,List.reduceReplicate]
  refine onB_dec (fun h2 => ?_) (fun h2 => ?_)
  · simp -implicitDefEqProofs only [*, vmp,↓vmd,Env.get,putD,argEnv,List.map,x00,x01,x02,x03,x04,x05,x06,x07,List.take,List.drop,x08,x09,x0a,x0b,List.isEmpty,↓reduceIte,reduceCtorEq,Nat.reduceEqDiff,Nat.reduceAdd,Nat.reduceLeDiff,x0c,Int.reduceNeg,Nat.reduceMul,Nat.reduceSub,x0d,x0e,x0f,x0g,x0h,x0i,x0j,x0k,Int.reduceEq,Int.reduceLT,Int.reduceLE,Int.reduceToNat,Int.cast_ofNat_Int,List.reduceReplicate]
    rw [show greatS f ls.length = true by simp [greatS, show 8 < f.sets.length by omega]]
    exact gives_pure
  simp -implicitDefEqProofs only [*, vmp,↓vmd,Env.get,putD,argEnv,List.map,x00,x01,x02,x03,x04,x05,x06,x07,List.take,List.drop,x08,x09,x0a,x0b,List.isEmpty,↓reduceIte,reduceCtorEq,Nat.reduceEqDiff,Nat.reduceAdd,Nat.reduceLeDiff,x0c,Int.reduceNeg,Nat.reduceMul,Nat.reduceSub,x0d,x0e,x0f,x0g,x0h,x0i,x0j,x0k,Int.reduceEq,Int.reduceLT,Int.reduceLE,Int.reduceToNat,Int.cast_ofNat_Int,List.reduceReplicate]
  refine onIf_intro fun _ => ?_
  simp -implicitDefEqProofs only [*, vmp,↓vmd,Env.get,putD,argEnv,List.map,x00,x01,x02,x03,x04,x05,x06,x07,List.take,List.drop,x08,x09,x0a,x0b,List.isEmpty,↓reduceIte,reduceCtorEq,Nat.reduceEqDiff,Nat.reduceAdd,Nat.reduceLeDiff,x0c,Int.reduceNeg,Nat.reduceMul,Nat.reduceSub,x0d,x0e,x0f,x0g,x0h,x0i,x0j,x0k,Int.reduceEq,Int.reduceLT,Int.reduceLE,Int.reduceToNat,Int.cast_ofNat_Int,List.reduceReplicate]
  refine onB_dec (fun h3 => ?_) (fun h3 => ?_)
  · simp -implicitDefEqProofs only [*, vmp,↓vmd,Env.get,putD,argEnv,List.map,x00,x01,x02,x03,x04,x05,x06,x07,List.take,List.drop,x08,x09,x0a,x0b,List.isEmpty,↓reduceIte,reduceCtorEq,Nat.reduceEqDiff,Nat.reduceAdd,Nat.reduceLeDiff,x0c,Int.reduceNeg,Nat.reduceMul,Nat.reduceSub,x0d,x0e,x0f,x0g,x0h,x0i,x0j,x0k,Int.reduceEq,Int.reduceLT,Int.reduceLE,Int.reduceToNat,Int.cast_ofNat_Int,List.reduceReplicate]
    rw [show greatS f ls.length = true by simp [greatS, show 30 < ls.length by omega]]
    exact gives_pure
  simp -implicitDefEqProofs only [*, vmp,↓vmd,Env.get,putD,argEnv,List.map,x00,x01,x02,x03,x04,x05,x06,x07,List.take,List.drop,x08,x09,x0a,x0b,List.isEmpty,↓reduceIte,reduceCtorEq,Nat.reduceEqDiff,Nat.reduceAdd,Nat.reduceLeDiff,x0c,Int.reduceNeg,Nat.reduceMul,Nat.reduceSub,x0d,x0e,x0f,x0g,x0h,x0i,x0j,x0k,Int.reduceEq,Int.reduceLT,Int.reduceLE,Int.reduceToNat,Int.cast_ofNat_Int,List.reduceReplicate]
  refine loop_at (T := Nat) (fun k => [(5, .pure (I k)), (2, .ptr 0 0 0)]) (fun _ => [⟨[.pure (fo f)], 6, .live⟩]) (fun k => k ≤ f.sets.length ∧ (f.sets.drop k).any (fun s => decide (60 < s.length)) = f.sets.any (fun s => decide (60 < s.length))) (fun k => f.sets.length - k)
    0 [0] (by simp) rfl ⟨by simp, by simp⟩ (by simp -implicitDefEqProofs only [kpp,Env.get,x01,x00,x02,x03,List.map,x08,x09,↓reduceIte,reduceCtorEq,Nat.reduceEqDiff,Nat.reduceLeDiff,Nat.reduceLT,Nat.reduceAdd,x0j,x0l,x0m,x0n,x0o,Int.cast_ofNat_Int,x0p,x0i,x07,x06,x0q,x0r,x0s,x0t,x0d,x0u]) (by simp -implicitDefEqProofs only [kpp,Env.get,x01,x00,x02,x03,List.map,x08,x09,↓reduceIte,reduceCtorEq,Nat.reduceEqDiff,Nat.reduceLeDiff,Nat.reduceLT,Nat.reduceAdd,x0j,x0l,x0m,x0n,x0o,Int.cast_ofNat_Int,x0p,x0i,x07,x06,x0q,x0r,x0s,x0t,x0d,x0u]) ?_
  rintro k ⟨hk, hr⟩
  unfold c58_1
  simp -implicitDefEqProofs only [vmp,↓vmd,Env.get,putD,argEnv,List.map,x00,x01,x02,x03,x04,x05,x06,x07,List.take,List.drop,x08,x09,x0a,x0b,List.isEmpty,↓reduceIte,reduceCtorEq,Nat.reduceEqDiff,Nat.reduceAdd,Nat.reduceLeDiff,x0c,Int.reduceNeg,Nat.reduceMul,Nat.reduceSub,x0d,x0e,x0f,x0g,x0h,x0i,x0j,x0k,Int.reduceEq,Int.reduceLT,Int.reduceLE,Int.reduceToNat,Int.cast_ofNat_Int,List.reduceReplicate]
  refine onIf_intro fun _ => ?_
  simp -implicitDefEqProofs only [vmp,↓vmd,Env.get,putD,argEnv,List.map,x00,x01,x02,x03,x04,x05,x06,x07,List.take,List.drop,x08,x09,x0a,x0b,List.isEmpty,↓reduceIte,reduceCtorEq,Nat.reduceEqDiff,Nat.reduceAdd,Nat.reduceLeDiff,x0c,Int.reduceNeg,Nat.reduceMul,Nat.reduceSub,x0d,x0e,x0f,x0g,x0h,x0i,x0j,x0k,Int.reduceEq,Int.reduceLT,Int.reduceLE,Int.reduceToNat,Int.cast_ofNat_Int,List.reduceReplicate]
  refine onB_dec (fun h4 => ?_) (fun h4 => ?_)
  · have hlt : k < f.sets.length := by omega
    rw [drop_at hlt, List.any_cons] at hr
    simp -implicitDefEqProofs only [h4, map_at hlt, Int.natCast_nonneg, vmp,↓vmd,Env.get,putD,argEnv,List.map,x00,x01,x02,x03,x04,x05,x06,x07,List.take,List.drop,x08,x09,x0a,x0b,List.isEmpty,↓reduceIte,reduceCtorEq,Nat.reduceEqDiff,Nat.reduceAdd,Nat.reduceLeDiff,x0c,Int.reduceNeg,Nat.reduceMul,Nat.reduceSub,x0d,x0e,x0f,x0g,x0h,x0i,x0j,x0k,Int.reduceEq,Int.reduceLT,Int.reduceLE,Int.reduceToNat,Int.cast_ofNat_Int,List.reduceReplicate]
    refine onIf_intro fun _ => ?_
    simp -implicitDefEqProofs only [vmp,↓vmd,Env.get,putD,argEnv,List.map,x00,x01,x02,x03,x04,x05,x06,x07,List.take,List.drop,x08,x09,x0a,x0b,List.isEmpty,↓reduceIte,reduceCtorEq,Nat.reduceEqDiff,Nat.reduceAdd,Nat.reduceLeDiff,x0c,Int.reduceNeg,Nat.reduceMul,Nat.reduceSub,x0d,x0e,x0f,x0g,x0h,x0i,x0j,x0k,Int.reduceEq,Int.reduceLT,Int.reduceLE,Int.reduceToNat,Int.cast_ofNat_Int,List.reduceReplicate]
    refine onB_dec (fun h5 => ?_) (fun h5 => ?_)
    · simp -implicitDefEqProofs only [h5, vmp,↓vmd,Env.get,putD,argEnv,List.map,x00,x01,x02,x03,x04,x05,x06,x07,List.take,List.drop,x08,x09,x0a,x0b,List.isEmpty,↓reduceIte,reduceCtorEq,Nat.reduceEqDiff,Nat.reduceAdd,Nat.reduceLeDiff,x0c,Int.reduceNeg,Nat.reduceMul,Nat.reduceSub,x0d,x0e,x0f,x0g,x0h,x0i,x0j,x0k,Int.reduceEq,Int.reduceLT,Int.reduceLE,Int.reduceToNat,Int.cast_ofNat_Int,List.reduceReplicate]
      rw [show greatS f ls.length = true by rw [greatS, ← hr]; simp [show 60 < f.sets[k].length by omega]]
      exact gives_pure
    · simp -implicitDefEqProofs only [h5, vmp,↓vmd,Env.get,putD,argEnv,List.map,x00,x01,x02,x03,x04,x05,x06,x07,List.take,List.drop,x08,x09,x0a,x0b,List.isEmpty,↓reduceIte,reduceCtorEq,Nat.reduceEqDiff,Nat.reduceAdd,Nat.reduceLeDiff,x0c,Int.reduceNeg,Nat.reduceMul,Nat.reduceSub,x0d,x0e,x0f,x0g,x0h,x0i,x0j,x0k,Int.reduceEq,Int.reduceLT,Int.reduceLE,Int.reduceToNat,Int.cast_ofNat_Int,List.reduceReplicate]
      refine onBk_to (k + 1) [0] (by simp) rfl (by omega) ⟨hlt, by rw [← hr, show decide (60 < f.sets[k].length) = false by simp; omega, Bool.false_or]⟩ (by simp -implicitDefEqProofs only [next_at hlt (by omega), kpp,Env.get,x01,x00,x02,x03,List.map,x08,x09,↓reduceIte,reduceCtorEq,Nat.reduceEqDiff,Nat.reduceLeDiff,Nat.reduceLT,Nat.reduceAdd,x0j,x0l,x0m,x0n,x0o,Int.cast_ofNat_Int,x0p,x0i,x07,x06,x0q,x0r,x0s,x0t,x0d,x0u]) (by simp -implicitDefEqProofs only [kpp,Env.get,x01,x00,x02,x03,List.map,x08,x09,↓reduceIte,reduceCtorEq,Nat.reduceEqDiff,Nat.reduceLeDiff,Nat.reduceLT,Nat.reduceAdd,x0j,x0l,x0m,x0n,x0o,Int.cast_ofNat_Int,x0p,x0i,x07,x06,x0q,x0r,x0s,x0t,x0d,x0u])
  · simp -implicitDefEqProofs only [h4, vmp,↓vmd,Env.get,putD,argEnv,List.map,x00,x01,x02,x03,x04,x05,x06,x07,List.take,List.drop,x08,x09,x0a,x0b,List.isEmpty,↓reduceIte,reduceCtorEq,Nat.reduceEqDiff,Nat.reduceAdd,Nat.reduceLeDiff,x0c,Int.reduceNeg,Nat.reduceMul,Nat.reduceSub,x0d,x0e,x0f,x0g,x0h,x0i,x0j,x0k,Int.reduceEq,Int.reduceLT,Int.reduceLE,Int.reduceToNat,Int.cast_ofNat_Int,List.reduceReplicate]
    unfold c58_0
    simp -implicitDefEqProofs only [vmp,↓vmd,Env.get,putD,argEnv,List.map,x00,x01,x02,x03,x04,x05,x06,x07,List.take,List.drop,x08,x09,x0a,x0b,List.isEmpty,↓reduceIte,reduceCtorEq,Nat.reduceEqDiff,Nat.reduceAdd,Nat.reduceLeDiff,x0c,Int.reduceNeg,Nat.reduceMul,Nat.reduceSub,x0d,x0e,x0f,x0g,x0h,x0i,x0j,x0k,Int.reduceEq,Int.reduceLT,Int.reduceLE,Int.reduceToNat,Int.cast_ofNat_Int,List.reduceReplicate]
    rw [List.drop_of_length_le (by omega)] at hr
    rw [show greatS f ls.length = false by rw [greatS, ← hr]; simp; omega]
    exact gives_pure
theorem greatS_not {f : Fo} {n : Nat} (h : greatS f n = false) : f.gs.length ≤ 60 ∧ f.sets.length ≤ 8 ∧ n ≤ 30 := by
  simp only [greatS, Bool.or_eq_false_iff, decide_eq_false_iff_not] at h
  omega
end Go.Proofs.Ytjgodncjlffhjaa.W
