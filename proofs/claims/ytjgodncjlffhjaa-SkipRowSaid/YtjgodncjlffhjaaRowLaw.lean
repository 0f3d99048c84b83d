/-
  The law SkipRow: what its function does, for every input. No condition.
-/
import Derived.Test.YtjgodncjlffhjaaWide
import Derived.Test.YtjgodncjlffhjaaSame
namespace Go.Proofs.Ytjgodncjlffhjaa.W
open Go Go.Vm Go.Proofs
set_option maxRecDepth 100000
set_option linter.unusedSimpArgs false
set_option maxHeartbeats 1000000
/-! typecase/typecaselaw26.SkipRow -/
def c15 : AC :=
  (.seq (.reg [⟨some 3, none, .box (.s 0)⟩,
    ⟨some 4, none, .box (.s 1)⟩,
    ⟨some 5, none, .box (.s 2)⟩,
    ⟨some 6, none, .mov (.c (.pure (.bool false)))⟩])
  (.seq (.seq (.reg [⟨some 15, none, .load true 6 (.s 3)⟩,
    ⟨some 16, none, .fldA 0 (.s 5)⟩,
    ⟨some 17, none, .load false 1 (.s 16)⟩,
    ⟨some 18, none, .call 58 [(.s 15), (.s 17)]⟩,
    ⟨some 19, none, .mov (.s 18)⟩,
    ⟨some 20, some (19, false), .fldA 2 (.s 5)⟩,
    ⟨some 21, some (19, false), .load false 1 (.s 20)⟩,
    ⟨some 22, some (19, false), .call 67 [(.s 21)]⟩,
    ⟨some 23, none, .pick (.s 19) (.c (.pure (.bool true))) (.s 22)⟩])
  (.cond (.s 23)
  (.seq (.reg [⟨some 6, none, .mov (.c (.pure (.bool true)))⟩])
  .ret)
  .skip))
  (.seq (.reg [⟨some 25, none, .load true 6 (.s 3)⟩,
    ⟨some 26, none, .load true 4 (.s 4)⟩,
    ⟨some 27, none, .fldA 0 (.s 5)⟩,
    ⟨some 28, none, .load false 1 (.s 27)⟩,
    ⟨some 29, none, .fldA 1 (.s 5)⟩,
    ⟨some 30, none, .load false 1 (.s 29)⟩,
    ⟨some 31, none, .fldA 2 (.s 5)⟩,
    ⟨some 32, none, .load false 1 (.s 31)⟩,
    ⟨some 33, none, .call 68 [(.s 25), (.s 26), (.s 28), (.s 30), (.s 32)]⟩,
    ⟨some 24, none, .mov (.s 33)⟩,
    ⟨some 34, none, .ext 0 (.s 24)⟩,
    ⟨some 35, none, .ext 1 (.s 24)⟩,
    ⟨some 7, none, .mov (.s 34)⟩,
    ⟨some 8, none, .mov (.s 35)⟩])
  (.seq (.reg [⟨some 37, none, .load true 6 (.s 3)⟩,
    ⟨some 38, none, .load true 4 (.s 4)⟩,
    ⟨some 39, none, .fldA 0 (.s 5)⟩,
    ⟨some 40, none, .load false 1 (.s 39)⟩,
    ⟨some 41, none, .fldA 1 (.s 5)⟩,
    ⟨some 42, none, .load false 1 (.s 41)⟩,
    ⟨some 43, none, .fldA 2 (.s 5)⟩,
    ⟨some 44, none, .load false 1 (.s 43)⟩,
    ⟨some 45, none, .call 69 [(.s 37), (.s 38), (.s 40), (.s 42), (.s 44)]⟩,
    ⟨some 36, none, .mov (.s 45)⟩,
    ⟨some 46, none, .ext 0 (.s 36)⟩,
    ⟨some 47, none, .ext 1 (.s 36)⟩,
    ⟨some 9, none, .mov (.s 46)⟩,
    ⟨some 10, none, .mov (.s 47)⟩])
  (.seq (.reg [⟨some 49, none, .load true 6 (.s 3)⟩,
    ⟨some 50, none, .load true 4 (.s 4)⟩,
    ⟨some 51, none, .fldA 0 (.s 5)⟩,
    ⟨some 52, none, .load false 1 (.s 51)⟩,
    ⟨some 53, none, .fldA 1 (.s 5)⟩,
    ⟨some 54, none, .load false 1 (.s 53)⟩,
    ⟨some 55, none, .fldA 2 (.s 5)⟩,
    ⟨some 56, none, .load false 1 (.s 55)⟩,
    ⟨some 57, none, .call 70 [(.s 49), (.s 50), (.s 52), (.s 54), (.s 56)]⟩,
    ⟨some 48, none, .mov (.s 57)⟩,
    ⟨some 58, none, .ext 0 (.s 48)⟩,
    ⟨some 59, none, .ext 1 (.s 48)⟩,
    ⟨some 11, none, .mov (.s 58)⟩,
    ⟨some 12, none, .mov (.s 59)⟩])
  (.seq (.reg [⟨some 61, none, .load true 6 (.s 3)⟩,
    ⟨some 62, none, .load true 4 (.s 4)⟩,
    ⟨some 63, none, .fldA 0 (.s 5)⟩,
    ⟨some 64, none, .load false 1 (.s 63)⟩,
    ⟨some 65, none, .fldA 1 (.s 5)⟩,
    ⟨some 66, none, .load false 1 (.s 65)⟩,
    ⟨some 67, none, .fldA 2 (.s 5)⟩,
    ⟨some 68, none, .load false 1 (.s 67)⟩,
    ⟨some 69, none, .call 71 [(.s 61), (.s 62), (.s 64), (.s 66), (.s 68)]⟩,
    ⟨some 60, none, .mov (.s 69)⟩,
    ⟨some 70, none, .ext 0 (.s 60)⟩,
    ⟨some 71, none, .ext 1 (.s 60)⟩,
    ⟨some 13, none, .mov (.s 70)⟩,
    ⟨some 14, none, .mov (.s 71)⟩])
  (.seq (.reg [⟨some 72, none, .mov (.s 8)⟩,
    ⟨some 73, none, .mov (.s 12)⟩,
    ⟨some 74, none, .eqb false (.s 72) (.s 73)⟩,
    ⟨some 75, none, .mov (.s 74)⟩,
    ⟨some 76, some (75, true), .mov (.s 10)⟩,
    ⟨some 77, some (75, true), .mov (.s 14)⟩,
    ⟨some 78, some (75, true), .eqb false (.s 76) (.s 77)⟩,
    ⟨some 79, none, .pick (.s 75) (.s 78) (.c (.pure (.bool false)))⟩,
    ⟨some 80, none, .mov (.s 79)⟩,
    ⟨some 81, some (80, true), .mov (.s 7)⟩,
    ⟨some 82, some (80, true), .mov (.s 11)⟩,
    ⟨some 83, some (80, true), .call 28 [(.s 81), (.s 82)]⟩,
    ⟨some 84, none, .pick (.s 80) (.s 83) (.c (.pure (.bool false)))⟩,
    ⟨some 85, none, .mov (.s 84)⟩,
    ⟨some 86, some (85, true), .mov (.s 9)⟩,
    ⟨some 87, some (85, true), .mov (.s 13)⟩,
    ⟨some 88, some (85, true), .call 28 [(.s 86), (.s 87)]⟩,
    ⟨some 89, none, .pick (.s 85) (.s 88) (.c (.pure (.bool false)))⟩,
    ⟨some 6, none, .mov (.s 89)⟩])
  .ret)))))))
theorem k15 : (Try.f15.body.bind fun c => cCode Try.prog Try.f15.ntmps RCs c) = some c15 := by kernel_rfl
theorem h15 : (Try.f15.name == "runtime.NumGoroutine") = false := by kernel_rfl
theorem r15 : resC Try.prog Try.f15.results.toList = some [.t 6] := by kernel_rfl
theorem a15 {args : List S} {H : Heap} {K : S → Heap → Prop} (hn : args.length ≤ 90) (h : aWx Try.prog H.length c15 (PostX [.t 6] K) (argEnv 0 args) H) : CallA Try.prog 15 args H K :=
  callA_of_x mixed Try.func15 h15 k15 r15 (by rw [Try.ntmps15]; exact hn) h
theorem q15 {vs ds : List V} (hn : vs.length ≤ 90) (h : aWx Try.prog 0 c15 (PostX [.t 6] (Gives ds)) (argEnv 0 (vs.map .pure)) []) : FnQ Try.prog 15 vs ds :=
  fnQ_of_call (a15 (by simpa using hn) h)

theorem skipRow_law (f : Fo) (a b n : Int) (s : V) (ls : List Gl) (x : Int) (sets : List (List Int)) : FnQ Try.prog 15 [fo f, lkV a b n s, .agg [.sl (ls.map gl), I x, LL sets]] [.bool true] := by
  refine q15 (by simp) ?_
  unfold c15
  simp -implicitDefEqProofs only [*, ↓x00,↓x01,↓x02,↓x03,↓x04,↓x05,↓x06,↓x07,↓x08,↓x09,↓x0a,↓x0b,↓x0c,↓x0d,↓x0e,↓x0f,↓x0g,↓x0h,↓x0i,↓x0j,↓x0k,↓x0l,↓x0m,↓x0n,↓x0o,↓x0p,↓x0q,↓x0r,↓x0s,↓x0t,↓x0u,↓x0v,↓x0w,↓x0x,↓x0y,↓x0z,↓x10,↓x11,↓x12,↓x13,↓x14,↓x15,↓x16,↓x17,↓x18,↓x19,↓x1a,↓x1b,↓x1c,↓x1d,↓x1e,↓x1f,↓x1g,↓x1h,↓x1i,↓x1j,↓x1k,↓x1l,↓x1m,↓x1n,↓x1o,↓x1p,↓x1q,↓x1r,↓x1s,↓x1t,↓x1u,↓x1v,↓x1w,↓x1x,↓x1y,↓x1z,↓x20,↓x21,↓x22,↓x23,↓x24,↓x25,↓x26,↓x27,↓x28,x29,x2a,x2b,x2c,x2d,x2e,x2f,x2g,x2h,x2i,x2j,x2k,x2l,x2m,x2n,x2o,x2p,Env.get,putD,argEnv,List.map,x2q,x2r,x2s,x2t,x2u,x2v,x2w,x2x,List.take,List.drop,x2y,x2z,x30,x31,List.isEmpty,↓reduceIte,reduceCtorEq,Nat.reduceEqDiff,x32,x33,x34,x35,x36,x37,x38,x39,x3a,Nat.reduceAdd,Nat.reduceLeDiff,x3b,x3c,x3d,x3e,Int.reduceNeg,x3f,x3g,x3h,x3i,x3j,x3k,x3l,x3m,Nat.reduceMul,Nat.reduceSub,x3n,x3o,x3p,x3q,x3r,x3s,x3t,x3u,x3v,x3w,x3x,x3y,x3z,x40,x41,x42,x43,x44,x45,x46,x47,x48,x49,x4a,x4b,x4c,x4d,x4e,x4f,x4g,x4h,x4i,x4j,x4k,x4l,x4m,x4n,x4o,x4p,x4q,x4r,x4s,x4t,x4u,x4v,x4w,x4x,x4y,x4z,x50,x51,x52,x53,x54,x55,x56,x57,x58,x59,x5a,x5b,x5c,x5d,x5e,x5f,x5g,x5h,x5i,x5j,x5k,x5l,x5m,x5n,x5o,x5p,x5q,x5r,x5s,x5t,x5u,x5v,x5w,x5x,x5y,x5z,x60,x61,x62,x63,x64,x65,x66,x67,x68,x69,x6a,x6b,x6c,x6d,x6e,x6f,x6g,x6h,x6i,x6j,x6k,x6l,x6m,x6n,x6o,x6p,x6q,x6r,x6s,x6t,x6u,x6v,x6w,x6x,x6y,x6z,x70,x71,x72,x73,x74,x75,x76,x77,x78,x79,x7a,x7b,x7c,x7d,x7e,x7f,x7g,x7h,x7i,x7j,x7k,x7l,x7m,x7n,x7o,x7p,x7q,x7r,x7s,x7t,x7u,x7v,x7w,x7x,x7y,x7z,x80,x81,x82,x83,x84,x85,x86,x87,x88,x89,x8a,x8b,x8c,x8d,x8e,x8f,x8g,Int.reduceEq,Int.reduceLT,Int.reduceLE,Int.reduceToNat,x8h,x8i,x8j,x8k,x8l,x8m,x8n,x8o,x8p,x8q,x8r,x8s,x8t,x8u,x8v,x8w,x8x,x8y,x8z,x90,x91,x92,x93,x94,Int.cast_ofNat_Int,x95,x96,x97,x98,x99,x9a,x9b,x9c,x9d,x9e]
  refine onC_q (great_q f (ls.map gl)) rfl ?_
  simp -implicitDefEqProofs only [*, ↓x00,↓x01,↓x02,↓x03,↓x04,↓x05,↓x06,↓x07,↓x08,↓x09,↓x0a,↓x0b,↓x0c,↓x0d,↓x0e,↓x0f,↓x0g,↓x0h,↓x0i,↓x0j,↓x0k,↓x0l,↓x0m,↓x0n,↓x0o,↓x0p,↓x0q,↓x0r,↓x0s,↓x0t,↓x0u,↓x0v,↓x0w,↓x0x,↓x0y,↓x0z,↓x10,↓x11,↓x12,↓x13,↓x14,↓x15,↓x16,↓x17,↓x18,↓x19,↓x1a,↓x1b,↓x1c,↓x1d,↓x1e,↓x1f,↓x1g,↓x1h,↓x1i,↓x1j,↓x1k,↓x1l,↓x1m,↓x1n,↓x1o,↓x1p,↓x1q,↓x1r,↓x1s,↓x1t,↓x1u,↓x1v,↓x1w,↓x1x,↓x1y,↓x1z,↓x20,↓x21,↓x22,↓x23,↓x24,↓x25,↓x26,↓x27,↓x28,x29,x2a,x2b,x2c,x2d,x2e,x2f,x2g,x2h,x2i,x2j,x2k,x2l,x2m,x2n,x2o,x2p,Env.get,putD,argEnv,List.map,x2q,x2r,x2s,x2t,x2u,x2v,x2w,x2x,List.take,List.drop,x2y,x2z,x30,x31,List.isEmpty,↓reduceIte,reduceCtorEq,Nat.reduceEqDiff,x32,x33,x34,x35,x36,x37,x38,x39,x3a,Nat.reduceAdd,Nat.reduceLeDiff,x3b,x3c,x3d,x3e,Int.reduceNeg,x3f,x3g,x3h,x3i,x3j,x3k,x3l,x3m,Nat.reduceMul,Nat.reduceSub,x3n,x3o,x3p,x3q,x3r,x3s,x3t,x3u,x3v,x3w,x3x,x3y,x3z,x40,x41,x42,x43,x44,x45,x46,x47,x48,x49,x4a,x4b,x4c,x4d,x4e,x4f,x4g,x4h,x4i,x4j,x4k,x4l,x4m,x4n,x4o,x4p,x4q,x4r,x4s,x4t,x4u,x4v,x4w,x4x,x4y,x4z,x50,x51,x52,x53,x54,x55,x56,x57,x58,x59,x5a,x5b,x5c,x5d,x5e,x5f,x5g,x5h,x5i,x5j,x5k,x5l,x5m,x5n,x5o,x5p,x5q,x5r,x5s,x5t,x5u,x5v,x5w,x5x,x5y,x5z,x60,x61,x62,x63,x64,x65,x66,x67,x68,x69,x6a,x6b,x6c,x6d,x6e,x6f,x6g,x6h,x6i,x6j,x6k,x6l,x6m,x6n,x6o,x6p,x6q,x6r,x6s,x6t,x6u,x6v,x6w,x6x,x6y,x6z,x70,x71,x72,x73,x74,x75,x76,x77,x78,x79,x7a,x7b,x7c,x7d,x7e,x7f,x7g,x7h,x7i,x7j,x7k,x7l,x7m,x7n,x7o,x7p,x7q,x7r,x7s,x7t,x7u,x7v,x7w,x7x,x7y,x7z,x80,x81,x82,x83,x84,x85,x86,x87,x88,x89,x8a,x8b,x8c,x8d,x8e,x8f,x8g,Int.reduceEq,Int.reduceLT,Int.reduceLE,Int.reduceToNat,x8h,x8i,x8j,x8k,x8l,x8m,x8n,x8o,x8p,x8q,x8r,x8s,x8t,x8u,x8v,x8w,x8x,x8y,x8z,x90,x91,x92,x93,x94,Int.cast_ofNat_Int,x95,x96,x97,x98,x99,x9a,x9b,x9c,x9d,x9e]
  refine onB_intro (fun h => ?_) (fun h => ?_)
  · simp -implicitDefEqProofs only [*, ↓x00,↓x01,↓x02,↓x03,↓x04,↓x05,↓x06,↓x07,↓x08,↓x09,↓x0a,↓x0b,↓x0c,↓x0d,↓x0e,↓x0f,↓x0g,↓x0h,↓x0i,↓x0j,↓x0k,↓x0l,↓x0m,↓x0n,↓x0o,↓x0p,↓x0q,↓x0r,↓x0s,↓x0t,↓x0u,↓x0v,↓x0w,↓x0x,↓x0y,↓x0z,↓x10,↓x11,↓x12,↓x13,↓x14,↓x15,↓x16,↓x17,↓x18,↓x19,↓x1a,↓x1b,↓x1c,↓x1d,↓x1e,↓x1f,↓x1g,↓x1h,↓x1i,↓x1j,↓x1k,↓x1l,↓x1m,↓x1n,↓x1o,↓x1p,↓x1q,↓x1r,↓x1s,↓x1t,↓x1u,↓x1v,↓x1w,↓x1x,↓x1y,↓x1z,↓x20,↓x21,↓x22,↓x23,↓x24,↓x25,↓x26,↓x27,↓x28,x29,x2a,x2b,x2c,x2d,x2e,x2f,x2g,x2h,x2i,x2j,x2k,x2l,x2m,x2n,x2o,x2p,Env.get,putD,argEnv,List.map,x2q,x2r,x2s,x2t,x2u,x2v,x2w,x2x,List.take,List.drop,x2y,x2z,x30,x31,List.isEmpty,↓reduceIte,reduceCtorEq,Nat.reduceEqDiff,x32,x33,x34,x35,x36,x37,x38,x39,x3a,Nat.reduceAdd,Nat.reduceLeDiff,x3b,x3c,x3d,x3e,Int.reduceNeg,x3f,x3g,x3h,x3i,x3j,x3k,x3l,x3m,Nat.reduceMul,Nat.reduceSub,x3n,x3o,x3p,x3q,x3r,x3s,x3t,x3u,x3v,x3w,x3x,x3y,x3z,x40,x41,x42,x43,x44,x45,x46,x47,x48,x49,x4a,x4b,x4c,x4d,x4e,x4f,x4g,x4h,x4i,x4j,x4k,x4l,x4m,x4n,x4o,x4p,x4q,x4r,x4s,x4t,x4u,x4v,x4w,x4x,x4y,x4z,x50,x51,x52,x53,x54,x55,x56,x57,x58,x59,x5a,x5b,x5c,x5d,x5e,x5f,x5g,x5h,x5i,x5j,x5k,x5l,x5m,x5n,x5o,x5p,x5q,x5r,x5s,x5t,x5u,x5v,x5w,x5x,x5y,x5z,x60,x61,x62,x63,x64,x65,x66,x67,x68,x69,x6a,x6b,x6c,x6d,x6e,x6f,x6g,x6h,x6i,x6j,x6k,x6l,x6m,x6n,x6o,x6p,x6q,x6r,x6s,x6t,x6u,x6v,x6w,x6x,x6y,x6z,x70,x71,x72,x73,x74,x75,x76,x77,x78,x79,x7a,x7b,x7c,x7d,x7e,x7f,x7g,x7h,x7i,x7j,x7k,x7l,x7m,x7n,x7o,x7p,x7q,x7r,x7s,x7t,x7u,x7v,x7w,x7x,x7y,x7z,x80,x81,x82,x83,x84,x85,x86,x87,x88,x89,x8a,x8b,x8c,x8d,x8e,x8f,x8g,Int.reduceEq,Int.reduceLT,Int.reduceLE,Int.reduceToNat,x8h,x8i,x8j,x8k,x8l,x8m,x8n,x8o,x8p,x8q,x8r,x8s,x8t,x8u,x8v,x8w,x8x,x8y,x8z,x90,x91,x92,x93,x94,Int.cast_ofNat_Int,x95,x96,x97,x98,x99,x9a,x9b,x9c,x9d,x9e]
    exact gives_pure
  have hl : ls.length ≤ 1000 := by have := (greatS_not h).2.2; omega
  simp -implicitDefEqProofs only [h, ↓x00,↓x01,↓x02,↓x03,↓x04,↓x05,↓x06,↓x07,↓x08,↓x09,↓x0a,↓x0b,↓x0c,↓x0d,↓x0e,↓x0f,↓x0g,↓x0h,↓x0i,↓x0j,↓x0k,↓x0l,↓x0m,↓x0n,↓x0o,↓x0p,↓x0q,↓x0r,↓x0s,↓x0t,↓x0u,↓x0v,↓x0w,↓x0x,↓x0y,↓x0z,↓x10,↓x11,↓x12,↓x13,↓x14,↓x15,↓x16,↓x17,↓x18,↓x19,↓x1a,↓x1b,↓x1c,↓x1d,↓x1e,↓x1f,↓x1g,↓x1h,↓x1i,↓x1j,↓x1k,↓x1l,↓x1m,↓x1n,↓x1o,↓x1p,↓x1q,↓x1r,↓x1s,↓x1t,↓x1u,↓x1v,↓x1w,↓x1x,↓x1y,↓x1z,↓x20,↓x21,↓x22,↓x23,↓x24,↓x25,↓x26,↓x27,↓x28,x29,x2a,x2b,x2c,x2d,x2e,x2f,x2g,x2h,x2i,x2j,x2k,x2l,x2m,x2n,x2o,x2p,Env.get,putD,argEnv,List.map,x2q,x2r,x2s,x2t,x2u,x2v,x2w,x2x,List.take,List.drop,x2y,x2z,x30,x31,List.isEmpty,↓reduceIte,reduceCtorEq,Nat.reduceEqDiff,x32,x33,x34,x35,x36,x37,x38,x39,x3a,Nat.reduceAdd,Nat.reduceLeDiff,x3b,x3c,x3d,x3e,Int.reduceNeg,x3f,x3g,x3h,x3i,x3j,x3k,x3l,x3m,Nat.reduceMul,Nat.reduceSub,x3n,x3o,x3p,x3q,x3r,x3s,x3t,x3u,x3v,x3w,x3x,x3y,x3z,x40,x41,x42,x43,x44,x45,x46,x47,x48,x49,x4a,x4b,x4c,x4d,x4e,x4f,x4g,x4h,x4i,x4j,x4k,x4l,x4m,x4n,x4o,x4p,x4q,x4r,x4s,x4t,x4u,x4v,x4w,x4x,x4y,x4z,x50,x51,x52,x53,x54,x55,x56,x57,x58,x59,x5a,x5b,x5c,x5d,x5e,x5f,x5g,x5h,x5i,x5j,x5k,x5l,x5m,x5n,x5o,x5p,x5q,x5r,x5s,x5t,x5u,x5v,x5w,x5x,x5y,x5z,x60,x61,x62,x63,x64,x65,x66,x67,x68,x69,x6a,x6b,x6c,x6d,x6e,x6f,x6g,x6h,x6i,x6j,x6k,x6l,x6m,x6n,x6o,x6p,x6q,x6r,x6s,x6t,x6u,x6v,x6w,x6x,x6y,x6z,x70,x71,x72,x73,x74,x75,x76,x77,x78,x79,x7a,x7b,x7c,x7d,x7e,x7f,x7g,x7h,x7i,x7j,x7k,x7l,x7m,x7n,x7o,x7p,x7q,x7r,x7s,x7t,x7u,x7v,x7w,x7x,x7y,x7z,x80,x81,x82,x83,x84,x85,x86,x87,x88,x89,x8a,x8b,x8c,x8d,x8e,x8f,x8g,Int.reduceEq,Int.reduceLT,Int.reduceLE,Int.reduceToNat,x8h,x8i,x8j,x8k,x8l,x8m,x8n,x8o,x8p,x8q,x8r,x8s,x8t,x8u,x8v,x8w,x8x,x8y,x8z,x90,x91,x92,x93,x94,Int.cast_ofNat_Int,x95,x96,x97,x98,x99,x9a,x9b,x9c,x9d,x9e]
  refine onC_q (wide_q sets) rfl ?_
  simp -implicitDefEqProofs only [h, ↓x00,↓x01,↓x02,↓x03,↓x04,↓x05,↓x06,↓x07,↓x08,↓x09,↓x0a,↓x0b,↓x0c,↓x0d,↓x0e,↓x0f,↓x0g,↓x0h,↓x0i,↓x0j,↓x0k,↓x0l,↓x0m,↓x0n,↓x0o,↓x0p,↓x0q,↓x0r,↓x0s,↓x0t,↓x0u,↓x0v,↓x0w,↓x0x,↓x0y,↓x0z,↓x10,↓x11,↓x12,↓x13,↓x14,↓x15,↓x16,↓x17,↓x18,↓x19,↓x1a,↓x1b,↓x1c,↓x1d,↓x1e,↓x1f,↓x1g,↓x1h,↓x1i,↓x1j,↓x1k,↓x1l,↓x1m,↓x1n,↓x1o,↓x1p,↓x1q,↓x1r,↓x1s,↓x1t,↓x1u,↓x1v,↓x1w,↓x1x,↓x1y,↓x1z,↓x20,↓x21,↓x22,↓x23,↓x24,↓x25,↓x26,↓x27,↓x28,x29,x2a,x2b,x2c,x2d,x2e,x2f,x2g,x2h,x2i,x2j,x2k,x2l,x2m,x2n,x2o,x2p,Env.get,putD,argEnv,List.map,x2q,x2r,x2s,x2t,x2u,x2v,x2w,x2x,List.take,List.drop,x2y,x2z,x30,x31,List.isEmpty,↓reduceIte,reduceCtorEq,Nat.reduceEqDiff,x32,x33,x34,x35,x36,x37,x38,x39,x3a,Nat.reduceAdd,Nat.reduceLeDiff,x3b,x3c,x3d,x3e,Int.reduceNeg,x3f,x3g,x3h,x3i,x3j,x3k,x3l,x3m,Nat.reduceMul,Nat.reduceSub,x3n,x3o,x3p,x3q,x3r,x3s,x3t,x3u,x3v,x3w,x3x,x3y,x3z,x40,x41,x42,x43,x44,x45,x46,x47,x48,x49,x4a,x4b,x4c,x4d,x4e,x4f,x4g,x4h,x4i,x4j,x4k,x4l,x4m,x4n,x4o,x4p,x4q,x4r,x4s,x4t,x4u,x4v,x4w,x4x,x4y,x4z,x50,x51,x52,x53,x54,x55,x56,x57,x58,x59,x5a,x5b,x5c,x5d,x5e,x5f,x5g,x5h,x5i,x5j,x5k,x5l,x5m,x5n,x5o,x5p,x5q,x5r,x5s,x5t,x5u,x5v,x5w,x5x,x5y,x5z,x60,x61,x62,x63,x64,x65,x66,x67,x68,x69,x6a,x6b,x6c,x6d,x6e,x6f,x6g,x6h,x6i,x6j,x6k,x6l,x6m,x6n,x6o,x6p,x6q,x6r,x6s,x6t,x6u,x6v,x6w,x6x,x6y,x6z,x70,x71,x72,x73,x74,x75,x76,x77,x78,x79,x7a,x7b,x7c,x7d,x7e,x7f,x7g,x7h,x7i,x7j,x7k,x7l,x7m,x7n,x7o,x7p,x7q,x7r,x7s,x7t,x7u,x7v,x7w,x7x,x7y,x7z,x80,x81,x82,x83,x84,x85,x86,x87,x88,x89,x8a,x8b,x8c,x8d,x8e,x8f,x8g,Int.reduceEq,Int.reduceLT,Int.reduceLE,Int.reduceToNat,x8h,x8i,x8j,x8k,x8l,x8m,x8n,x8o,x8p,x8q,x8r,x8s,x8t,x8u,x8v,x8w,x8x,x8y,x8z,x90,x91,x92,x93,x94,Int.cast_ofNat_Int,x95,x96,x97,x98,x99,x9a,x9b,x9c,x9d,x9e]
  refine onB_intro (fun h2 => ?_) (fun h2 => ?_)
  · simp -implicitDefEqProofs only [h2, ↓x00,↓x01,↓x02,↓x03,↓x04,↓x05,↓x06,↓x07,↓x08,↓x09,↓x0a,↓x0b,↓x0c,↓x0d,↓x0e,↓x0f,↓x0g,↓x0h,↓x0i,↓x0j,↓x0k,↓x0l,↓x0m,↓x0n,↓x0o,↓x0p,↓x0q,↓x0r,↓x0s,↓x0t,↓x0u,↓x0v,↓x0w,↓x0x,↓x0y,↓x0z,↓x10,↓x11,↓x12,↓x13,↓x14,↓x15,↓x16,↓x17,↓x18,↓x19,↓x1a,↓x1b,↓x1c,↓x1d,↓x1e,↓x1f,↓x1g,↓x1h,↓x1i,↓x1j,↓x1k,↓x1l,↓x1m,↓x1n,↓x1o,↓x1p,↓x1q,↓x1r,↓x1s,↓x1t,↓x1u,↓x1v,↓x1w,↓x1x,↓x1y,↓x1z,↓x20,↓x21,↓x22,↓x23,↓x24,↓x25,↓x26,↓x27,↓x28,x29,x2a,x2b,x2c,x2d,x2e,x2f,x2g,x2h,x2i,x2j,x2k,x2l,x2m,x2n,x2o,x2p,Env.get,putD,argEnv,List.map,x2q,x2r,x2s,x2t,x2u,x2v,x2w,x2x,List.take,List.drop,x2y,x2z,x30,x31,List.isEmpty,↓reduceIte,reduceCtorEq,Nat.reduceEqDiff,x32,x33,x34,x35,x36,x37,x38,x39,x3a,Nat.reduceAdd,Nat.reduceLeDiff,x3b,x3c,x3d,x3e,Int.reduceNeg,x3f,x3g,x3h,x3i,x3j,x3k,x3l,x3m,Nat.reduceMul,Nat.reduceSub,x3n,x3o,x3p,x3q,x3r,x3s,x3t,x3u,x3v,x3w,x3x,x3y,x3z,x40,x41,x42,x43,x44,x45,x46,x47,x48,x49,x4a,x4b,x4c,x4d,x4e,x4f,x4g,x4h,x4i,x4j,x4k,x4l,x4m,x4n,x4o,x4p,x4q,x4r,x4s,x4t,x4u,x4v,x4w,x4x,x4y,x4z,x50,x51,x52,x53,x54,x55,x56,x57,x58,x59,x5a,x5b,x5c,x5d,x5e,x5f,x5g,x5h,x5i,x5j,x5k,x5l,x5m,x5n,x5o,x5p,x5q,x5r,x5s,x5t,x5u,x5v,x5w,x5x,x5y,x5z,x60,x61,x62,x63,x64,x65,x66,x67,x68,x69,x6a,x6b,x6c,x6d,x6e,x6f,x6g,x6h,x6i,x6j,x6k,x6l,x6m,x6n,x6o,x6p,x6q,x6r,x6s,x6t,x6u,x6v,x6w,x6x,x6y,x6z,x70,x71,x72,x73,x74,x75,x76,x77,x78,x79,x7a,x7b,x7c,x7d,x7e,x7f,x7g,x7h,x7i,x7j,x7k,x7l,x7m,x7n,x7o,x7p,x7q,x7r,x7s,x7t,x7u,x7v,x7w,x7x,x7y,x7z,x80,x81,x82,x83,x84,x85,x86,x87,x88,x89,x8a,x8b,x8c,x8d,x8e,x8f,x8g,Int.reduceEq,Int.reduceLT,Int.reduceLE,Int.reduceToNat,x8h,x8i,x8j,x8k,x8l,x8m,x8n,x8o,x8p,x8q,x8r,x8s,x8t,x8u,x8v,x8w,x8x,x8y,x8z,x90,x91,x92,x93,x94,Int.cast_ofNat_Int,x95,x96,x97,x98,x99,x9a,x9b,x9c,x9d,x9e]
    exact gives_pure
  have hs : sets.length ≤ 1000 := by have := wideF_not h2; omega
  simp -implicitDefEqProofs only [h2, ↓x00,↓x01,↓x02,↓x03,↓x04,↓x05,↓x06,↓x07,↓x08,↓x09,↓x0a,↓x0b,↓x0c,↓x0d,↓x0e,↓x0f,↓x0g,↓x0h,↓x0i,↓x0j,↓x0k,↓x0l,↓x0m,↓x0n,↓x0o,↓x0p,↓x0q,↓x0r,↓x0s,↓x0t,↓x0u,↓x0v,↓x0w,↓x0x,↓x0y,↓x0z,↓x10,↓x11,↓x12,↓x13,↓x14,↓x15,↓x16,↓x17,↓x18,↓x19,↓x1a,↓x1b,↓x1c,↓x1d,↓x1e,↓x1f,↓x1g,↓x1h,↓x1i,↓x1j,↓x1k,↓x1l,↓x1m,↓x1n,↓x1o,↓x1p,↓x1q,↓x1r,↓x1s,↓x1t,↓x1u,↓x1v,↓x1w,↓x1x,↓x1y,↓x1z,↓x20,↓x21,↓x22,↓x23,↓x24,↓x25,↓x26,↓x27,↓x28,x29,x2a,x2b,x2c,x2d,x2e,x2f,x2g,x2h,x2i,x2j,x2k,x2l,x2m,x2n,x2o,x2p,Env.get,putD,argEnv,List.map,x2q,x2r,x2s,x2t,x2u,x2v,x2w,x2x,List.take,List.drop,x2y,x2z,x30,x31,List.isEmpty,↓reduceIte,reduceCtorEq,Nat.reduceEqDiff,x32,x33,x34,x35,x36,x37,x38,x39,x3a,Nat.reduceAdd,Nat.reduceLeDiff,x3b,x3c,x3d,x3e,Int.reduceNeg,x3f,x3g,x3h,x3i,x3j,x3k,x3l,x3m,Nat.reduceMul,Nat.reduceSub,x3n,x3o,x3p,x3q,x3r,x3s,x3t,x3u,x3v,x3w,x3x,x3y,x3z,x40,x41,x42,x43,x44,x45,x46,x47,x48,x49,x4a,x4b,x4c,x4d,x4e,x4f,x4g,x4h,x4i,x4j,x4k,x4l,x4m,x4n,x4o,x4p,x4q,x4r,x4s,x4t,x4u,x4v,x4w,x4x,x4y,x4z,x50,x51,x52,x53,x54,x55,x56,x57,x58,x59,x5a,x5b,x5c,x5d,x5e,x5f,x5g,x5h,x5i,x5j,x5k,x5l,x5m,x5n,x5o,x5p,x5q,x5r,x5s,x5t,x5u,x5v,x5w,x5x,x5y,x5z,x60,x61,x62,x63,x64,x65,x66,x67,x68,x69,x6a,x6b,x6c,x6d,x6e,x6f,x6g,x6h,x6i,x6j,x6k,x6l,x6m,x6n,x6o,x6p,x6q,x6r,x6s,x6t,x6u,x6v,x6w,x6x,x6y,x6z,x70,x71,x72,x73,x74,x75,x76,x77,x78,x79,x7a,x7b,x7c,x7d,x7e,x7f,x7g,x7h,x7i,x7j,x7k,x7l,x7m,x7n,x7o,x7p,x7q,x7r,x7s,x7t,x7u,x7v,x7w,x7x,x7y,x7z,x80,x81,x82,x83,x84,x85,x86,x87,x88,x89,x8a,x8b,x8c,x8d,x8e,x8f,x8g,Int.reduceEq,Int.reduceLT,Int.reduceLE,Int.reduceToNat,x8h,x8i,x8j,x8k,x8l,x8m,x8n,x8o,x8p,x8q,x8r,x8s,x8t,x8u,x8v,x8w,x8x,x8y,x8z,x90,x91,x92,x93,x94,Int.cast_ofNat_Int,x95,x96,x97,x98,x99,x9a,x9b,x9c,x9d,x9e]
  refine onC_q (row_q f a b n s ls hl x sets hs) rfl ?_
  simp -implicitDefEqProofs only [rowR, ↓x00,↓x01,↓x02,↓x03,↓x04,↓x05,↓x06,↓x07,↓x08,↓x09,↓x0a,↓x0b,↓x0c,↓x0d,↓x0e,↓x0f,↓x0g,↓x0h,↓x0i,↓x0j,↓x0k,↓x0l,↓x0m,↓x0n,↓x0o,↓x0p,↓x0q,↓x0r,↓x0s,↓x0t,↓x0u,↓x0v,↓x0w,↓x0x,↓x0y,↓x0z,↓x10,↓x11,↓x12,↓x13,↓x14,↓x15,↓x16,↓x17,↓x18,↓x19,↓x1a,↓x1b,↓x1c,↓x1d,↓x1e,↓x1f,↓x1g,↓x1h,↓x1i,↓x1j,↓x1k,↓x1l,↓x1m,↓x1n,↓x1o,↓x1p,↓x1q,↓x1r,↓x1s,↓x1t,↓x1u,↓x1v,↓x1w,↓x1x,↓x1y,↓x1z,↓x20,↓x21,↓x22,↓x23,↓x24,↓x25,↓x26,↓x27,↓x28,x29,x2a,x2b,x2c,x2d,x2e,x2f,x2g,x2h,x2i,x2j,x2k,x2l,x2m,x2n,x2o,x2p,Env.get,putD,argEnv,List.map,x2q,x2r,x2s,x2t,x2u,x2v,x2w,x2x,List.take,List.drop,x2y,x2z,x30,x31,List.isEmpty,↓reduceIte,reduceCtorEq,Nat.reduceEqDiff,x32,x33,x34,x35,x36,x37,x38,x39,x3a,Nat.reduceAdd,Nat.reduceLeDiff,x3b,x3c,x3d,x3e,Int.reduceNeg,x3f,x3g,x3h,x3i,x3j,x3k,x3l,x3m,Nat.reduceMul,Nat.reduceSub,x3n,x3o,x3p,x3q,x3r,x3s,x3t,x3u,x3v,x3w,x3x,x3y,x3z,x40,x41,x42,x43,x44,x45,x46,x47,x48,x49,x4a,x4b,x4c,x4d,x4e,x4f,x4g,x4h,x4i,x4j,x4k,x4l,x4m,x4n,x4o,x4p,x4q,x4r,x4s,x4t,x4u,x4v,x4w,x4x,x4y,x4z,x50,x51,x52,x53,x54,x55,x56,x57,x58,x59,x5a,x5b,x5c,x5d,x5e,x5f,x5g,x5h,x5i,x5j,x5k,x5l,x5m,x5n,x5o,x5p,x5q,x5r,x5s,x5t,x5u,x5v,x5w,x5x,x5y,x5z,x60,x61,x62,x63,x64,x65,x66,x67,x68,x69,x6a,x6b,x6c,x6d,x6e,x6f,x6g,x6h,x6i,x6j,x6k,x6l,x6m,x6n,x6o,x6p,x6q,x6r,x6s,x6t,x6u,x6v,x6w,x6x,x6y,x6z,x70,x71,x72,x73,x74,x75,x76,x77,x78,x79,x7a,x7b,x7c,x7d,x7e,x7f,x7g,x7h,x7i,x7j,x7k,x7l,x7m,x7n,x7o,x7p,x7q,x7r,x7s,x7t,x7u,x7v,x7w,x7x,x7y,x7z,x80,x81,x82,x83,x84,x85,x86,x87,x88,x89,x8a,x8b,x8c,x8d,x8e,x8f,x8g,Int.reduceEq,Int.reduceLT,Int.reduceLE,Int.reduceToNat,x8h,x8i,x8j,x8k,x8l,x8m,x8n,x8o,x8p,x8q,x8r,x8s,x8t,x8u,x8v,x8w,x8x,x8y,x8z,x90,x91,x92,x93,x94,Int.cast_ofNat_Int,x95,x96,x97,x98,x99,x9a,x9b,x9c,x9d,x9e]
  refine onC_q (back_q f a b n s ls hl x sets hs) rfl ?_
  simp -implicitDefEqProofs only [rowR, ↓x00,↓x01,↓x02,↓x03,↓x04,↓x05,↓x06,↓x07,↓x08,↓x09,↓x0a,↓x0b,↓x0c,↓x0d,↓x0e,↓x0f,↓x0g,↓x0h,↓x0i,↓x0j,↓x0k,↓x0l,↓x0m,↓x0n,↓x0o,↓x0p,↓x0q,↓x0r,↓x0s,↓x0t,↓x0u,↓x0v,↓x0w,↓x0x,↓x0y,↓x0z,↓x10,↓x11,↓x12,↓x13,↓x14,↓x15,↓x16,↓x17,↓x18,↓x19,↓x1a,↓x1b,↓x1c,↓x1d,↓x1e,↓x1f,↓x1g,↓x1h,↓x1i,↓x1j,↓x1k,↓x1l,↓x1m,↓x1n,↓x1o,↓x1p,↓x1q,↓x1r,↓x1s,↓x1t,↓x1u,↓x1v,↓x1w,↓x1x,↓x1y,↓x1z,↓x20,↓x21,↓x22,↓x23,↓x24,↓x25,↓x26,↓x27,↓x28,x29,x2a,x2b,x2c,x2d,x2e,x2f,x2g,x2h,x2i,x2j,x2k,x2l,x2m,x2n,x2o,x2p,Env.get,putD,argEnv,List.map,x2q,x2r,x2s,x2t,x2u,x2v,x2w,x2x,List.take,List.drop,x2y,x2z,x30,x31,List.isEmpty,↓reduceIte,reduceCtorEq,Nat.reduceEqDiff,x32,x33,x34,x35,x36,x37,x38,x39,x3a,Nat.reduceAdd,Nat.reduceLeDiff,x3b,x3c,x3d,x3e,Int.reduceNeg,x3f,x3g,x3h,x3i,x3j,x3k,x3l,x3m,Nat.reduceMul,Nat.reduceSub,x3n,x3o,x3p,x3q,x3r,x3s,x3t,x3u,x3v,x3w,x3x,x3y,x3z,x40,x41,x42,x43,x44,x45,x46,x47,x48,x49,x4a,x4b,x4c,x4d,x4e,x4f,x4g,x4h,x4i,x4j,x4k,x4l,x4m,x4n,x4o,x4p,x4q,x4r,x4s,x4t,x4u,x4v,x4w,x4x,x4y,x4z,x50,x51,x52,x53,x54,x55,x56,x57,x58,x59,x5a,x5b,x5c,x5d,x5e,x5f,x5g,x5h,x5i,x5j,x5k,x5l,x5m,x5n,x5o,x5p,x5q,x5r,x5s,x5t,x5u,x5v,x5w,x5x,x5y,x5z,x60,x61,x62,x63,x64,x65,x66,x67,x68,x69,x6a,x6b,x6c,x6d,x6e,x6f,x6g,x6h,x6i,x6j,x6k,x6l,x6m,x6n,x6o,x6p,x6q,x6r,x6s,x6t,x6u,x6v,x6w,x6x,x6y,x6z,x70,x71,x72,x73,x74,x75,x76,x77,x78,x79,x7a,x7b,x7c,x7d,x7e,x7f,x7g,x7h,x7i,x7j,x7k,x7l,x7m,x7n,x7o,x7p,x7q,x7r,x7s,x7t,x7u,x7v,x7w,x7x,x7y,x7z,x80,x81,x82,x83,x84,x85,x86,x87,x88,x89,x8a,x8b,x8c,x8d,x8e,x8f,x8g,Int.reduceEq,Int.reduceLT,Int.reduceLE,Int.reduceToNat,x8h,x8i,x8j,x8k,x8l,x8m,x8n,x8o,x8p,x8q,x8r,x8s,x8t,x8u,x8v,x8w,x8x,x8y,x8z,x90,x91,x92,x93,x94,Int.cast_ofNat_Int,x95,x96,x97,x98,x99,x9a,x9b,x9c,x9d,x9e]
  refine onC_q (rrowf_q f a b n s ls hl x sets hs) rfl ?_
  simp -implicitDefEqProofs only [rowR, ↓x00,↓x01,↓x02,↓x03,↓x04,↓x05,↓x06,↓x07,↓x08,↓x09,↓x0a,↓x0b,↓x0c,↓x0d,↓x0e,↓x0f,↓x0g,↓x0h,↓x0i,↓x0j,↓x0k,↓x0l,↓x0m,↓x0n,↓x0o,↓x0p,↓x0q,↓x0r,↓x0s,↓x0t,↓x0u,↓x0v,↓x0w,↓x0x,↓x0y,↓x0z,↓x10,↓x11,↓x12,↓x13,↓x14,↓x15,↓x16,↓x17,↓x18,↓x19,↓x1a,↓x1b,↓x1c,↓x1d,↓x1e,↓x1f,↓x1g,↓x1h,↓x1i,↓x1j,↓x1k,↓x1l,↓x1m,↓x1n,↓x1o,↓x1p,↓x1q,↓x1r,↓x1s,↓x1t,↓x1u,↓x1v,↓x1w,↓x1x,↓x1y,↓x1z,↓x20,↓x21,↓x22,↓x23,↓x24,↓x25,↓x26,↓x27,↓x28,x29,x2a,x2b,x2c,x2d,x2e,x2f,x2g,x2h,x2i,x2j,x2k,x2l,x2m,x2n,x2o,x2p,Env.get,putD,argEnv,List.map,x2q,x2r,x2s,x2t,x2u,x2v,x2w,x2x,List.take,List.drop,x2y,x2z,x30,x31,List.isEmpty,↓reduceIte,reduceCtorEq,Nat.reduceEqDiff,x32,x33,x34,x35,x36,x37,x38,x39,x3a,Nat.reduceAdd,Nat.reduceLeDiff,x3b,x3c,x3d,x3e,Int.reduceNeg,x3f,x3g,x3h,x3i,x3j,x3k,x3l,x3m,Nat.reduceMul,Nat.reduceSub,x3n,x3o,x3p,x3q,x3r,x3s,x3t,x3u,x3v,x3w,x3x,x3y,x3z,x40,x41,x42,x43,x44,x45,x46,x47,x48,x49,x4a,x4b,x4c,x4d,x4e,x4f,x4g,x4h,x4i,x4j,x4k,x4l,x4m,x4n,x4o,x4p,x4q,x4r,x4s,x4t,x4u,x4v,x4w,x4x,x4y,x4z,x50,x51,x52,x53,x54,x55,x56,x57,x58,x59,x5a,x5b,x5c,x5d,x5e,x5f,x5g,x5h,x5i,x5j,x5k,x5l,x5m,x5n,x5o,x5p,x5q,x5r,x5s,x5t,x5u,x5v,x5w,x5x,x5y,x5z,x60,x61,x62,x63,x64,x65,x66,x67,x68,x69,x6a,x6b,x6c,x6d,x6e,x6f,x6g,x6h,x6i,x6j,x6k,x6l,x6m,x6n,x6o,x6p,x6q,x6r,x6s,x6t,x6u,x6v,x6w,x6x,x6y,x6z,x70,x71,x72,x73,x74,x75,x76,x77,x78,x79,x7a,x7b,x7c,x7d,x7e,x7f,x7g,x7h,x7i,x7j,x7k,x7l,x7m,x7n,x7o,x7p,x7q,x7r,x7s,x7t,x7u,x7v,x7w,x7x,x7y,x7z,x80,x81,x82,x83,x84,x85,x86,x87,x88,x89,x8a,x8b,x8c,x8d,x8e,x8f,x8g,Int.reduceEq,Int.reduceLT,Int.reduceLE,Int.reduceToNat,x8h,x8i,x8j,x8k,x8l,x8m,x8n,x8o,x8p,x8q,x8r,x8s,x8t,x8u,x8v,x8w,x8x,x8y,x8z,x90,x91,x92,x93,x94,Int.cast_ofNat_Int,x95,x96,x97,x98,x99,x9a,x9b,x9c,x9d,x9e]
  refine onC_q (rrowb_q f a b n s ls hl x sets hs) rfl ?_
  simp -implicitDefEqProofs only [rowR, ↓x00,↓x01,↓x02,↓x03,↓x04,↓x05,↓x06,↓x07,↓x08,↓x09,↓x0a,↓x0b,↓x0c,↓x0d,↓x0e,↓x0f,↓x0g,↓x0h,↓x0i,↓x0j,↓x0k,↓x0l,↓x0m,↓x0n,↓x0o,↓x0p,↓x0q,↓x0r,↓x0s,↓x0t,↓x0u,↓x0v,↓x0w,↓x0x,↓x0y,↓x0z,↓x10,↓x11,↓x12,↓x13,↓x14,↓x15,↓x16,↓x17,↓x18,↓x19,↓x1a,↓x1b,↓x1c,↓x1d,↓x1e,↓x1f,↓x1g,↓x1h,↓x1i,↓x1j,↓x1k,↓x1l,↓x1m,↓x1n,↓x1o,↓x1p,↓x1q,↓x1r,↓x1s,↓x1t,↓x1u,↓x1v,↓x1w,↓x1x,↓x1y,↓x1z,↓x20,↓x21,↓x22,↓x23,↓x24,↓x25,↓x26,↓x27,↓x28,x29,x2a,x2b,x2c,x2d,x2e,x2f,x2g,x2h,x2i,x2j,x2k,x2l,x2m,x2n,x2o,x2p,Env.get,putD,argEnv,List.map,x2q,x2r,x2s,x2t,x2u,x2v,x2w,x2x,List.take,List.drop,x2y,x2z,x30,x31,List.isEmpty,↓reduceIte,reduceCtorEq,Nat.reduceEqDiff,x32,x33,x34,x35,x36,x37,x38,x39,x3a,Nat.reduceAdd,Nat.reduceLeDiff,x3b,x3c,x3d,x3e,Int.reduceNeg,x3f,x3g,x3h,x3i,x3j,x3k,x3l,x3m,Nat.reduceMul,Nat.reduceSub,x3n,x3o,x3p,x3q,x3r,x3s,x3t,x3u,x3v,x3w,x3x,x3y,x3z,x40,x41,x42,x43,x44,x45,x46,x47,x48,x49,x4a,x4b,x4c,x4d,x4e,x4f,x4g,x4h,x4i,x4j,x4k,x4l,x4m,x4n,x4o,x4p,x4q,x4r,x4s,x4t,x4u,x4v,x4w,x4x,x4y,x4z,x50,x51,x52,x53,x54,x55,x56,x57,x58,x59,x5a,x5b,x5c,x5d,x5e,x5f,x5g,x5h,x5i,x5j,x5k,x5l,x5m,x5n,x5o,x5p,x5q,x5r,x5s,x5t,x5u,x5v,x5w,x5x,x5y,x5z,x60,x61,x62,x63,x64,x65,x66,x67,x68,x69,x6a,x6b,x6c,x6d,x6e,x6f,x6g,x6h,x6i,x6j,x6k,x6l,x6m,x6n,x6o,x6p,x6q,x6r,x6s,x6t,x6u,x6v,x6w,x6x,x6y,x6z,x70,x71,x72,x73,x74,x75,x76,x77,x78,x79,x7a,x7b,x7c,x7d,x7e,x7f,x7g,x7h,x7i,x7j,x7k,x7l,x7m,x7n,x7o,x7p,x7q,x7r,x7s,x7t,x7u,x7v,x7w,x7x,x7y,x7z,x80,x81,x82,x83,x84,x85,x86,x87,x88,x89,x8a,x8b,x8c,x8d,x8e,x8f,x8g,Int.reduceEq,Int.reduceLT,Int.reduceLE,Int.reduceToNat,x8h,x8i,x8j,x8k,x8l,x8m,x8n,x8o,x8p,x8q,x8r,x8s,x8t,x8u,x8v,x8w,x8x,x8y,x8z,x90,x91,x92,x93,x94,Int.cast_ofNat_Int,x95,x96,x97,x98,x99,x9a,x9b,x9c,x9d,x9e]
  refine onC_q (same_q _ _) rfl ?_
  simp -implicitDefEqProofs only [↓x00,↓x01,↓x02,↓x03,↓x04,↓x05,↓x06,↓x07,↓x08,↓x09,↓x0a,↓x0b,↓x0c,↓x0d,↓x0e,↓x0f,↓x0g,↓x0h,↓x0i,↓x0j,↓x0k,↓x0l,↓x0m,↓x0n,↓x0o,↓x0p,↓x0q,↓x0r,↓x0s,↓x0t,↓x0u,↓x0v,↓x0w,↓x0x,↓x0y,↓x0z,↓x10,↓x11,↓x12,↓x13,↓x14,↓x15,↓x16,↓x17,↓x18,↓x19,↓x1a,↓x1b,↓x1c,↓x1d,↓x1e,↓x1f,↓x1g,↓x1h,↓x1i,↓x1j,↓x1k,↓x1l,↓x1m,↓x1n,↓x1o,↓x1p,↓x1q,↓x1r,↓x1s,↓x1t,↓x1u,↓x1v,↓x1w,↓x1x,↓x1y,↓x1z,↓x20,↓x21,↓x22,↓x23,↓x24,↓x25,↓x26,↓x27,↓x28,x29,x2a,x2b,x2c,x2d,x2e,x2f,x2g,x2h,x2i,x2j,x2k,x2l,x2m,x2n,x2o,x2p,Env.get,putD,argEnv,List.map,x2q,x2r,x2s,x2t,x2u,x2v,x2w,x2x,List.take,List.drop,x2y,x2z,x30,x31,List.isEmpty,↓reduceIte,reduceCtorEq,Nat.reduceEqDiff,x32,x33,x34,x35,x36,x37,x38,x39,x3a,Nat.reduceAdd,Nat.reduceLeDiff,x3b,x3c,x3d,x3e,Int.reduceNeg,x3f,x3g,x3h,x3i,x3j,x3k,x3l,x3m,Nat.reduceMul,Nat.reduceSub,x3n,x3o,x3p,x3q,x3r,x3s,x3t,x3u,x3v,x3w,x3x,x3y,x3z,x40,x41,x42,x43,x44,x45,x46,x47,x48,x49,x4a,x4b,x4c,x4d,x4e,x4f,x4g,x4h,x4i,x4j,x4k,x4l,x4m,x4n,x4o,x4p,x4q,x4r,x4s,x4t,x4u,x4v,x4w,x4x,x4y,x4z,x50,x51,x52,x53,x54,x55,x56,x57,x58,x59,x5a,x5b,x5c,x5d,x5e,x5f,x5g,x5h,x5i,x5j,x5k,x5l,x5m,x5n,x5o,x5p,x5q,x5r,x5s,x5t,x5u,x5v,x5w,x5x,x5y,x5z,x60,x61,x62,x63,x64,x65,x66,x67,x68,x69,x6a,x6b,x6c,x6d,x6e,x6f,x6g,x6h,x6i,x6j,x6k,x6l,x6m,x6n,x6o,x6p,x6q,x6r,x6s,x6t,x6u,x6v,x6w,x6x,x6y,x6z,x70,x71,x72,x73,x74,x75,x76,x77,x78,x79,x7a,x7b,x7c,x7d,x7e,x7f,x7g,x7h,x7i,x7j,x7k,x7l,x7m,x7n,x7o,x7p,x7q,x7r,x7s,x7t,x7u,x7v,x7w,x7x,x7y,x7z,x80,x81,x82,x83,x84,x85,x86,x87,x88,x89,x8a,x8b,x8c,x8d,x8e,x8f,x8g,Int.reduceEq,Int.reduceLT,Int.reduceLE,Int.reduceToNat,x8h,x8i,x8j,x8k,x8l,x8m,x8n,x8o,x8p,x8q,x8r,x8s,x8t,x8u,x8v,x8w,x8x,x8y,x8z,x90,x91,x92,x93,x94,Int.cast_ofNat_Int,x95,x96,x97,x98,x99,x9a,x9b,x9c,x9d,x9e]
  refine onC_q (same_q _ _) rfl ?_
  simp -implicitDefEqProofs only [↓x00,↓x01,↓x02,↓x03,↓x04,↓x05,↓x06,↓x07,↓x08,↓x09,↓x0a,↓x0b,↓x0c,↓x0d,↓x0e,↓x0f,↓x0g,↓x0h,↓x0i,↓x0j,↓x0k,↓x0l,↓x0m,↓x0n,↓x0o,↓x0p,↓x0q,↓x0r,↓x0s,↓x0t,↓x0u,↓x0v,↓x0w,↓x0x,↓x0y,↓x0z,↓x10,↓x11,↓x12,↓x13,↓x14,↓x15,↓x16,↓x17,↓x18,↓x19,↓x1a,↓x1b,↓x1c,↓x1d,↓x1e,↓x1f,↓x1g,↓x1h,↓x1i,↓x1j,↓x1k,↓x1l,↓x1m,↓x1n,↓x1o,↓x1p,↓x1q,↓x1r,↓x1s,↓x1t,↓x1u,↓x1v,↓x1w,↓x1x,↓x1y,↓x1z,↓x20,↓x21,↓x22,↓x23,↓x24,↓x25,↓x26,↓x27,↓x28,x29,x2a,x2b,x2c,x2d,x2e,x2f,x2g,x2h,x2i,x2j,x2k,x2l,x2m,x2n,x2o,x2p,Env.get,putD,argEnv,List.map,x2q,x2r,x2s,x2t,x2u,x2v,x2w,x2x,List.take,List.drop,x2y,x2z,x30,x31,List.isEmpty,↓reduceIte,reduceCtorEq,Nat.reduceEqDiff,x32,x33,x34,x35,x36,x37,x38,x39,x3a,Nat.reduceAdd,Nat.reduceLeDiff,x3b,x3c,x3d,x3e,Int.reduceNeg,x3f,x3g,x3h,x3i,x3j,x3k,x3l,x3m,Nat.reduceMul,Nat.reduceSub,x3n,x3o,x3p,x3q,x3r,x3s,x3t,x3u,x3v,x3w,x3x,x3y,x3z,x40,x41,x42,x43,x44,x45,x46,x47,x48,x49,x4a,x4b,x4c,x4d,x4e,x4f,x4g,x4h,x4i,x4j,x4k,x4l,x4m,x4n,x4o,x4p,x4q,x4r,x4s,x4t,x4u,x4v,x4w,x4x,x4y,x4z,x50,x51,x52,x53,x54,x55,x56,x57,x58,x59,x5a,x5b,x5c,x5d,x5e,x5f,x5g,x5h,x5i,x5j,x5k,x5l,x5m,x5n,x5o,x5p,x5q,x5r,x5s,x5t,x5u,x5v,x5w,x5x,x5y,x5z,x60,x61,x62,x63,x64,x65,x66,x67,x68,x69,x6a,x6b,x6c,x6d,x6e,x6f,x6g,x6h,x6i,x6j,x6k,x6l,x6m,x6n,x6o,x6p,x6q,x6r,x6s,x6t,x6u,x6v,x6w,x6x,x6y,x6z,x70,x71,x72,x73,x74,x75,x76,x77,x78,x79,x7a,x7b,x7c,x7d,x7e,x7f,x7g,x7h,x7i,x7j,x7k,x7l,x7m,x7n,x7o,x7p,x7q,x7r,x7s,x7t,x7u,x7v,x7w,x7x,x7y,x7z,x80,x81,x82,x83,x84,x85,x86,x87,x88,x89,x8a,x8b,x8c,x8d,x8e,x8f,x8g,Int.reduceEq,Int.reduceLT,Int.reduceLE,Int.reduceToNat,x8h,x8i,x8j,x8k,x8l,x8m,x8n,x8o,x8p,x8q,x8r,x8s,x8t,x8u,x8v,x8w,x8x,x8y,x8z,x90,x91,x92,x93,x94,Int.cast_ofNat_Int,x95,x96,x97,x98,x99,x9a,x9b,x9c,x9d,x9e]
  exact gives_pure
theorem skipRow_all (vs : List V) (h : OkTs Try.prog Try.f15.params.toList vs) : FnQ Try.prog 15 vs [.bool true] := by
  rw [Try.params15] at h
  match vs, h with
  | [x, y, z], h =>
    obtain ⟨h1, h2, h3, _⟩ := h
    obtain ⟨f, rfl⟩ := font_of h1
    obtain ⟨a, b, c, s, rfl, _⟩ := lookup_of h2
    obtain ⟨l, p, q, rfl, _⟩ := wanted_of (h3 _ _ _ ty_wanted)
    exact skipRow_law f a b c s l p q
end Go.Proofs.Ytjgodncjlffhjaa.W
