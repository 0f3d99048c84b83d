/-
  The law SkipNext: what its function does, for every input. No condition.
-/
import Derived.Test.YtjgodncjlffhjaaNext
import Derived.Test.YtjgodncjlffhjaaSame
namespace Go.Proofs.Ytjgodncjlffhjaa.W
open Go Go.Vm Go.Proofs
set_option maxRecDepth 100000
set_option linter.unusedSimpArgs false
set_option maxHeartbeats 1000000
/-! typecase/typecaselaw26.SkipNext -/
def c13 : AC :=
  (.seq (.reg [⟨some 3, none, .box (.s 0)⟩,
    ⟨some 4, none, .box (.s 1)⟩,
    ⟨some 5, none, .box (.s 2)⟩,
    ⟨some 6, none, .mov (.c (.pure (.bool false)))⟩])
  (.seq (.seq (.reg [⟨some 7, none, .load true 6 (.s 3)⟩,
    ⟨some 8, none, .fldA 0 (.s 5)⟩,
    ⟨some 9, none, .load false 1 (.s 8)⟩,
    ⟨some 10, none, .call 58 [(.s 7), (.s 9)]⟩])
  (.cond (.s 10)
  (.seq (.reg [⟨some 6, none, .mov (.c (.pure (.bool true)))⟩])
  .ret)
  .skip))
  (.seq (.regq [⟨some 11, none, .load true 6 (.s 3)⟩,
    ⟨some 12, none, .load true 4 (.s 4)⟩,
    ⟨some 13, none, .fldA 0 (.s 5)⟩,
    ⟨some 14, none, .load false 1 (.s 13)⟩,
    ⟨some 15, none, .fldA 1 (.s 5)⟩,
    ⟨some 16, none, .load false 1 (.s 15)⟩,
    ⟨some 17, none, .call 61 [(.s 11), (.s 12), (.s 14), (.s 16)]⟩,
    ⟨some 18, none, .load true 6 (.s 3)⟩,
    ⟨some 19, none, .load true 4 (.s 4)⟩,
    ⟨some 20, none, .fldA 0 (.s 5)⟩,
    ⟨some 21, none, .load false 1 (.s 20)⟩,
    ⟨some 22, none, .fldA 1 (.s 5)⟩,
    ⟨some 23, none, .load false 1 (.s 22)⟩,
    ⟨some 24, none, .call 62 [(.s 18), (.s 19), (.s 21), (.s 23)]⟩,
    ⟨some 25, none, .bin .eql (.s 17) (.s 24)⟩,
    ⟨some 26, none, .mov (.s 25)⟩,
    ⟨some 27, some (26, true), .load true 6 (.s 3)⟩,
    ⟨some 28, some (26, true), .load true 4 (.s 4)⟩,
    ⟨some 29, some (26, true), .fldA 0 (.s 5)⟩,
    ⟨some 30, some (26, true), .load false 1 (.s 29)⟩,
    ⟨some 31, some (26, true), .fldA 1 (.s 5)⟩,
    ⟨some 32, some (26, true), .load false 1 (.s 31)⟩,
    ⟨some 33, some (26, true), .call 63 [(.s 27), (.s 28), (.s 30), (.s 32)]⟩,
    ⟨some 34, some (26, true), .load true 6 (.s 3)⟩,
    ⟨some 35, some (26, true), .load true 4 (.s 4)⟩,
    ⟨some 36, some (26, true), .fldA 0 (.s 5)⟩,
    ⟨some 37, some (26, true), .load false 1 (.s 36)⟩,
    ⟨some 38, some (26, true), .fldA 1 (.s 5)⟩,
    ⟨some 39, some (26, true), .load false 1 (.s 38)⟩,
    ⟨some 40, some (26, true), .call 64 [(.s 34), (.s 35), (.s 37), (.s 39)]⟩,
    ⟨some 41, some (26, true), .bin .eql (.s 33) (.s 40)⟩,
    ⟨some 42, none, .pick (.s 26) (.s 41) (.c (.pure (.bool false)))⟩,
    ⟨some 43, none, .mov (.s 42)⟩,
    ⟨some 44, some (43, true), .load true 6 (.s 3)⟩,
    ⟨some 45, some (43, true), .load true 4 (.s 4)⟩,
    ⟨some 46, some (43, true), .fldA 0 (.s 5)⟩,
    ⟨some 47, some (43, true), .load false 1 (.s 46)⟩,
    ⟨some 48, some (43, true), .call 65 [(.s 44), (.s 45), (.s 47)]⟩,
    ⟨some 49, some (43, true), .load true 6 (.s 3)⟩,
    ⟨some 50, some (43, true), .load true 4 (.s 4)⟩,
    ⟨some 51, some (43, true), .fldA 0 (.s 5)⟩,
    ⟨some 52, some (43, true), .load false 1 (.s 51)⟩]
    [⟨some 53, some (43, true), .call 66 [(.s 49), (.s 50), (.s 52)]⟩,
    ⟨some 54, some (43, true), .call 28 [(.s 48), (.s 53)]⟩,
    ⟨some 55, none, .pick (.s 43) (.s 54) (.c (.pure (.bool false)))⟩,
    ⟨some 6, none, .mov (.s 55)⟩])
  .ret)))
theorem k13 : (Try.f13.body.bind fun c => cCode Try.prog Try.f13.ntmps RCs c) = some c13 := by kernel_rfl
theorem h13 : (Try.f13.name == "runtime.NumGoroutine") = false := by kernel_rfl
theorem r13 : resC Try.prog Try.f13.results.toList = some [.t 6] := by kernel_rfl
theorem a13 {args : List S} {H : Heap} {K : S → Heap → Prop} (hn : args.length ≤ 56) (h : aWx Try.prog H.length c13 (PostX [.t 6] K) (argEnv 0 args) H) : CallA Try.prog 13 args H K :=
  callA_of_x mixed Try.func13 h13 k13 r13 (by rw [Try.ntmps13]; exact hn) h
theorem q13 {vs ds : List V} (hn : vs.length ≤ 56) (h : aWx Try.prog 0 c13 (PostX [.t 6] (Gives ds)) (argEnv 0 (vs.map .pure)) []) : FnQ Try.prog 13 vs ds :=
  fnQ_of_call (a13 (by simpa using hn) h)

theorem skipNext_law (f : Fo) (a b n : Int) (s : V) (ls : List Gl) (x : Int) : FnQ Try.prog 13 [fo f, lkV a b n s, .agg [.sl (ls.map gl), I x]] [.bool true] := by
  refine q13 (by simp) ?_
  unfold c13
  simp -implicitDefEqProofs only [*, ↓x00,↓x01,↓x02,↓x03,↓x04,↓x05,↓x06,↓x07,↓x08,↓x09,↓x0a,↓x0b,↓x0c,↓x0d,↓x0e,↓x0f,↓x0g,↓x0h,↓x0i,↓x0j,↓x0k,↓x0l,↓x0m,↓x0n,↓x0o,↓x0p,↓x0q,↓x0r,↓x0s,↓x0t,↓x0u,↓x0v,↓x0w,↓x0x,↓x0y,↓x0z,↓x10,↓x11,↓x12,↓x13,↓x14,↓x15,↓x16,↓x17,↓x18,↓x19,↓x1a,↓x1b,↓x1c,↓x1d,↓x1e,↓x1f,↓x1g,↓x1h,↓x1i,↓x1j,↓x1k,↓x1l,↓x1m,↓x1n,↓x1o,↓x1p,↓x1q,↓x1r,↓x1s,↓x1t,↓x1u,↓x1v,↓x1w,↓x1x,↓x1y,↓x1z,↓x20,↓x21,↓x22,↓x23,↓x24,↓x25,↓x26,↓x27,↓x28,x29,x2a,x2b,x2c,x2d,x2e,x2f,x2g,x2h,x2i,x2j,x2k,x2l,x2m,x2n,x2o,x2p,Env.get,putD,argEnv,List.map,x2q,x2r,x2s,x2t,x2u,x2v,x2w,x2x,List.take,List.drop,x2y,x2z,x30,x31,List.isEmpty,↓reduceIte,reduceCtorEq,Nat.reduceEqDiff,x32,x33,x34,x35,x36,x37,x38,x39,x3a,Nat.reduceAdd,Nat.reduceLeDiff,x3b,x3c,x3d,x3e,Int.reduceNeg,x3f,x3g,x3h,x3i,x3j,x3k,x3l,x3m,Nat.reduceMul,Nat.reduceSub,x3n,x3o,x3p,x3q,x3r,x3s,x3t,x3u,x3v,x3w,x3x,x3y,x3z,x40,x41,x42,x43,x44,x45,x46,x47,x48,x49,x4a,x4b,x4c,x4d,x4e,x4f,x4g,x4h,x4i,x4j,x4k,x4l,x4m,x4n,x4o,x4p,x4q,x4r,x4s,x4t,x4u,x4v,x4w,x4x,x4y,x4z,x50,x51,x52,x53,x54,x55,x56,x57,x58,x59,x5a,x5b,x5c,x5d,x5e,x5f,x5g,x5h,x5i,x5j,x5k,x5l,x5m,x5n,x5o,x5p,x5q,x5r,x5s,x5t,x5u,x5v,x5w,x5x,x5y,x5z,x60,x61,x62,x63,x64,x65,x66,x67,x68,x69,x6a,x6b,x6c,x6d,x6e,x6f,x6g,x6h,x6i,x6j,x6k,x6l,x6m,x6n,x6o,x6p,x6q,x6r,x6s,x6t,x6u,x6v,x6w,x6x,x6y,x6z,x70,x71,x72,x73,x74,x75,x76,x77,x78,x79,x7a,x7b,x7c,x7d,x7e,x7f,x7g,x7h,x7i,x7j,x7k,x7l,x7m,x7n,x7o,x7p,x7q,x7r,x7s,x7t,x7u,x7v,x7w,x7x,x7y,x7z,x80,x81,x82,x83,x84,x85,x86,x87,x88,x89,x8a,x8b,x8c,x8d,x8e,x8f,x8g,Int.reduceEq,Int.reduceLT,Int.reduceLE,Int.reduceToNat,x8h,x8i,x8j,x8k,x8l,x8m,x8n,x8o,x8p,x8q,x8r,x8s,x8t,x8u,x8v,x8w,x8x,x8y,x8z,x90,x91,x92,x93,x94,Int.cast_ofNat_Int,x95,x96,x97,x98,x99,x9a,x9b,x9c,x9d,x9e]
  refine onC_q (great_q f (ls.map gl)) rfl ?_
  simp -implicitDefEqProofs only [*, ↓x00,↓x01,↓x02,↓x03,↓x04,↓x05,↓x06,↓x07,↓x08,↓x09,↓x0a,↓x0b,↓x0c,↓x0d,↓x0e,↓x0f,↓x0g,↓x0h,↓x0i,↓x0j,↓x0k,↓x0l,↓x0m,↓x0n,↓x0o,↓x0p,↓x0q,↓x0r,↓x0s,↓x0t,↓x0u,↓x0v,↓x0w,↓x0x,↓x0y,↓x0z,↓x10,↓x11,↓x12,↓x13,↓x14,↓x15,↓x16,↓x17,↓x18,↓x19,↓x1a,↓x1b,↓x1c,↓x1d,↓x1e,↓x1f,↓x1g,↓x1h,↓x1i,↓x1j,↓x1k,↓x1l,↓x1m,↓x1n,↓x1o,↓x1p,↓x1q,↓x1r,↓x1s,↓x1t,↓x1u,↓x1v,↓x1w,↓x1x,↓x1y,↓x1z,↓x20,↓x21,↓x22,↓x23,↓x24,↓x25,↓x26,↓x27,↓x28,x29,x2a,x2b,x2c,x2d,x2e,x2f,x2g,x2h,x2i,x2j,x2k,x2l,x2m,x2n,x2o,x2p,Env.get,putD,argEnv,List.map,x2q,x2r,x2s,x2t,x2u,x2v,x2w,x2x,List.take,List.drop,x2y,x2z,x30,x31,List.isEmpty,↓reduceIte,reduceCtorEq,Nat.reduceEqDiff,x32,x33,x34,x35,x36,x37,x38,x39,x3a,Nat.reduceAdd,Nat.reduceLeDiff,x3b,x3c,x3d,x3e,Int.reduceNeg,x3f,x3g,x3h,x3i,x3j,x3k,x3l,x3m,Nat.reduceMul,Nat.reduceSub,x3n,x3o,x3p,x3q,x3r,x3s,x3t,x3u,x3v,x3w,x3x,x3y,x3z,x40,x41,x42,x43,x44,x45,x46,x47,x48,x49,x4a,x4b,x4c,x4d,x4e,x4f,x4g,x4h,x4i,x4j,x4k,x4l,x4m,x4n,x4o,x4p,x4q,x4r,x4s,x4t,x4u,x4v,x4w,x4x,x4y,x4z,x50,x51,x52,x53,x54,x55,x56,x57,x58,x59,x5a,x5b,x5c,x5d,x5e,x5f,x5g,x5h,x5i,x5j,x5k,x5l,x5m,x5n,x5o,x5p,x5q,x5r,x5s,x5t,x5u,x5v,x5w,x5x,x5y,x5z,x60,x61,x62,x63,x64,x65,x66,x67,x68,x69,x6a,x6b,x6c,x6d,x6e,x6f,x6g,x6h,x6i,x6j,x6k,x6l,x6m,x6n,x6o,x6p,x6q,x6r,x6s,x6t,x6u,x6v,x6w,x6x,x6y,x6z,x70,x71,x72,x73,x74,x75,x76,x77,x78,x79,x7a,x7b,x7c,x7d,x7e,x7f,x7g,x7h,x7i,x7j,x7k,x7l,x7m,x7n,x7o,x7p,x7q,x7r,x7s,x7t,x7u,x7v,x7w,x7x,x7y,x7z,x80,x81,x82,x83,x84,x85,x86,x87,x88,x89,x8a,x8b,x8c,x8d,x8e,x8f,x8g,Int.reduceEq,Int.reduceLT,Int.reduceLE,Int.reduceToNat,x8h,x8i,x8j,x8k,x8l,x8m,x8n,x8o,x8p,x8q,x8r,x8s,x8t,x8u,x8v,x8w,x8x,x8y,x8z,x90,x91,x92,x93,x94,Int.cast_ofNat_Int,x95,x96,x97,x98,x99,x9a,x9b,x9c,x9d,x9e]
  refine onB_intro (fun h => ?_) (fun h => ?_)
  · simp -implicitDefEqProofs only [*, ↓x00,↓x01,↓x02,↓x03,↓x04,↓x05,↓x06,↓x07,↓x08,↓x09,↓x0a,↓x0b,↓x0c,↓x0d,↓x0e,↓x0f,↓x0g,↓x0h,↓x0i,↓x0j,↓x0k,↓x0l,↓x0m,↓x0n,↓x0o,↓x0p,↓x0q,↓x0r,↓x0s,↓x0t,↓x0u,↓x0v,↓x0w,↓x0x,↓x0y,↓x0z,↓x10,↓x11,↓x12,↓x13,↓x14,↓x15,↓x16,↓x17,↓x18,↓x19,↓x1a,↓x1b,↓x1c,↓x1d,↓x1e,↓x1f,↓x1g,↓x1h,↓x1i,↓x1j,↓x1k,↓x1l,↓x1m,↓x1n,↓x1o,↓x1p,↓x1q,↓x1r,↓x1s,↓x1t,↓x1u,↓x1v,↓x1w,↓x1x,↓x1y,↓x1z,↓x20,↓x21,↓x22,↓x23,↓x24,↓x25,↓x26,↓x27,↓x28,x29,x2a,x2b,x2c,x2d,x2e,x2f,x2g,x2h,x2i,x2j,x2k,x2l,x2m,x2n,x2o,x2p,Env.get,putD,argEnv,List.map,x2q,x2r,x2s,x2t,x2u,x2v,x2w,x2x,List.take,List.drop,x2y,x2z,x30,x31,List.isEmpty,↓reduceIte,reduceCtorEq,Nat.reduceEqDiff,x32,x33,x34,x35,x36,x37,x38,x39,x3a,Nat.reduceAdd,Nat.reduceLeDiff,x3b,x3c,x3d,x3e,Int.reduceNeg,x3f,x3g,x3h,x3i,x3j,x3k,x3l,x3m,Nat.reduceMul,Nat.reduceSub,x3n,x3o,x3p,x3q,x3r,x3s,x3t,x3u,x3v,x3w,x3x,x3y,x3z,x40,x41,x42,x43,x44,x45,x46,x47,x48,x49,x4a,x4b,x4c,x4d,x4e,x4f,x4g,x4h,x4i,x4j,x4k,x4l,x4m,x4n,x4o,x4p,x4q,x4r,x4s,x4t,x4u,x4v,x4w,x4x,x4y,x4z,x50,x51,x52,x53,x54,x55,x56,x57,x58,x59,x5a,x5b,x5c,x5d,x5e,x5f,x5g,x5h,x5i,x5j,x5k,x5l,x5m,x5n,x5o,x5p,x5q,x5r,x5s,x5t,x5u,x5v,x5w,x5x,x5y,x5z,x60,x61,x62,x63,x64,x65,x66,x67,x68,x69,x6a,x6b,x6c,x6d,x6e,x6f,x6g,x6h,x6i,x6j,x6k,x6l,x6m,x6n,x6o,x6p,x6q,x6r,x6s,x6t,x6u,x6v,x6w,x6x,x6y,x6z,x70,x71,x72,x73,x74,x75,x76,x77,x78,x79,x7a,x7b,x7c,x7d,x7e,x7f,x7g,x7h,x7i,x7j,x7k,x7l,x7m,x7n,x7o,x7p,x7q,x7r,x7s,x7t,x7u,x7v,x7w,x7x,x7y,x7z,x80,x81,x82,x83,x84,x85,x86,x87,x88,x89,x8a,x8b,x8c,x8d,x8e,x8f,x8g,Int.reduceEq,Int.reduceLT,Int.reduceLE,Int.reduceToNat,x8h,x8i,x8j,x8k,x8l,x8m,x8n,x8o,x8p,x8q,x8r,x8s,x8t,x8u,x8v,x8w,x8x,x8y,x8z,x90,x91,x92,x93,x94,Int.cast_ofNat_Int,x95,x96,x97,x98,x99,x9a,x9b,x9c,x9d,x9e]
    exact gives_pure
  have hl : ls.length ≤ 1000 := by have := (greatS_not h).2.2; omega
  simp -implicitDefEqProofs only [h, ↓x00,↓x01,↓x02,↓x03,↓x04,↓x05,↓x06,↓x07,↓x08,↓x09,↓x0a,↓x0b,↓x0c,↓x0d,↓x0e,↓x0f,↓x0g,↓x0h,↓x0i,↓x0j,↓x0k,↓x0l,↓x0m,↓x0n,↓x0o,↓x0p,↓x0q,↓x0r,↓x0s,↓x0t,↓x0u,↓x0v,↓x0w,↓x0x,↓x0y,↓x0z,↓x10,↓x11,↓x12,↓x13,↓x14,↓x15,↓x16,↓x17,↓x18,↓x19,↓x1a,↓x1b,↓x1c,↓x1d,↓x1e,↓x1f,↓x1g,↓x1h,↓x1i,↓x1j,↓x1k,↓x1l,↓x1m,↓x1n,↓x1o,↓x1p,↓x1q,↓x1r,↓x1s,↓x1t,↓x1u,↓x1v,↓x1w,↓x1x,↓x1y,↓x1z,↓x20,↓x21,↓x22,↓x23,↓x24,↓x25,↓x26,↓x27,↓x28,x29,x2a,x2b,x2c,x2d,x2e,x2f,x2g,x2h,x2i,x2j,x2k,x2l,x2m,x2n,x2o,x2p,Env.get,putD,argEnv,List.map,x2q,x2r,x2s,x2t,x2u,x2v,x2w,x2x,List.take,List.drop,x2y,x2z,x30,x31,List.isEmpty,↓reduceIte,reduceCtorEq,Nat.reduceEqDiff,x32,x33,x34,x35,x36,x37,x38,x39,x3a,Nat.reduceAdd,Nat.reduceLeDiff,x3b,x3c,x3d,x3e,Int.reduceNeg,x3f,x3g,x3h,x3i,x3j,x3k,x3l,x3m,Nat.reduceMul,Nat.reduceSub,x3n,x3o,x3p,x3q,x3r,x3s,x3t,x3u,x3v,x3w,x3x,x3y,x3z,x40,x41,x42,x43,x44,x45,x46,x47,x48,x49,x4a,x4b,x4c,x4d,x4e,x4f,x4g,x4h,x4i,x4j,x4k,x4l,x4m,x4n,x4o,x4p,x4q,x4r,x4s,x4t,x4u,x4v,x4w,x4x,x4y,x4z,x50,x51,x52,x53,x54,x55,x56,x57,x58,x59,x5a,x5b,x5c,x5d,x5e,x5f,x5g,x5h,x5i,x5j,x5k,x5l,x5m,x5n,x5o,x5p,x5q,x5r,x5s,x5t,x5u,x5v,x5w,x5x,x5y,x5z,x60,x61,x62,x63,x64,x65,x66,x67,x68,x69,x6a,x6b,x6c,x6d,x6e,x6f,x6g,x6h,x6i,x6j,x6k,x6l,x6m,x6n,x6o,x6p,x6q,x6r,x6s,x6t,x6u,x6v,x6w,x6x,x6y,x6z,x70,x71,x72,x73,x74,x75,x76,x77,x78,x79,x7a,x7b,x7c,x7d,x7e,x7f,x7g,x7h,x7i,x7j,x7k,x7l,x7m,x7n,x7o,x7p,x7q,x7r,x7s,x7t,x7u,x7v,x7w,x7x,x7y,x7z,x80,x81,x82,x83,x84,x85,x86,x87,x88,x89,x8a,x8b,x8c,x8d,x8e,x8f,x8g,Int.reduceEq,Int.reduceLT,Int.reduceLE,Int.reduceToNat,x8h,x8i,x8j,x8k,x8l,x8m,x8n,x8o,x8p,x8q,x8r,x8s,x8t,x8u,x8v,x8w,x8x,x8y,x8z,x90,x91,x92,x93,x94,Int.cast_ofNat_Int,x95,x96,x97,x98,x99,x9a,x9b,x9c,x9d,x9e]
  refine onQ_q (next_q f a b n s ls x hl) rfl ?_
  simp -implicitDefEqProofs only [↓x00,↓x01,↓x02,↓x03,↓x04,↓x05,↓x06,↓x07,↓x08,↓x09,↓x0a,↓x0b,↓x0c,↓x0d,↓x0e,↓x0f,↓x0g,↓x0h,↓x0i,↓x0j,↓x0k,↓x0l,↓x0m,↓x0n,↓x0o,↓x0p,↓x0q,↓x0r,↓x0s,↓x0t,↓x0u,↓x0v,↓x0w,↓x0x,↓x0y,↓x0z,↓x10,↓x11,↓x12,↓x13,↓x14,↓x15,↓x16,↓x17,↓x18,↓x19,↓x1a,↓x1b,↓x1c,↓x1d,↓x1e,↓x1f,↓x1g,↓x1h,↓x1i,↓x1j,↓x1k,↓x1l,↓x1m,↓x1n,↓x1o,↓x1p,↓x1q,↓x1r,↓x1s,↓x1t,↓x1u,↓x1v,↓x1w,↓x1x,↓x1y,↓x1z,↓x20,↓x21,↓x22,↓x23,↓x24,↓x25,↓x26,↓x27,↓x28,x29,x2a,x2b,x2c,x2d,x2e,x2f,x2g,x2h,x2i,x2j,x2k,x2l,x2m,x2n,x2o,x2p,Env.get,putD,argEnv,List.map,x2q,x2r,x2s,x2t,x2u,x2v,x2w,x2x,List.take,List.drop,x2y,x2z,x30,x31,List.isEmpty,↓reduceIte,reduceCtorEq,Nat.reduceEqDiff,x32,x33,x34,x35,x36,x37,x38,x39,x3a,Nat.reduceAdd,Nat.reduceLeDiff,x3b,x3c,x3d,x3e,Int.reduceNeg,x3f,x3g,x3h,x3i,x3j,x3k,x3l,x3m,Nat.reduceMul,Nat.reduceSub,x3n,x3o,x3p,x3q,x3r,x3s,x3t,x3u,x3v,x3w,x3x,x3y,x3z,x40,x41,x42,x43,x44,x45,x46,x47,x48,x49,x4a,x4b,x4c,x4d,x4e,x4f,x4g,x4h,x4i,x4j,x4k,x4l,x4m,x4n,x4o,x4p,x4q,x4r,x4s,x4t,x4u,x4v,x4w,x4x,x4y,x4z,x50,x51,x52,x53,x54,x55,x56,x57,x58,x59,x5a,x5b,x5c,x5d,x5e,x5f,x5g,x5h,x5i,x5j,x5k,x5l,x5m,x5n,x5o,x5p,x5q,x5r,x5s,x5t,x5u,x5v,x5w,x5x,x5y,x5z,x60,x61,x62,x63,x64,x65,x66,x67,x68,x69,x6a,x6b,x6c,x6d,x6e,x6f,x6g,x6h,x6i,x6j,x6k,x6l,x6m,x6n,x6o,x6p,x6q,x6r,x6s,x6t,x6u,x6v,x6w,x6x,x6y,x6z,x70,x71,x72,x73,x74,x75,x76,x77,x78,x79,x7a,x7b,x7c,x7d,x7e,x7f,x7g,x7h,x7i,x7j,x7k,x7l,x7m,x7n,x7o,x7p,x7q,x7r,x7s,x7t,x7u,x7v,x7w,x7x,x7y,x7z,x80,x81,x82,x83,x84,x85,x86,x87,x88,x89,x8a,x8b,x8c,x8d,x8e,x8f,x8g,Int.reduceEq,Int.reduceLT,Int.reduceLE,Int.reduceToNat,x8h,x8i,x8j,x8k,x8l,x8m,x8n,x8o,x8p,x8q,x8r,x8s,x8t,x8u,x8v,x8w,x8x,x8y,x8z,x90,x91,x92,x93,x94,Int.cast_ofNat_Int,x95,x96,x97,x98,x99,x9a,x9b,x9c,x9d,x9e]
  refine onQ_q (rnext_q f a b n s ls x hl) rfl ?_
  simp -implicitDefEqProofs only [↓x00,↓x01,↓x02,↓x03,↓x04,↓x05,↓x06,↓x07,↓x08,↓x09,↓x0a,↓x0b,↓x0c,↓x0d,↓x0e,↓x0f,↓x0g,↓x0h,↓x0i,↓x0j,↓x0k,↓x0l,↓x0m,↓x0n,↓x0o,↓x0p,↓x0q,↓x0r,↓x0s,↓x0t,↓x0u,↓x0v,↓x0w,↓x0x,↓x0y,↓x0z,↓x10,↓x11,↓x12,↓x13,↓x14,↓x15,↓x16,↓x17,↓x18,↓x19,↓x1a,↓x1b,↓x1c,↓x1d,↓x1e,↓x1f,↓x1g,↓x1h,↓x1i,↓x1j,↓x1k,↓x1l,↓x1m,↓x1n,↓x1o,↓x1p,↓x1q,↓x1r,↓x1s,↓x1t,↓x1u,↓x1v,↓x1w,↓x1x,↓x1y,↓x1z,↓x20,↓x21,↓x22,↓x23,↓x24,↓x25,↓x26,↓x27,↓x28,x29,x2a,x2b,x2c,x2d,x2e,x2f,x2g,x2h,x2i,x2j,x2k,x2l,x2m,x2n,x2o,x2p,Env.get,putD,argEnv,List.map,x2q,x2r,x2s,x2t,x2u,x2v,x2w,x2x,List.take,List.drop,x2y,x2z,x30,x31,List.isEmpty,↓reduceIte,reduceCtorEq,Nat.reduceEqDiff,x32,x33,x34,x35,x36,x37,x38,x39,x3a,Nat.reduceAdd,Nat.reduceLeDiff,x3b,x3c,x3d,x3e,Int.reduceNeg,x3f,x3g,x3h,x3i,x3j,x3k,x3l,x3m,Nat.reduceMul,Nat.reduceSub,x3n,x3o,x3p,x3q,x3r,x3s,x3t,x3u,x3v,x3w,x3x,x3y,x3z,x40,x41,x42,x43,x44,x45,x46,x47,x48,x49,x4a,x4b,x4c,x4d,x4e,x4f,x4g,x4h,x4i,x4j,x4k,x4l,x4m,x4n,x4o,x4p,x4q,x4r,x4s,x4t,x4u,x4v,x4w,x4x,x4y,x4z,x50,x51,x52,x53,x54,x55,x56,x57,x58,x59,x5a,x5b,x5c,x5d,x5e,x5f,x5g,x5h,x5i,x5j,x5k,x5l,x5m,x5n,x5o,x5p,x5q,x5r,x5s,x5t,x5u,x5v,x5w,x5x,x5y,x5z,x60,x61,x62,x63,x64,x65,x66,x67,x68,x69,x6a,x6b,x6c,x6d,x6e,x6f,x6g,x6h,x6i,x6j,x6k,x6l,x6m,x6n,x6o,x6p,x6q,x6r,x6s,x6t,x6u,x6v,x6w,x6x,x6y,x6z,x70,x71,x72,x73,x74,x75,x76,x77,x78,x79,x7a,x7b,x7c,x7d,x7e,x7f,x7g,x7h,x7i,x7j,x7k,x7l,x7m,x7n,x7o,x7p,x7q,x7r,x7s,x7t,x7u,x7v,x7w,x7x,x7y,x7z,x80,x81,x82,x83,x84,x85,x86,x87,x88,x89,x8a,x8b,x8c,x8d,x8e,x8f,x8g,Int.reduceEq,Int.reduceLT,Int.reduceLE,Int.reduceToNat,x8h,x8i,x8j,x8k,x8l,x8m,x8n,x8o,x8p,x8q,x8r,x8s,x8t,x8u,x8v,x8w,x8x,x8y,x8z,x90,x91,x92,x93,x94,Int.cast_ofNat_Int,x95,x96,x97,x98,x99,x9a,x9b,x9c,x9d,x9e]
  refine onQ_q (prev_q f a b n s ls x hl) rfl ?_
  simp -implicitDefEqProofs only [↓x00,↓x01,↓x02,↓x03,↓x04,↓x05,↓x06,↓x07,↓x08,↓x09,↓x0a,↓x0b,↓x0c,↓x0d,↓x0e,↓x0f,↓x0g,↓x0h,↓x0i,↓x0j,↓x0k,↓x0l,↓x0m,↓x0n,↓x0o,↓x0p,↓x0q,↓x0r,↓x0s,↓x0t,↓x0u,↓x0v,↓x0w,↓x0x,↓x0y,↓x0z,↓x10,↓x11,↓x12,↓x13,↓x14,↓x15,↓x16,↓x17,↓x18,↓x19,↓x1a,↓x1b,↓x1c,↓x1d,↓x1e,↓x1f,↓x1g,↓x1h,↓x1i,↓x1j,↓x1k,↓x1l,↓x1m,↓x1n,↓x1o,↓x1p,↓x1q,↓x1r,↓x1s,↓x1t,↓x1u,↓x1v,↓x1w,↓x1x,↓x1y,↓x1z,↓x20,↓x21,↓x22,↓x23,↓x24,↓x25,↓x26,↓x27,↓x28,x29,x2a,x2b,x2c,x2d,x2e,x2f,x2g,x2h,x2i,x2j,x2k,x2l,x2m,x2n,x2o,x2p,Env.get,putD,argEnv,List.map,x2q,x2r,x2s,x2t,x2u,x2v,x2w,x2x,List.take,List.drop,x2y,x2z,x30,x31,List.isEmpty,↓reduceIte,reduceCtorEq,Nat.reduceEqDiff,x32,x33,x34,x35,x36,x37,x38,x39,x3a,Nat.reduceAdd,Nat.reduceLeDiff,x3b,x3c,x3d,x3e,Int.reduceNeg,x3f,x3g,x3h,x3i,x3j,x3k,x3l,x3m,Nat.reduceMul,Nat.reduceSub,x3n,x3o,x3p,x3q,x3r,x3s,x3t,x3u,x3v,x3w,x3x,x3y,x3z,x40,x41,x42,x43,x44,x45,x46,x47,x48,x49,x4a,x4b,x4c,x4d,x4e,x4f,x4g,x4h,x4i,x4j,x4k,x4l,x4m,x4n,x4o,x4p,x4q,x4r,x4s,x4t,x4u,x4v,x4w,x4x,x4y,x4z,x50,x51,x52,x53,x54,x55,x56,x57,x58,x59,x5a,x5b,x5c,x5d,x5e,x5f,x5g,x5h,x5i,x5j,x5k,x5l,x5m,x5n,x5o,x5p,x5q,x5r,x5s,x5t,x5u,x5v,x5w,x5x,x5y,x5z,x60,x61,x62,x63,x64,x65,x66,x67,x68,x69,x6a,x6b,x6c,x6d,x6e,x6f,x6g,x6h,x6i,x6j,x6k,x6l,x6m,x6n,x6o,x6p,x6q,x6r,x6s,x6t,x6u,x6v,x6w,x6x,x6y,x6z,x70,x71,x72,x73,x74,x75,x76,x77,x78,x79,x7a,x7b,x7c,x7d,x7e,x7f,x7g,x7h,x7i,x7j,x7k,x7l,x7m,x7n,x7o,x7p,x7q,x7r,x7s,x7t,x7u,x7v,x7w,x7x,x7y,x7z,x80,x81,x82,x83,x84,x85,x86,x87,x88,x89,x8a,x8b,x8c,x8d,x8e,x8f,x8g,Int.reduceEq,Int.reduceLT,Int.reduceLE,Int.reduceToNat,x8h,x8i,x8j,x8k,x8l,x8m,x8n,x8o,x8p,x8q,x8r,x8s,x8t,x8u,x8v,x8w,x8x,x8y,x8z,x90,x91,x92,x93,x94,Int.cast_ofNat_Int,x95,x96,x97,x98,x99,x9a,x9b,x9c,x9d,x9e]
  refine onQ_q (rprev_q f a b n s ls x hl) rfl ?_
  simp -implicitDefEqProofs only [↓x00,↓x01,↓x02,↓x03,↓x04,↓x05,↓x06,↓x07,↓x08,↓x09,↓x0a,↓x0b,↓x0c,↓x0d,↓x0e,↓x0f,↓x0g,↓x0h,↓x0i,↓x0j,↓x0k,↓x0l,↓x0m,↓x0n,↓x0o,↓x0p,↓x0q,↓x0r,↓x0s,↓x0t,↓x0u,↓x0v,↓x0w,↓x0x,↓x0y,↓x0z,↓x10,↓x11,↓x12,↓x13,↓x14,↓x15,↓x16,↓x17,↓x18,↓x19,↓x1a,↓x1b,↓x1c,↓x1d,↓x1e,↓x1f,↓x1g,↓x1h,↓x1i,↓x1j,↓x1k,↓x1l,↓x1m,↓x1n,↓x1o,↓x1p,↓x1q,↓x1r,↓x1s,↓x1t,↓x1u,↓x1v,↓x1w,↓x1x,↓x1y,↓x1z,↓x20,↓x21,↓x22,↓x23,↓x24,↓x25,↓x26,↓x27,↓x28,x29,x2a,x2b,x2c,x2d,x2e,x2f,x2g,x2h,x2i,x2j,x2k,x2l,x2m,x2n,x2o,x2p,Env.get,putD,argEnv,List.map,x2q,x2r,x2s,x2t,x2u,x2v,x2w,x2x,List.take,List.drop,x2y,x2z,x30,x31,List.isEmpty,↓reduceIte,reduceCtorEq,Nat.reduceEqDiff,x32,x33,x34,x35,x36,x37,x38,x39,x3a,Nat.reduceAdd,Nat.reduceLeDiff,x3b,x3c,x3d,x3e,Int.reduceNeg,x3f,x3g,x3h,x3i,x3j,x3k,x3l,x3m,Nat.reduceMul,Nat.reduceSub,x3n,x3o,x3p,x3q,x3r,x3s,x3t,x3u,x3v,x3w,x3x,x3y,x3z,x40,x41,x42,x43,x44,x45,x46,x47,x48,x49,x4a,x4b,x4c,x4d,x4e,x4f,x4g,x4h,x4i,x4j,x4k,x4l,x4m,x4n,x4o,x4p,x4q,x4r,x4s,x4t,x4u,x4v,x4w,x4x,x4y,x4z,x50,x51,x52,x53,x54,x55,x56,x57,x58,x59,x5a,x5b,x5c,x5d,x5e,x5f,x5g,x5h,x5i,x5j,x5k,x5l,x5m,x5n,x5o,x5p,x5q,x5r,x5s,x5t,x5u,x5v,x5w,x5x,x5y,x5z,x60,x61,x62,x63,x64,x65,x66,x67,x68,x69,x6a,x6b,x6c,x6d,x6e,x6f,x6g,x6h,x6i,x6j,x6k,x6l,x6m,x6n,x6o,x6p,x6q,x6r,x6s,x6t,x6u,x6v,x6w,x6x,x6y,x6z,x70,x71,x72,x73,x74,x75,x76,x77,x78,x79,x7a,x7b,x7c,x7d,x7e,x7f,x7g,x7h,x7i,x7j,x7k,x7l,x7m,x7n,x7o,x7p,x7q,x7r,x7s,x7t,x7u,x7v,x7w,x7x,x7y,x7z,x80,x81,x82,x83,x84,x85,x86,x87,x88,x89,x8a,x8b,x8c,x8d,x8e,x8f,x8g,Int.reduceEq,Int.reduceLT,Int.reduceLE,Int.reduceToNat,x8h,x8i,x8j,x8k,x8l,x8m,x8n,x8o,x8p,x8q,x8r,x8s,x8t,x8u,x8v,x8w,x8x,x8y,x8z,x90,x91,x92,x93,x94,Int.cast_ofNat_Int,x95,x96,x97,x98,x99,x9a,x9b,x9c,x9d,x9e]
  refine onQ_q (seen_q f a b n s ls hl) rfl ?_
  simp -implicitDefEqProofs only [↓x00,↓x01,↓x02,↓x03,↓x04,↓x05,↓x06,↓x07,↓x08,↓x09,↓x0a,↓x0b,↓x0c,↓x0d,↓x0e,↓x0f,↓x0g,↓x0h,↓x0i,↓x0j,↓x0k,↓x0l,↓x0m,↓x0n,↓x0o,↓x0p,↓x0q,↓x0r,↓x0s,↓x0t,↓x0u,↓x0v,↓x0w,↓x0x,↓x0y,↓x0z,↓x10,↓x11,↓x12,↓x13,↓x14,↓x15,↓x16,↓x17,↓x18,↓x19,↓x1a,↓x1b,↓x1c,↓x1d,↓x1e,↓x1f,↓x1g,↓x1h,↓x1i,↓x1j,↓x1k,↓x1l,↓x1m,↓x1n,↓x1o,↓x1p,↓x1q,↓x1r,↓x1s,↓x1t,↓x1u,↓x1v,↓x1w,↓x1x,↓x1y,↓x1z,↓x20,↓x21,↓x22,↓x23,↓x24,↓x25,↓x26,↓x27,↓x28,x29,x2a,x2b,x2c,x2d,x2e,x2f,x2g,x2h,x2i,x2j,x2k,x2l,x2m,x2n,x2o,x2p,Env.get,putD,argEnv,List.map,x2q,x2r,x2s,x2t,x2u,x2v,x2w,x2x,List.take,List.drop,x2y,x2z,x30,x31,List.isEmpty,↓reduceIte,reduceCtorEq,Nat.reduceEqDiff,x32,x33,x34,x35,x36,x37,x38,x39,x3a,Nat.reduceAdd,Nat.reduceLeDiff,x3b,x3c,x3d,x3e,Int.reduceNeg,x3f,x3g,x3h,x3i,x3j,x3k,x3l,x3m,Nat.reduceMul,Nat.reduceSub,x3n,x3o,x3p,x3q,x3r,x3s,x3t,x3u,x3v,x3w,x3x,x3y,x3z,x40,x41,x42,x43,x44,x45,x46,x47,x48,x49,x4a,x4b,x4c,x4d,x4e,x4f,x4g,x4h,x4i,x4j,x4k,x4l,x4m,x4n,x4o,x4p,x4q,x4r,x4s,x4t,x4u,x4v,x4w,x4x,x4y,x4z,x50,x51,x52,x53,x54,x55,x56,x57,x58,x59,x5a,x5b,x5c,x5d,x5e,x5f,x5g,x5h,x5i,x5j,x5k,x5l,x5m,x5n,x5o,x5p,x5q,x5r,x5s,x5t,x5u,x5v,x5w,x5x,x5y,x5z,x60,x61,x62,x63,x64,x65,x66,x67,x68,x69,x6a,x6b,x6c,x6d,x6e,x6f,x6g,x6h,x6i,x6j,x6k,x6l,x6m,x6n,x6o,x6p,x6q,x6r,x6s,x6t,x6u,x6v,x6w,x6x,x6y,x6z,x70,x71,x72,x73,x74,x75,x76,x77,x78,x79,x7a,x7b,x7c,x7d,x7e,x7f,x7g,x7h,x7i,x7j,x7k,x7l,x7m,x7n,x7o,x7p,x7q,x7r,x7s,x7t,x7u,x7v,x7w,x7x,x7y,x7z,x80,x81,x82,x83,x84,x85,x86,x87,x88,x89,x8a,x8b,x8c,x8d,x8e,x8f,x8g,Int.reduceEq,Int.reduceLT,Int.reduceLE,Int.reduceToNat,x8h,x8i,x8j,x8k,x8l,x8m,x8n,x8o,x8p,x8q,x8r,x8s,x8t,x8u,x8v,x8w,x8x,x8y,x8z,x90,x91,x92,x93,x94,Int.cast_ofNat_Int,x95,x96,x97,x98,x99,x9a,x9b,x9c,x9d,x9e]
  refine onC_q (rseen_q f a b n s ls hl) rfl ?_
  simp -implicitDefEqProofs only [↓x00,↓x01,↓x02,↓x03,↓x04,↓x05,↓x06,↓x07,↓x08,↓x09,↓x0a,↓x0b,↓x0c,↓x0d,↓x0e,↓x0f,↓x0g,↓x0h,↓x0i,↓x0j,↓x0k,↓x0l,↓x0m,↓x0n,↓x0o,↓x0p,↓x0q,↓x0r,↓x0s,↓x0t,↓x0u,↓x0v,↓x0w,↓x0x,↓x0y,↓x0z,↓x10,↓x11,↓x12,↓x13,↓x14,↓x15,↓x16,↓x17,↓x18,↓x19,↓x1a,↓x1b,↓x1c,↓x1d,↓x1e,↓x1f,↓x1g,↓x1h,↓x1i,↓x1j,↓x1k,↓x1l,↓x1m,↓x1n,↓x1o,↓x1p,↓x1q,↓x1r,↓x1s,↓x1t,↓x1u,↓x1v,↓x1w,↓x1x,↓x1y,↓x1z,↓x20,↓x21,↓x22,↓x23,↓x24,↓x25,↓x26,↓x27,↓x28,x29,x2a,x2b,x2c,x2d,x2e,x2f,x2g,x2h,x2i,x2j,x2k,x2l,x2m,x2n,x2o,x2p,Env.get,putD,argEnv,List.map,x2q,x2r,x2s,x2t,x2u,x2v,x2w,x2x,List.take,List.drop,x2y,x2z,x30,x31,List.isEmpty,↓reduceIte,reduceCtorEq,Nat.reduceEqDiff,x32,x33,x34,x35,x36,x37,x38,x39,x3a,Nat.reduceAdd,Nat.reduceLeDiff,x3b,x3c,x3d,x3e,Int.reduceNeg,x3f,x3g,x3h,x3i,x3j,x3k,x3l,x3m,Nat.reduceMul,Nat.reduceSub,x3n,x3o,x3p,x3q,x3r,x3s,x3t,x3u,x3v,x3w,x3x,x3y,x3z,x40,x41,x42,x43,x44,x45,x46,x47,x48,x49,x4a,x4b,x4c,x4d,x4e,x4f,x4g,x4h,x4i,x4j,x4k,x4l,x4m,x4n,x4o,x4p,x4q,x4r,x4s,x4t,x4u,x4v,x4w,x4x,x4y,x4z,x50,x51,x52,x53,x54,x55,x56,x57,x58,x59,x5a,x5b,x5c,x5d,x5e,x5f,x5g,x5h,x5i,x5j,x5k,x5l,x5m,x5n,x5o,x5p,x5q,x5r,x5s,x5t,x5u,x5v,x5w,x5x,x5y,x5z,x60,x61,x62,x63,x64,x65,x66,x67,x68,x69,x6a,x6b,x6c,x6d,x6e,x6f,x6g,x6h,x6i,x6j,x6k,x6l,x6m,x6n,x6o,x6p,x6q,x6r,x6s,x6t,x6u,x6v,x6w,x6x,x6y,x6z,x70,x71,x72,x73,x74,x75,x76,x77,x78,x79,x7a,x7b,x7c,x7d,x7e,x7f,x7g,x7h,x7i,x7j,x7k,x7l,x7m,x7n,x7o,x7p,x7q,x7r,x7s,x7t,x7u,x7v,x7w,x7x,x7y,x7z,x80,x81,x82,x83,x84,x85,x86,x87,x88,x89,x8a,x8b,x8c,x8d,x8e,x8f,x8g,Int.reduceEq,Int.reduceLT,Int.reduceLE,Int.reduceToNat,x8h,x8i,x8j,x8k,x8l,x8m,x8n,x8o,x8p,x8q,x8r,x8s,x8t,x8u,x8v,x8w,x8x,x8y,x8z,x90,x91,x92,x93,x94,Int.cast_ofNat_Int,x95,x96,x97,x98,x99,x9a,x9b,x9c,x9d,x9e]
  refine onC_q (same_q _ _) rfl ?_
  simp -implicitDefEqProofs only [↓x00,↓x01,↓x02,↓x03,↓x04,↓x05,↓x06,↓x07,↓x08,↓x09,↓x0a,↓x0b,↓x0c,↓x0d,↓x0e,↓x0f,↓x0g,↓x0h,↓x0i,↓x0j,↓x0k,↓x0l,↓x0m,↓x0n,↓x0o,↓x0p,↓x0q,↓x0r,↓x0s,↓x0t,↓x0u,↓x0v,↓x0w,↓x0x,↓x0y,↓x0z,↓x10,↓x11,↓x12,↓x13,↓x14,↓x15,↓x16,↓x17,↓x18,↓x19,↓x1a,↓x1b,↓x1c,↓x1d,↓x1e,↓x1f,↓x1g,↓x1h,↓x1i,↓x1j,↓x1k,↓x1l,↓x1m,↓x1n,↓x1o,↓x1p,↓x1q,↓x1r,↓x1s,↓x1t,↓x1u,↓x1v,↓x1w,↓x1x,↓x1y,↓x1z,↓x20,↓x21,↓x22,↓x23,↓x24,↓x25,↓x26,↓x27,↓x28,x29,x2a,x2b,x2c,x2d,x2e,x2f,x2g,x2h,x2i,x2j,x2k,x2l,x2m,x2n,x2o,x2p,Env.get,putD,argEnv,List.map,x2q,x2r,x2s,x2t,x2u,x2v,x2w,x2x,List.take,List.drop,x2y,x2z,x30,x31,List.isEmpty,↓reduceIte,reduceCtorEq,Nat.reduceEqDiff,x32,x33,x34,x35,x36,x37,x38,x39,x3a,Nat.reduceAdd,Nat.reduceLeDiff,x3b,x3c,x3d,x3e,Int.reduceNeg,x3f,x3g,x3h,x3i,x3j,x3k,x3l,x3m,Nat.reduceMul,Nat.reduceSub,x3n,x3o,x3p,x3q,x3r,x3s,x3t,x3u,x3v,x3w,x3x,x3y,x3z,x40,x41,x42,x43,x44,x45,x46,x47,x48,x49,x4a,x4b,x4c,x4d,x4e,x4f,x4g,x4h,x4i,x4j,x4k,x4l,x4m,x4n,x4o,x4p,x4q,x4r,x4s,x4t,x4u,x4v,x4w,x4x,x4y,x4z,x50,x51,x52,x53,x54,x55,x56,x57,x58,x59,x5a,x5b,x5c,x5d,x5e,x5f,x5g,x5h,x5i,x5j,x5k,x5l,x5m,x5n,x5o,x5p,x5q,x5r,x5s,x5t,x5u,x5v,x5w,x5x,x5y,x5z,x60,x61,x62,x63,x64,x65,x66,x67,x68,x69,x6a,x6b,x6c,x6d,x6e,x6f,x6g,x6h,x6i,x6j,x6k,x6l,x6m,x6n,x6o,x6p,x6q,x6r,x6s,x6t,x6u,x6v,x6w,x6x,x6y,x6z,x70,x71,x72,x73,x74,x75,x76,x77,x78,x79,x7a,x7b,x7c,x7d,x7e,x7f,x7g,x7h,x7i,x7j,x7k,x7l,x7m,x7n,x7o,x7p,x7q,x7r,x7s,x7t,x7u,x7v,x7w,x7x,x7y,x7z,x80,x81,x82,x83,x84,x85,x86,x87,x88,x89,x8a,x8b,x8c,x8d,x8e,x8f,x8g,Int.reduceEq,Int.reduceLT,Int.reduceLE,Int.reduceToNat,x8h,x8i,x8j,x8k,x8l,x8m,x8n,x8o,x8p,x8q,x8r,x8s,x8t,x8u,x8v,x8w,x8x,x8y,x8z,x90,x91,x92,x93,x94,Int.cast_ofNat_Int,x95,x96,x97,x98,x99,x9a,x9b,x9c,x9d,x9e]
  exact gives_pure
theorem ty_place : tyC Try.prog 20 84 = some (true, [.sl true (List.replicate 10 (.int .i64)), .int .i64]) := by kernel_rfl
theorem place_of {v : V} (h : OkE true [.sl true (List.replicate 10 (.int .i64)), .int .i64] v) : ∃ (l : List Gl) (x : Int), v = .agg [.sl (l.map gl), I x] := by
  obtain ⟨cs, rfl, hc⟩ := agg_of h
  clear h
  match cs, hc with
  | [a, b], ⟨h1, h2, _⟩ =>
    obtain ⟨l, rfl, _⟩ := gls_of h1
    obtain ⟨x, rfl, _⟩ := okN_of h2
    exact ⟨l, x, rfl⟩
theorem skipNext_all (vs : List V) (h : OkTs Try.prog Try.f13.params.toList vs) : FnQ Try.prog 13 vs [.bool true] := by
  rw [Try.params13] at h
  match vs, h with
  | [x, y, z], h =>
    obtain ⟨h1, h2, h3, _⟩ := h
    obtain ⟨f, rfl⟩ := font_of h1
    obtain ⟨a, b, c, s, rfl, _⟩ := lookup_of h2
    obtain ⟨l, p, rfl⟩ := place_of (h3 _ _ _ ty_place)
    exact skipNext_law f a b c s l p
end Go.Proofs.Ytjgodncjlffhjaa.W
