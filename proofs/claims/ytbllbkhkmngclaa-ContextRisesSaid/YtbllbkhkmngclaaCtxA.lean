/-
  Contexts that are done, whole. No condition but on sizes, and on what does a lookup.
-/
import Derived.Test.YtbllbkhkmngclaaCtx
namespace Go.Proofs.Ytbllbkhkmngclaa.W
open Go Go.Vm Go.Proofs
set_option maxRecDepth 100000
set_option linter.unusedSimpArgs false
set_option maxHeartbeats 4000000
/-! typecase/context.Apply -/
def c24_0 : AC :=
  (.seq (.regq [⟨some 60, none, .fldA 1 (.s 17)⟩,
    ⟨some 61, none, .load false 1 (.s 60)⟩,
    ⟨some 62, none, .call 61 [(.s 61)]⟩,
    ⟨some 63, none, .fldA 1 (.s 17)⟩,
    ⟨some 64, none, .load false 1 (.s 63)⟩,
    ⟨some 65, none, .len (.s 64)⟩,
    ⟨some 66, none, .mov (.s 16)⟩,
    ⟨some 67, none, .bin .sub (.s 65) (.s 66)⟩,
    ⟨some 68, none, .mov (.s 3)⟩,
    ⟨some 69, none, .mx (.s 67) (.s 68)⟩,
    ⟨some 10, none, .mov (.s 62)⟩]
    [⟨some 11, none, .mov (.s 69)⟩,
    ⟨some 12, none, .mov (.c (.pure (.bool true)))⟩])
  .ret)
def c24_1 : AC :=
  (.seq (.reg [⟨some 54, none, .bin .lss (.s 53) (.s 52)⟩])
  (.seq (.cond (.s 54)
  .skip
  (.exit 0))
  (.seq (.block 1
  (.seq (.reg [⟨some 55, none, .idxA 2 (.s 51) (.s 53)⟩,
    ⟨some 56, none, .load true 2 (.s 55)⟩,
    ⟨some 19, none, .box (.c (.pure (.agg [(.int .i64 0), (.int .i64 0)])))⟩,
    ⟨none, none, .store 2 (.s 19) (.s 56)⟩])
  (.reg [⟨some 57, none, .load true 2 (.s 19)⟩,
    ⟨some 58, none, .call 64 [(.s 17), (.s 57)]⟩])))
  (.reg [⟨some 59, none, .bin .add (.s 53) (.c (.pure (.int .i64 1)))⟩,
    ⟨some 53, none, .mov (.s 59)⟩]))))
def c24 : AC :=
  (.seq (.reg [⟨some 5, none, .box (.s 0)⟩,
    ⟨some 6, none, .box (.s 1)⟩,
    ⟨some 10, none, .mov (.c .empty)⟩,
    ⟨some 11, none, .mov (.c (.pure (.int .i64 0)))⟩,
    ⟨some 12, none, .mov (.c (.pure (.bool false)))⟩])
  (.seq (.reg [⟨some 21, none, .load true 6 (.s 5)⟩,
    ⟨some 22, none, .load true 4 (.s 6)⟩,
    ⟨some 23, none, .mov (.s 2)⟩,
    ⟨some 24, none, .mov (.s 3)⟩,
    ⟨some 25, none, .call 28 [(.s 21), (.s 22), (.s 23), (.s 24)]⟩,
    ⟨some 20, none, .mov (.s 25)⟩,
    ⟨some 26, none, .ext 0 (.s 20)⟩,
    ⟨some 27, none, .ext 1 (.s 20)⟩,
    ⟨some 28, none, .ext 2 (.s 20)⟩,
    ⟨some 13, none, .mov (.s 26)⟩,
    ⟨some 14, none, .mov (.s 27)⟩,
    ⟨some 15, none, .mov (.s 28)⟩])
  (.seq (.seq (.reg [⟨some 29, none, .mov (.s 15)⟩,
    ⟨some 30, none, .un .not (.s 29)⟩])
  (.cond (.s 30)
  (.seq (.reg [⟨some 10, none, .mov (.c .empty)⟩,
    ⟨some 11, none, .mov (.c (.pure (.int .i64 0)))⟩,
    ⟨some 12, none, .mov (.c (.pure (.bool false)))⟩])
  .ret)
  .skip))
  (.seq (.reg [⟨some 31, none, .mov (.s 2)⟩,
    ⟨some 32, none, .len (.s 31)⟩,
    ⟨some 33, none, .mov (.s 14)⟩,
    ⟨some 34, none, .mov (.s 14)⟩,
    ⟨some 35, none, .len (.s 34)⟩,
    ⟨some 36, none, .bin .sub (.s 35) (.c (.pure (.int .i64 1)))⟩,
    ⟨some 37, none, .idxA 1 (.s 33) (.s 36)⟩,
    ⟨some 38, none, .load false 1 (.s 37)⟩,
    ⟨some 39, none, .bin .sub (.s 32) (.s 38)⟩,
    ⟨some 40, none, .bin .sub (.s 39) (.c (.pure (.int .i64 1)))⟩,
    ⟨some 16, none, .mov (.s 40)⟩])
  (.seq (.reg [⟨some 41, none, .mov (.s 4)⟩,
    ⟨some 42, none, .mov (.s 2)⟩,
    ⟨some 43, none, .call 61 [(.s 42)]⟩,
    ⟨some 44, none, .mov (.s 14)⟩,
    ⟨some 45, none, .build [(.pure .nilf), .empty, .empty] [(0, 1, (.s 41)), (1, 1, (.s 43)), (2, 1, (.s 44))]⟩,
    ⟨some 17, none, .box (.c (.agg [(.pure .nilf), .empty, .empty]))⟩,
    ⟨none, none, .store 3 (.s 17) (.s 45)⟩])
  (.seq (.seq (.reg [⟨some 46, none, .fldA 3 (.s 6)⟩,
    ⟨some 47, none, .load false 1 (.s 46)⟩,
    ⟨some 48, none, .mov (.s 13)⟩,
    ⟨some 49, none, .idxA 12 (.s 47) (.s 48)⟩,
    ⟨some 50, none, .fldA 6 (.s 49)⟩,
    ⟨some 51, none, .load false 1 (.s 50)⟩,
    ⟨some 52, none, .len (.s 51)⟩,
    ⟨some 53, none, .mov (.c (.pure (.int .i64 0)))⟩])
  (.block 0
  (.loop c24_1)))
  c24_0))))))
theorem k24 : (Try.f24.body.bind fun c => cCode Try.prog Try.f24.ntmps RCs c) = some c24 := by kernel_rfl
theorem h24 : (Try.f24.name == "runtime.NumGoroutine") = false := by kernel_rfl
theorem r24 : resC Try.prog Try.f24.results.toList = some [.t 10, .t 11, .t 12] := by kernel_rfl
theorem a24 {args : List S} {H : Heap} {K : S → Heap → Prop} (hn : args.length ≤ 70) (h : aWx Try.prog H.length c24 (PostX [.t 10, .t 11, .t 12] K) (argEnv 0 args) H) : CallA Try.prog 24 args H K :=
  callA_of_x mixed Try.func24 h24 k24 r24 (by rw [Try.ntmps24]; exact hn) h
theorem q24 {vs ds : List V} (hn : vs.length ≤ 70) (h : aWx Try.prog 0 c24 (PostX [.t 10, .t 11, .t 12] (Gives ds)) (argEnv 0 (vs.map .pure)) []) : FnQ Try.prog 24 vs ds :=
  fnQ_of_call (a24 (by simpa using hn) h)

theorem mx_if {a b : Int} : (if b > a then b else a) = max a b := by split <;> omega
theorem apply_q (F : Nat) (D : Doing) (hD : DoingQ F D) (f : Fo) (k : Lk) (ls : List Gl) (hl : ls.length ≤ 100) (x : Int) (hs : ∀ s ∈ k.subs, s.back.length ≤ 6 ∧ s.inn.length ≤ 6 ∧ s.ahead.length ≤ 6) (hn : ∀ s ∈ k.subs, s.nests.length ≤ 8) :
    FnQ Try.prog 24 [fo f, lk k, .sl (ls.map gl), I x, .func (.func F) [] []] (ctxR (ctxF D f k ls x)) := by
  refine q24 (by simp) ?_
  unfold c24
  simp -implicitDefEqProofs only [*, vmp,↓vmd,Env.get,putD,argEnv,List.map,x00,x01,x02,x03,x04,x05,x06,x07,List.take,List.drop,x08,x09,x0a,x0b,List.isEmpty,↓reduceIte,reduceCtorEq,Nat.reduceEqDiff,Nat.reduceAdd,Nat.reduceLeDiff,x0c,Int.reduceNeg,Nat.reduceMul,Nat.reduceSub,x0d,x0e,x0f,x0g,x0h,x0i,x0j,x0k,Int.reduceEq,Int.reduceLT,Int.reduceLE,Int.reduceToNat,Int.cast_ofNat_Int,List.reduceReplicate]
  have hm := match_q f k ls (by omega) x hs
  rw [ctxF]
  cases hc : matchF f k ls x with
  | none =>
    rw [hc] at hm
    have hm' : FnQ Try.prog 28 [fo f, lk k, .sl (ls.map gl), I x] [I 0, LI [], .bool false] := hm
    refine onC_q hm' rfl ?_
    first | refine envO (by simp -implicitDefEqProofs only [vmp,↓vmd,Env.get,putD,argEnv,List.map,x00,x01,x02,x03,x04,x05,x06,x07,List.take,List.drop,x08,x09,x0a,x0b,List.isEmpty,↓reduceIte,reduceCtorEq,Nat.reduceEqDiff,Nat.reduceAdd,Nat.reduceLeDiff,x0c,Int.reduceNeg,Nat.reduceMul,Nat.reduceSub,x0d,x0e,x0f,x0g,x0h,x0i,x0j,x0k,Int.reduceEq,Int.reduceLT,Int.reduceLE,Int.reduceToNat,Int.cast_ofNat_Int,List.reduceReplicate]; rfl) ?_ | refine envQ (by simp -implicitDefEqProofs only [vmp,↓vmd,Env.get,putD,argEnv,List.map,x00,x01,x02,x03,x04,x05,x06,x07,List.take,List.drop,x08,x09,x0a,x0b,List.isEmpty,↓reduceIte,reduceCtorEq,Nat.reduceEqDiff,Nat.reduceAdd,Nat.reduceLeDiff,x0c,Int.reduceNeg,Nat.reduceMul,Nat.reduceSub,x0d,x0e,x0f,x0g,x0h,x0i,x0j,x0k,Int.reduceEq,Int.reduceLT,Int.reduceLE,Int.reduceToNat,Int.cast_ofNat_Int,List.reduceReplicate]; rfl) ?_
    simp -implicitDefEqProofs only [vmp,↓vmd,Env.get,putD,argEnv,List.map,x00,x01,x02,x03,x04,x05,x06,x07,List.take,List.drop,x08,x09,x0a,x0b,List.isEmpty,↓reduceIte,reduceCtorEq,Nat.reduceEqDiff,Nat.reduceAdd,Nat.reduceLeDiff,x0c,Int.reduceNeg,Nat.reduceMul,Nat.reduceSub,x0d,x0e,x0f,x0g,x0h,x0i,x0j,x0k,Int.reduceEq,Int.reduceLT,Int.reduceLE,Int.reduceToNat,Int.cast_ofNat_Int,List.reduceReplicate]
    exact gives_tup rfl (by simp)
  | some q =>
    rw [hc] at hm
    obtain ⟨i, p⟩ := q
    have M := matchF_in hc
    obtain ⟨s, hsi, hpl⟩ := M.sub
    have hsm := List.mem_of_getElem? hsi
    have hil := (List.getElem?_eq_some_iff.1 hsi).1
    obtain ⟨g0, g1, g2⟩ := M.last
    have hp6 := (hs s hsm).2.1
    have hn8 := hn s hsm
    have hm' : FnQ Try.prog 28 [fo f, lk k, .sl (ls.map gl), I x] [I (i : Int), LI p, .bool true] := hm
    refine onC_q hm' rfl ?_
    first | refine envO (by simp -implicitDefEqProofs only [vmp,↓vmd,Env.get,putD,argEnv,List.map,x00,x01,x02,x03,x04,x05,x06,x07,List.take,List.drop,x08,x09,x0a,x0b,List.isEmpty,↓reduceIte,reduceCtorEq,Nat.reduceEqDiff,Nat.reduceAdd,Nat.reduceLeDiff,x0c,Int.reduceNeg,Nat.reduceMul,Nat.reduceSub,x0d,x0e,x0f,x0g,x0h,x0i,x0j,x0k,Int.reduceEq,Int.reduceLT,Int.reduceLE,Int.reduceToNat,Int.cast_ofNat_Int,List.reduceReplicate]; rfl) ?_ | refine envQ (by simp -implicitDefEqProofs only [vmp,↓vmd,Env.get,putD,argEnv,List.map,x00,x01,x02,x03,x04,x05,x06,x07,List.take,List.drop,x08,x09,x0a,x0b,List.isEmpty,↓reduceIte,reduceCtorEq,Nat.reduceEqDiff,Nat.reduceAdd,Nat.reduceLeDiff,x0c,Int.reduceNeg,Nat.reduceMul,Nat.reduceSub,x0d,x0e,x0f,x0g,x0h,x0i,x0j,x0k,Int.reduceEq,Int.reduceLT,Int.reduceLE,Int.reduceToNat,Int.cast_ofNat_Int,List.reduceReplicate]; rfl) ?_
    simp only [hsi]
    simp -implicitDefEqProofs only [vmp,↓vmd,Env.get,putD,argEnv,List.map,x00,x01,x02,x03,x04,x05,x06,x07,List.take,List.drop,x08,x09,x0a,x0b,List.isEmpty,↓reduceIte,reduceCtorEq,Nat.reduceEqDiff,Nat.reduceAdd,Nat.reduceLeDiff,x0c,Int.reduceNeg,Nat.reduceMul,Nat.reduceSub,x0d,x0e,x0f,x0g,x0h,x0i,x0j,x0k,Int.reduceEq,Int.reduceLT,Int.reduceLE,Int.reduceToNat,Int.cast_ofNat_Int,List.reduceReplicate]
    refine onIf_intro fun _ => ?_
    simp -implicitDefEqProofs only [vmp,↓vmd,Env.get,putD,argEnv,List.map,x00,x01,x02,x03,x04,x05,x06,x07,List.take,List.drop,x08,x09,x0a,x0b,List.isEmpty,↓reduceIte,reduceCtorEq,Nat.reduceEqDiff,Nat.reduceAdd,Nat.reduceLeDiff,x0c,Int.reduceNeg,Nat.reduceMul,Nat.reduceSub,x0d,x0e,x0f,x0g,x0h,x0i,x0j,x0k,Int.reduceEq,Int.reduceLT,Int.reduceLE,Int.reduceToNat,Int.cast_ofNat_Int,List.reduceReplicate]
    refine onIf_intro fun _ => ?_
    have hw : IntKind.wrap .i64 ((p.length : Int) - 1) = (p.length : Int) - 1 := wrap_id (by omega) (by omega)
    have hlast := intAt_map (ps := p) (y := (p.length : Int) - 1) (by omega) (by omega)
    have hsub : (k.subs.map sub)[i]? = some (sub s) := by rw [List.getElem?_map, hsi]; rfl
    have w0 : 0 ≤ (p.length : Int) - 1 := by omega
    simp -implicitDefEqProofs only [hw, hlast, w0, vmp,↓vmd,Env.get,putD,argEnv,List.map,x00,x01,x02,x03,x04,x05,x06,x07,List.take,List.drop,x08,x09,x0a,x0b,List.isEmpty,↓reduceIte,reduceCtorEq,Nat.reduceEqDiff,Nat.reduceAdd,Nat.reduceLeDiff,x0c,Int.reduceNeg,Nat.reduceMul,Nat.reduceSub,x0d,x0e,x0f,x0g,x0h,x0i,x0j,x0k,Int.reduceEq,Int.reduceLT,Int.reduceLE,Int.reduceToNat,Int.cast_ofNat_Int,List.reduceReplicate]
    refine onC_q (cloneG_q ls (by omega)) rfl ?_
    first | refine envO (by simp -implicitDefEqProofs only [vmp,↓vmd,Env.get,putD,argEnv,List.map,x00,x01,x02,x03,x04,x05,x06,x07,List.take,List.drop,x08,x09,x0a,x0b,List.isEmpty,↓reduceIte,reduceCtorEq,Nat.reduceEqDiff,Nat.reduceAdd,Nat.reduceLeDiff,x0c,Int.reduceNeg,Nat.reduceMul,Nat.reduceSub,x0d,x0e,x0f,x0g,x0h,x0i,x0j,x0k,Int.reduceEq,Int.reduceLT,Int.reduceLE,Int.reduceToNat,Int.cast_ofNat_Int,List.reduceReplicate]; rfl) ?_ | refine envQ (by simp -implicitDefEqProofs only [vmp,↓vmd,Env.get,putD,argEnv,List.map,x00,x01,x02,x03,x04,x05,x06,x07,List.take,List.drop,x08,x09,x0a,x0b,List.isEmpty,↓reduceIte,reduceCtorEq,Nat.reduceEqDiff,Nat.reduceAdd,Nat.reduceLeDiff,x0c,Int.reduceNeg,Nat.reduceMul,Nat.reduceSub,x0d,x0e,x0f,x0g,x0h,x0i,x0j,x0k,Int.reduceEq,Int.reduceLT,Int.reduceLE,Int.reduceToNat,Int.cast_ofNat_Int,List.reduceReplicate]; rfl) ?_
    simp -implicitDefEqProofs only [hw, hlast, w0, hsub, Int.natCast_nonneg, vmp,↓vmd,Env.get,putD,argEnv,List.map,x00,x01,x02,x03,x04,x05,x06,x07,List.take,List.drop,x08,x09,x0a,x0b,List.isEmpty,↓reduceIte,reduceCtorEq,Nat.reduceEqDiff,Nat.reduceAdd,Nat.reduceLeDiff,x0c,Int.reduceNeg,Nat.reduceMul,Nat.reduceSub,x0d,x0e,x0f,x0g,x0h,x0i,x0j,x0k,Int.reduceEq,Int.reduceLT,Int.reduceLE,Int.reduceToNat,Int.cast_ofNat_Int,List.reduceReplicate]
    refine onIf_intro fun _ => ?_
    simp -implicitDefEqProofs only [vmp,↓vmd,Env.get,putD,argEnv,List.map,x00,x01,x02,x03,x04,x05,x06,x07,List.take,List.drop,x08,x09,x0a,x0b,List.isEmpty,↓reduceIte,reduceCtorEq,Nat.reduceEqDiff,Nat.reduceAdd,Nat.reduceLeDiff,x0c,Int.reduceNeg,Nat.reduceMul,Nat.reduceSub,x0d,x0e,x0f,x0g,x0h,x0i,x0j,x0k,Int.reduceEq,Int.reduceLT,Int.reduceLE,Int.reduceToNat,Int.cast_ofNat_Int,List.reduceReplicate]
    refine loop_at (T := Nat) (fun j => [(53, .pure (I j)), (52, .pure (I s.nests.length)), (51, .pure (.sl (s.nests.map ns))), (17, .ptr 0 0 0), (16, .pure (I (wr (wr ((ls.length : Int) - lastI p) - 1)))), (3, .pure (I x))])
      (fun j => [⟨[.pure (wk F (runN D (ls, p) (s.nests.take j)))], 3, .live⟩]) (fun j => j ≤ s.nests.length) (fun j => s.nests.length - j)
      0 [2] (by simp) rfl (by simp) (by simp -implicitDefEqProofs only [kpp,Env.get,x01,x00,x02,x03,List.map,x08,x09,↓reduceIte,reduceCtorEq,Nat.reduceEqDiff,Nat.reduceLeDiff,Nat.reduceLT,Nat.reduceAdd,x0j,x0l,x0m,x0n,x0o,Int.cast_ofNat_Int,x0p,x0i,x07,x06,x0q,x0r,x0s,x0t,x0d,x0u]; first | rfl | exact ⟨rfl, rfl⟩) (by simp -implicitDefEqProofs only [show runN D (ls, p) [] = (ls, p) from rfl, List.take_zero, kpp,Env.get,x01,x00,x02,x03,List.map,x08,x09,↓reduceIte,reduceCtorEq,Nat.reduceEqDiff,Nat.reduceLeDiff,Nat.reduceLT,Nat.reduceAdd,x0j,x0l,x0m,x0n,x0o,Int.cast_ofNat_Int,x0p,x0i,x07,x06,x0q,x0r,x0s,x0t,x0d,x0u]) ?_
    intro j hj
    unfold c24_1
    simp -implicitDefEqProofs only [vmp,↓vmd,Env.get,putD,argEnv,List.map,x00,x01,x02,x03,x04,x05,x06,x07,List.take,List.drop,x08,x09,x0a,x0b,List.isEmpty,↓reduceIte,reduceCtorEq,Nat.reduceEqDiff,Nat.reduceAdd,Nat.reduceLeDiff,x0c,Int.reduceNeg,Nat.reduceMul,Nat.reduceSub,x0d,x0e,x0f,x0g,x0h,x0i,x0j,x0k,Int.reduceEq,Int.reduceLT,Int.reduceLE,Int.reduceToNat,Int.cast_ofNat_Int,List.reduceReplicate]
    have hr1 := runN_len hD.len (s.nests.take j) (ls, p)
    simp only [List.length_take] at hr1
    refine onB_dec (fun b1 => ?_) (fun b1 => ?_)
    · have hlt : j < s.nests.length := by omega
      have hsuc := runN_succ (D := D) (w := (ls, p)) hlt
      generalize hwj : runN D (ls, p) (s.nests.take j) = w at *
      simp -implicitDefEqProofs only [b1, map_at hlt, Int.natCast_nonneg, vmp,↓vmd,Env.get,putD,argEnv,List.map,x00,x01,x02,x03,x04,x05,x06,x07,List.take,List.drop,x08,x09,x0a,x0b,List.isEmpty,↓reduceIte,reduceCtorEq,Nat.reduceEqDiff,Nat.reduceAdd,Nat.reduceLeDiff,x0c,Int.reduceNeg,Nat.reduceMul,Nat.reduceSub,x0d,x0e,x0f,x0g,x0h,x0i,x0j,x0k,Int.reduceEq,Int.reduceLT,Int.reduceLE,Int.reduceToNat,Int.cast_ofNat_Int,List.reduceReplicate]
      refine onC_fr (nest_c F D hD w (by omega) (by omega) s.nests[j]) [0] (by simp) (by simp -implicitDefEqProofs only [kpp,Env.get,x01,x00,x02,x03,List.map,x08,x09,↓reduceIte,reduceCtorEq,Nat.reduceEqDiff,Nat.reduceLeDiff,Nat.reduceLT,Nat.reduceAdd,x0j,x0l,x0m,x0n,x0o,Int.cast_ofNat_Int,x0p,x0i,x07,x06,x0q,x0r,x0s,x0t,x0d,x0u]) rfl rfl (by simp) ?_
      simp -implicitDefEqProofs only [vmp,↓vmd,Env.get,putD,argEnv,List.map,x00,x01,x02,x03,x04,x05,x06,x07,List.take,List.drop,x08,x09,x0a,x0b,List.isEmpty,↓reduceIte,reduceCtorEq,Nat.reduceEqDiff,Nat.reduceAdd,Nat.reduceLeDiff,x0c,Int.reduceNeg,Nat.reduceMul,Nat.reduceSub,x0d,x0e,x0f,x0g,x0h,x0i,x0j,x0k,Int.reduceEq,Int.reduceLT,Int.reduceLE,Int.reduceToNat,Int.cast_ofNat_Int,List.reduceReplicate]
      refine onBk_to (j + 1) [0] (by simp) rfl (by omega) hlt (by simp -implicitDefEqProofs only [next_at hlt (by omega), kpp,Env.get,x01,x00,x02,x03,List.map,x08,x09,↓reduceIte,reduceCtorEq,Nat.reduceEqDiff,Nat.reduceLeDiff,Nat.reduceLT,Nat.reduceAdd,x0j,x0l,x0m,x0n,x0o,Int.cast_ofNat_Int,x0p,x0i,x07,x06,x0q,x0r,x0s,x0t,x0d,x0u]) (by simp -implicitDefEqProofs only [hsuc, kpp,Env.get,x01,x00,x02,x03,List.map,x08,x09,↓reduceIte,reduceCtorEq,Nat.reduceEqDiff,Nat.reduceLeDiff,Nat.reduceLT,Nat.reduceAdd,x0j,x0l,x0m,x0n,x0o,Int.cast_ofNat_Int,x0p,x0i,x07,x06,x0q,x0r,x0s,x0t,x0d,x0u])
    · obtain rfl : j = s.nests.length := by omega
      rw [List.take_length] at hr1 ⊢
      generalize hwj : runN D (ls, p) s.nests = w at *
      simp -implicitDefEqProofs only [b1, vmp,↓vmd,Env.get,putD,argEnv,List.map,x00,x01,x02,x03,x04,x05,x06,x07,List.take,List.drop,x08,x09,x0a,x0b,List.isEmpty,↓reduceIte,reduceCtorEq,Nat.reduceEqDiff,Nat.reduceAdd,Nat.reduceLeDiff,x0c,Int.reduceNeg,Nat.reduceMul,Nat.reduceSub,x0d,x0e,x0f,x0g,x0h,x0i,x0j,x0k,Int.reduceEq,Int.reduceLT,Int.reduceLE,Int.reduceToNat,Int.cast_ofNat_Int,List.reduceReplicate]
      unfold c24_0
      simp -implicitDefEqProofs only [vmp,↓vmd,Env.get,putD,argEnv,List.map,x00,x01,x02,x03,x04,x05,x06,x07,List.take,List.drop,x08,x09,x0a,x0b,List.isEmpty,↓reduceIte,reduceCtorEq,Nat.reduceEqDiff,Nat.reduceAdd,Nat.reduceLeDiff,x0c,Int.reduceNeg,Nat.reduceMul,Nat.reduceSub,x0d,x0e,x0f,x0g,x0h,x0i,x0j,x0k,Int.reduceEq,Int.reduceLT,Int.reduceLE,Int.reduceToNat,Int.cast_ofNat_Int,List.reduceReplicate]
      refine onQ_q (cloneG_q w.1 (by omega)) rfl ?_
      first | refine envO (by simp -implicitDefEqProofs only [vmp,↓vmd,Env.get,putD,argEnv,List.map,x00,x01,x02,x03,x04,x05,x06,x07,List.take,List.drop,x08,x09,x0a,x0b,List.isEmpty,↓reduceIte,reduceCtorEq,Nat.reduceEqDiff,Nat.reduceAdd,Nat.reduceLeDiff,x0c,Int.reduceNeg,Nat.reduceMul,Nat.reduceSub,x0d,x0e,x0f,x0g,x0h,x0i,x0j,x0k,Int.reduceEq,Int.reduceLT,Int.reduceLE,Int.reduceToNat,Int.cast_ofNat_Int,List.reduceReplicate]; rfl) ?_ | refine envQ (by simp -implicitDefEqProofs only [vmp,↓vmd,Env.get,putD,argEnv,List.map,x00,x01,x02,x03,x04,x05,x06,x07,List.take,List.drop,x08,x09,x0a,x0b,List.isEmpty,↓reduceIte,reduceCtorEq,Nat.reduceEqDiff,Nat.reduceAdd,Nat.reduceLeDiff,x0c,Int.reduceNeg,Nat.reduceMul,Nat.reduceSub,x0d,x0e,x0f,x0g,x0h,x0i,x0j,x0k,Int.reduceEq,Int.reduceLT,Int.reduceLE,Int.reduceToNat,Int.cast_ofNat_Int,List.reduceReplicate]; rfl) ?_
      simp -implicitDefEqProofs only [vmp,↓vmd,Env.get,putD,argEnv,List.map,x00,x01,x02,x03,x04,x05,x06,x07,List.take,List.drop,x08,x09,x0a,x0b,List.isEmpty,↓reduceIte,reduceCtorEq,Nat.reduceEqDiff,Nat.reduceAdd,Nat.reduceLeDiff,x0c,Int.reduceNeg,Nat.reduceMul,Nat.reduceSub,x0d,x0e,x0f,x0g,x0h,x0i,x0j,x0k,Int.reduceEq,Int.reduceLT,Int.reduceLE,Int.reduceToNat,Int.cast_ofNat_Int,List.reduceReplicate]
      simp only [mx_if]
      exact gives_tup rfl (by simp)
end Go.Proofs.Ytbllbkhkmngclaa.W
