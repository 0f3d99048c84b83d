/-
  A glyph that is moved by itself: what the functions do. No condition but on sizes.
-/
import Derived.Test.YtjgodncjlffhjaaPairs
import Derived.Test.YtjgodncjlffhjaaRow
namespace Go.Proofs.Ytjgodncjlffhjaa.W
open Go Go.Vm Go.Proofs
set_option maxRecDepth 100000
set_option linter.unusedSimpArgs false
set_option maxHeartbeats 1000000
/-! typecase/cover.Index -/
def c109 : AC :=
  (.seq (.reg [⟨some 4, none, .mov (.c (.pure (.int .i64 0)))⟩,
    ⟨some 5, none, .mov (.c (.pure (.bool false)))⟩])
  (.seq (.reg [⟨some 7, none, .mov (.s 0)⟩,
    ⟨some 8, none, .mov (.s 1)⟩,
    ⟨some 9, none, .call 108 [(.s 7), (.s 8)]⟩,
    ⟨some 6, none, .mov (.s 9)⟩])
  (.seq (.reg [⟨some 10, none, .mov (.s 6)⟩,
    ⟨some 11, none, .mx (.s 10) (.c (.pure (.int .i64 0)))⟩,
    ⟨some 12, none, .mov (.s 6)⟩,
    ⟨some 13, none, .bin .geq (.s 12) (.c (.pure (.int .i64 0)))⟩,
    ⟨some 4, none, .mov (.s 11)⟩,
    ⟨some 5, none, .mov (.s 13)⟩])
  .ret)))
theorem k109 : (Try.f109.body.bind fun c => cCode Try.prog Try.f109.ntmps RCs c) = some c109 := by kernel_rfl
theorem h109 : (Try.f109.name == "runtime.NumGoroutine") = false := by kernel_rfl
theorem r109 : resC Try.prog Try.f109.results.toList = some [.t 4, .t 5] := by kernel_rfl
theorem a109 {args : List S} {H : Heap} {K : S → Heap → Prop} (hn : args.length ≤ 14) (h : aWx Try.prog H.length c109 (PostX [.t 4, .t 5] K) (argEnv 0 args) H) : CallA Try.prog 109 args H K :=
  callA_of_x mixed Try.func109 h109 k109 r109 (by rw [Try.ntmps109]; exact hn) h
theorem q109 {vs ds : List V} (hn : vs.length ≤ 14) (h : aWx Try.prog 0 c109 (PostX [.t 4, .t 5] (Gives ds)) (argEnv 0 (vs.map .pure)) []) : FnQ Try.prog 109 vs ds :=
  fnQ_of_call (a109 (by simpa using hn) h)
/-! typecase/adjust.alone -/
def c102_0 : AC :=
  (.seq (.reg [⟨some 38, none, .build [(.pure (.int .i64 0)), (.pure (.int .i64 0)), (.pure (.int .i64 0))] []⟩,
    ⟨none, none, .store 3 (.s 4) (.s 38)⟩,
    ⟨some 5, none, .mov (.c (.pure (.bool false)))⟩])
  .ret)
def c102_1 : AC :=
  (.seq (.reg [⟨some 14, none, .bin .lss (.s 13) (.s 12)⟩])
  (.seq (.cond (.s 14)
  .skip
  (.exit 0))
  (.seq (.block 1
  (.seq (.reg [⟨some 15, none, .idxA 12 (.s 11) (.s 13)⟩,
    ⟨some 16, none, .load true 12 (.s 15)⟩,
    ⟨some 7, none, .box (.c (.agg [.empty, .empty, .empty, .empty, .empty, .empty, .empty, .empty, .empty, .empty, .empty, .empty]))⟩,
    ⟨none, none, .store 12 (.s 7) (.s 16)⟩])
  (.seq (.reg [⟨some 18, none, .fldA 0 (.s 7)⟩,
    ⟨some 19, none, .load false 1 (.s 18)⟩,
    ⟨some 20, none, .mov (.s 1)⟩,
    ⟨some 21, none, .call 109 [(.s 19), (.s 20)]⟩,
    ⟨some 17, none, .mov (.s 21)⟩,
    ⟨some 22, none, .ext 0 (.s 17)⟩,
    ⟨some 23, none, .ext 1 (.s 17)⟩,
    ⟨some 8, none, .mov (.s 22)⟩,
    ⟨some 9, none, .mov (.s 23)⟩])
  (.seq (.reg [⟨some 24, none, .mov (.s 9)⟩,
    ⟨some 25, none, .mov (.s 24)⟩,
    ⟨some 26, some (25, true), .mov (.s 8)⟩,
    ⟨some 27, some (25, true), .fldA 7 (.s 7)⟩,
    ⟨some 28, some (25, true), .load false 1 (.s 27)⟩,
    ⟨some 29, some (25, true), .len (.s 28)⟩,
    ⟨some 30, some (25, true), .bin .lss (.s 26) (.s 29)⟩,
    ⟨some 31, none, .pick (.s 25) (.s 30) (.c (.pure (.bool false)))⟩])
  (.cond (.s 31)
  (.seq (.reg [⟨some 32, none, .fldA 7 (.s 7)⟩,
    ⟨some 33, none, .load false 1 (.s 32)⟩,
    ⟨some 34, none, .mov (.s 8)⟩,
    ⟨some 35, none, .idxA 3 (.s 33) (.s 34)⟩,
    ⟨some 36, none, .load true 3 (.s 35)⟩,
    ⟨none, none, .store 3 (.s 4) (.s 36)⟩,
    ⟨some 5, none, .mov (.c (.pure (.bool true)))⟩])
  .ret)
  .skip)))))
  (.reg [⟨some 37, none, .bin .add (.s 13) (.c (.pure (.int .i64 1)))⟩,
    ⟨some 13, none, .mov (.s 37)⟩]))))
def c102 : AC :=
  (.seq (.reg [⟨some 2, none, .box (.s 0)⟩,
    ⟨some 4, none, .box (.c (.pure (.agg [(.int .i64 0), (.int .i64 0), (.int .i64 0)])))⟩,
    ⟨some 5, none, .mov (.c (.pure (.bool false)))⟩])
  (.seq (.seq (.reg [⟨some 10, none, .fldA 3 (.s 2)⟩,
    ⟨some 11, none, .load false 1 (.s 10)⟩,
    ⟨some 12, none, .len (.s 11)⟩,
    ⟨some 13, none, .mov (.c (.pure (.int .i64 0)))⟩])
  (.block 0
  (.loop c102_1)))
  c102_0))
theorem k102 : (Try.f102.body.bind fun c => cCode Try.prog Try.f102.ntmps RCs c) = some c102 := by kernel_rfl
theorem h102 : (Try.f102.name == "runtime.NumGoroutine") = false := by kernel_rfl
theorem r102 : resC Try.prog Try.f102.results.toList = some [.c 4 true 3, .t 5] := by kernel_rfl
theorem a102 {args : List S} {H : Heap} {K : S → Heap → Prop} (hn : args.length ≤ 39) (h : aWx Try.prog H.length c102 (PostX [.c 4 true 3, .t 5] K) (argEnv 0 args) H) : CallA Try.prog 102 args H K :=
  callA_of_x mixed Try.func102 h102 k102 r102 (by rw [Try.ntmps102]; exact hn) h
theorem q102 {vs ds : List V} (hn : vs.length ≤ 39) (h : aWx Try.prog 0 c102 (PostX [.c 4 true 3, .t 5] (Gives ds)) (argEnv 0 (vs.map .pure)) []) : FnQ Try.prog 102 vs ds :=
  fnQ_of_call (a102 (by simpa using hn) h)
/-! typecase/typecaseref32.one -/
def c103_0 : AC :=
  (.seq (.reg [⟨some 45, none, .build [(.pure (.int .i64 0)), (.pure (.int .i64 0)), (.pure (.int .i64 0))] []⟩,
    ⟨none, none, .store 3 (.s 4) (.s 45)⟩,
    ⟨some 5, none, .mov (.c (.pure (.bool false)))⟩])
  .ret)
def c103_1 : AC :=
  (.reg [⟨some 14, none, .mov (.s 6)⟩,
    ⟨some 15, none, .bin .add (.s 14) (.c (.pure (.int .i64 1)))⟩,
    ⟨some 6, none, .mov (.s 15)⟩])
def c103_2 : AC :=
  (.seq (.seq (.reg [⟨some 21, none, .mov (.s 8)⟩,
    ⟨some 22, none, .fldA 0 (.s 7)⟩,
    ⟨some 23, none, .load false 1 (.s 22)⟩,
    ⟨some 24, none, .len (.s 23)⟩,
    ⟨some 25, none, .bin .lss (.s 21) (.s 24)⟩])
  (.cond (.s 25)
  .skip
  (.exit 2)))
  (.seq (.block 3
  (.seq (.seq (.reg [⟨some 28, none, .fldA 0 (.s 7)⟩,
    ⟨some 29, none, .load false 1 (.s 28)⟩,
    ⟨some 30, none, .mov (.s 8)⟩,
    ⟨some 31, none, .idxA 1 (.s 29) (.s 30)⟩,
    ⟨some 32, none, .load false 1 (.s 31)⟩,
    ⟨some 33, none, .mov (.s 1)⟩,
    ⟨some 34, none, .bin .neq (.s 32) (.s 33)⟩])
  (.cond (.s 34)
  (.exit 3)
  .skip))
  (.seq (.seq (.reg [⟨some 35, none, .mov (.s 8)⟩,
    ⟨some 36, none, .fldA 7 (.s 7)⟩,
    ⟨some 37, none, .load false 1 (.s 36)⟩,
    ⟨some 38, none, .len (.s 37)⟩,
    ⟨some 39, none, .bin .lss (.s 35) (.s 38)⟩])
  (.cond (.s 39)
  (.seq (.reg [⟨some 40, none, .fldA 7 (.s 7)⟩,
    ⟨some 41, none, .load false 1 (.s 40)⟩,
    ⟨some 42, none, .mov (.s 8)⟩,
    ⟨some 43, none, .idxA 3 (.s 41) (.s 42)⟩,
    ⟨some 44, none, .load true 3 (.s 43)⟩,
    ⟨none, none, .store 3 (.s 4) (.s 44)⟩,
    ⟨some 5, none, .mov (.c (.pure (.bool true)))⟩])
  .ret)
  .skip))
  (.exit 2))))
  (.reg [⟨some 26, none, .mov (.s 8)⟩,
    ⟨some 27, none, .bin .add (.s 26) (.c (.pure (.int .i64 1)))⟩,
    ⟨some 8, none, .mov (.s 27)⟩])))
def c103_3 : AC :=
  (.seq (.seq (.reg [⟨some 9, none, .mov (.s 6)⟩,
    ⟨some 10, none, .fldA 3 (.s 2)⟩,
    ⟨some 11, none, .load false 1 (.s 10)⟩,
    ⟨some 12, none, .len (.s 11)⟩,
    ⟨some 13, none, .bin .lss (.s 9) (.s 12)⟩])
  (.cond (.s 13)
  .skip
  (.exit 0)))
  (.seq (.block 1
  (.seq (.reg [⟨some 16, none, .fldA 3 (.s 2)⟩,
    ⟨some 17, none, .load false 1 (.s 16)⟩,
    ⟨some 18, none, .mov (.s 6)⟩,
    ⟨some 19, none, .idxA 12 (.s 17) (.s 18)⟩,
    ⟨some 20, none, .load true 12 (.s 19)⟩,
    ⟨some 7, none, .box (.c (.agg [.empty, .empty, .empty, .empty, .empty, .empty, .empty, .empty, .empty, .empty, .empty, .empty]))⟩,
    ⟨none, none, .store 12 (.s 7) (.s 20)⟩])
  (.seq (.reg [⟨some 8, none, .mov (.c (.pure (.int .i64 0)))⟩])
  (.block 2
  (.loop c103_2)))))
  c103_1))
def c103 : AC :=
  (.seq (.reg [⟨some 2, none, .box (.s 0)⟩,
    ⟨some 4, none, .box (.c (.pure (.agg [(.int .i64 0), (.int .i64 0), (.int .i64 0)])))⟩,
    ⟨some 5, none, .mov (.c (.pure (.bool false)))⟩])
  (.seq (.seq (.reg [⟨some 6, none, .mov (.c (.pure (.int .i64 0)))⟩])
  (.block 0
  (.loop c103_3)))
  c103_0))
theorem k103 : (Try.f103.body.bind fun c => cCode Try.prog Try.f103.ntmps RCs c) = some c103 := by kernel_rfl
theorem h103 : (Try.f103.name == "runtime.NumGoroutine") = false := by kernel_rfl
theorem r103 : resC Try.prog Try.f103.results.toList = some [.c 4 true 3, .t 5] := by kernel_rfl
theorem a103 {args : List S} {H : Heap} {K : S → Heap → Prop} (hn : args.length ≤ 46) (h : aWx Try.prog H.length c103 (PostX [.c 4 true 3, .t 5] K) (argEnv 0 args) H) : CallA Try.prog 103 args H K :=
  callA_of_x mixed Try.func103 h103 k103 r103 (by rw [Try.ntmps103]; exact hn) h
theorem q103 {vs ds : List V} (hn : vs.length ≤ 46) (h : aWx Try.prog 0 c103 (PostX [.c 4 true 3, .t 5] (Gives ds)) (argEnv 0 (vs.map .pure)) []) : FnQ Try.prog 103 vs ds :=
  fnQ_of_call (a103 (by simpa using hn) h)
/-! slices.Clone[[]typecase/api.Glyph,typecase/api.Glyph] -/
def c86 : AC :=
  (.seq (.reg [⟨some 2, none, .mov (.c .empty)⟩])
  (.seq (.seq (.reg [⟨some 3, none, .mov (.s 0)⟩,
    ⟨some 4, none, .slnil false (.s 3)⟩])
  (.cond (.s 4)
  (.seq (.reg [⟨some 2, none, .mov (.c .empty)⟩])
  .ret)
  .skip))
  (.seq (.reg [⟨some 5, none, .bslice 10 []⟩,
    ⟨some 6, none, .mov (.s 0)⟩,
    ⟨some 7, none, .app 10 80 (.s 5) (.s 6)⟩,
    ⟨some 2, none, .mov (.s 7)⟩])
  .ret)))
theorem k86 : (Try.f86.body.bind fun c => cCode Try.prog Try.f86.ntmps RCs c) = some c86 := by kernel_rfl
theorem h86 : (Try.f86.name == "runtime.NumGoroutine") = false := by kernel_rfl
theorem r86 : resC Try.prog Try.f86.results.toList = some [.t 2] := by kernel_rfl
theorem a86 {args : List S} {H : Heap} {K : S → Heap → Prop} (hn : args.length ≤ 8) (h : aWx Try.prog H.length c86 (PostX [.t 2] K) (argEnv 0 args) H) : CallA Try.prog 86 args H K :=
  callA_of_x mixed Try.func86 h86 k86 r86 (by rw [Try.ntmps86]; exact hn) h
theorem q86 {vs ds : List V} (hn : vs.length ≤ 8) (h : aWx Try.prog 0 c86 (PostX [.t 2] (Gives ds)) (argEnv 0 (vs.map .pure)) []) : FnQ Try.prog 86 vs ds :=
  fnQ_of_call (a86 (by simpa using hn) h)

theorem cindex_q (l : List Int) (x : Int) : FnQ Try.prog 109 [LI l, I x] [I (max (idxF x 0 l) 0), .bool (decide (0 ≤ idxF x 0 l))] := by
  refine q109 (by simp) ?_
  unfold c109
  simp -implicitDefEqProofs only [*, vmp,↓vmd,Env.get,putD,argEnv,List.map,x00,x01,x02,x03,x04,x05,x06,x07,List.take,List.drop,x08,x09,x0a,x0b,List.isEmpty,↓reduceIte,reduceCtorEq,Nat.reduceEqDiff,Nat.reduceAdd,Nat.reduceLeDiff,x0c,Int.reduceNeg,Nat.reduceMul,Nat.reduceSub,x0d,x0e,x0f,x0g,x0h,x0i,x0j,x0k,Int.reduceEq,Int.reduceLT,Int.reduceLE,Int.reduceToNat,Int.cast_ofNat_Int,List.reduceReplicate]
  refine onC_q (index_q _ _) rfl ?_
  simp -implicitDefEqProofs only [*, vmp,↓vmd,Env.get,putD,argEnv,List.map,x00,x01,x02,x03,x04,x05,x06,x07,List.take,List.drop,x08,x09,x0a,x0b,List.isEmpty,↓reduceIte,reduceCtorEq,Nat.reduceEqDiff,Nat.reduceAdd,Nat.reduceLeDiff,x0c,Int.reduceNeg,Nat.reduceMul,Nat.reduceSub,x0d,x0e,x0f,x0g,x0h,x0i,x0j,x0k,Int.reduceEq,Int.reduceLT,Int.reduceLE,Int.reduceToNat,Int.cast_ofNat_Int,List.reduceReplicate]
  exact gives_tup rfl (by simp)
theorem idxF_lt {x : Int} : ∀ {l : List Int} {k : Int}, 0 ≤ k → 0 ≤ idxF x k l → k ≤ idxF x k l ∧ idxF x k l < k + l.length
  | [], k, _, h => by simp [idxF] at h
  | y :: r, k, hk, h => by
    rw [idxF] at h ⊢
    by_cases hc : x = y
    · rw [if_pos hc]; simp; omega
    · rw [if_neg hc] at h ⊢
      have := idxF_lt (l := r) (k := k + 1) (by omega) h
      simp only [List.length_cons]
      omega
def pickV (s : Sub) (g : Int) : Option Sp := if 0 ≤ idxF g 0 s.cover then s.values[(idxF g 0 s.cover).toNat]? else none
def aloneF : List Sub → Int → Option Sp
  | [], _ => none
  | s :: r, g => match pickV s g with
    | some v => some v
    | none => aloneF r g
def oneR : Option Sp → List V
  | some v => [sp v, .bool true]
  | none => [sp zero3, .bool false]
theorem alone_q (k : Lk) (g : Int) : FnQ Try.prog 102 [lk k, I g] (oneR (aloneF k.subs g)) := by
  refine q102 (by simp) ?_
  unfold c102
  simp -implicitDefEqProofs only [*, vmp,↓vmd,Env.get,putD,argEnv,List.map,x00,x01,x02,x03,x04,x05,x06,x07,List.take,List.drop,x08,x09,x0a,x0b,List.isEmpty,↓reduceIte,reduceCtorEq,Nat.reduceEqDiff,Nat.reduceAdd,Nat.reduceLeDiff,x0c,Int.reduceNeg,Nat.reduceMul,Nat.reduceSub,x0d,x0e,x0f,x0g,x0h,x0i,x0j,x0k,Int.reduceEq,Int.reduceLT,Int.reduceLE,Int.reduceToNat,Int.cast_ofNat_Int,List.reduceReplicate]
  refine onIf_intro fun hlen => ?_
  simp -implicitDefEqProofs only [*, vmp,↓vmd,Env.get,putD,argEnv,List.map,x00,x01,x02,x03,x04,x05,x06,x07,List.take,List.drop,x08,x09,x0a,x0b,List.isEmpty,↓reduceIte,reduceCtorEq,Nat.reduceEqDiff,Nat.reduceAdd,Nat.reduceLeDiff,x0c,Int.reduceNeg,Nat.reduceMul,Nat.reduceSub,x0d,x0e,x0f,x0g,x0h,x0i,x0j,x0k,Int.reduceEq,Int.reduceLT,Int.reduceLE,Int.reduceToNat,Int.cast_ofNat_Int,List.reduceReplicate]
  refine loop_at (T := Nat) (fun i => [(13, .pure (I i)), (12, .pure (I k.subs.length)), (11, .pure (.sl (k.subs.map sub))), (1, .pure (I g)), (4, .ptr 0 0 0)]) (fun _ => [⟨[.pure (sp zero3)], 3, .live⟩]) (fun i => i ≤ k.subs.length ∧ aloneF (k.subs.drop i) g = aloneF k.subs g) (fun i => k.subs.length - i)
    0 [1] (by simp) rfl ⟨by simp, by simp⟩ (by simp -implicitDefEqProofs only [kpp,Env.get,x01,x00,x02,x03,List.map,x08,x09,↓reduceIte,reduceCtorEq,Nat.reduceEqDiff,Nat.reduceLeDiff,Nat.reduceLT,Nat.reduceAdd,x0j,x0l,x0m,x0n,x0o,Int.cast_ofNat_Int,x0p,x0i,x07,x06,x0q,x0r,x0s,x0t,x0d,x0u]) (by simp -implicitDefEqProofs only [zero3, kpp,Env.get,x01,x00,x02,x03,List.map,x08,x09,↓reduceIte,reduceCtorEq,Nat.reduceEqDiff,Nat.reduceLeDiff,Nat.reduceLT,Nat.reduceAdd,x0j,x0l,x0m,x0n,x0o,Int.cast_ofNat_Int,x0p,x0i,x07,x06,x0q,x0r,x0s,x0t,x0d,x0u]) ?_
  rintro i ⟨hi, hr⟩
  unfold c102_1
  simp -implicitDefEqProofs only [vmp,↓vmd,Env.get,putD,argEnv,List.map,x00,x01,x02,x03,x04,x05,x06,x07,List.take,List.drop,x08,x09,x0a,x0b,List.isEmpty,↓reduceIte,reduceCtorEq,Nat.reduceEqDiff,Nat.reduceAdd,Nat.reduceLeDiff,x0c,Int.reduceNeg,Nat.reduceMul,Nat.reduceSub,x0d,x0e,x0f,x0g,x0h,x0i,x0j,x0k,Int.reduceEq,Int.reduceLT,Int.reduceLE,Int.reduceToNat,Int.cast_ofNat_Int,List.reduceReplicate]
  refine onB_dec (fun h1 => ?_) (fun h1 => ?_)
  · have hlt : i < k.subs.length := by omega
    rw [drop_at hlt, aloneF] at hr
    obtain ⟨s, hs'⟩ : ∃ s, s = k.subs[i] := ⟨_, rfl⟩
    have hmap : (k.subs.map sub)[i]? = some (sub s) := by rw [map_at hlt, hs']
    rw [← hs'] at hr
    simp -implicitDefEqProofs only [h1, hmap, Int.natCast_nonneg, vmp,↓vmd,Env.get,putD,argEnv,List.map,x00,x01,x02,x03,x04,x05,x06,x07,List.take,List.drop,x08,x09,x0a,x0b,List.isEmpty,↓reduceIte,reduceCtorEq,Nat.reduceEqDiff,Nat.reduceAdd,Nat.reduceLeDiff,x0c,Int.reduceNeg,Nat.reduceMul,Nat.reduceSub,x0d,x0e,x0f,x0g,x0h,x0i,x0j,x0k,Int.reduceEq,Int.reduceLT,Int.reduceLE,Int.reduceToNat,Int.cast_ofNat_Int,List.reduceReplicate]
    refine onC_q (cindex_q _ _) rfl ?_
    first | refine envO (by simp -implicitDefEqProofs only [vmp,↓vmd,Env.get,putD,argEnv,List.map,x00,x01,x02,x03,x04,x05,x06,x07,List.take,List.drop,x08,x09,x0a,x0b,List.isEmpty,↓reduceIte,reduceCtorEq,Nat.reduceEqDiff,Nat.reduceAdd,Nat.reduceLeDiff,x0c,Int.reduceNeg,Nat.reduceMul,Nat.reduceSub,x0d,x0e,x0f,x0g,x0h,x0i,x0j,x0k,Int.reduceEq,Int.reduceLT,Int.reduceLE,Int.reduceToNat,Int.cast_ofNat_Int,List.reduceReplicate]; rfl) ?_ | refine envQ (by simp -implicitDefEqProofs only [vmp,↓vmd,Env.get,putD,argEnv,List.map,x00,x01,x02,x03,x04,x05,x06,x07,List.take,List.drop,x08,x09,x0a,x0b,List.isEmpty,↓reduceIte,reduceCtorEq,Nat.reduceEqDiff,Nat.reduceAdd,Nat.reduceLeDiff,x0c,Int.reduceNeg,Nat.reduceMul,Nat.reduceSub,x0d,x0e,x0f,x0g,x0h,x0i,x0j,x0k,Int.reduceEq,Int.reduceLT,Int.reduceLE,Int.reduceToNat,Int.cast_ofNat_Int,List.reduceReplicate]; rfl) ?_
    by_cases h2 : 0 ≤ idxF g 0 s.cover
    · have hmx : max (idxF g 0 s.cover) 0 = idxF g 0 s.cover := by omega
      rw [hmx]
      simp -implicitDefEqProofs only [h2, vmp,↓vmd,Env.get,putD,argEnv,List.map,x00,x01,x02,x03,x04,x05,x06,x07,List.take,List.drop,x08,x09,x0a,x0b,List.isEmpty,↓reduceIte,reduceCtorEq,Nat.reduceEqDiff,Nat.reduceAdd,Nat.reduceLeDiff,x0c,Int.reduceNeg,Nat.reduceMul,Nat.reduceSub,x0d,x0e,x0f,x0g,x0h,x0i,x0j,x0k,Int.reduceEq,Int.reduceLT,Int.reduceLE,Int.reduceToNat,Int.cast_ofNat_Int,List.reduceReplicate]
      refine onIf_intro fun _ => ?_
      simp -implicitDefEqProofs only [h2, vmp,↓vmd,Env.get,putD,argEnv,List.map,x00,x01,x02,x03,x04,x05,x06,x07,List.take,List.drop,x08,x09,x0a,x0b,List.isEmpty,↓reduceIte,reduceCtorEq,Nat.reduceEqDiff,Nat.reduceAdd,Nat.reduceLeDiff,x0c,Int.reduceNeg,Nat.reduceMul,Nat.reduceSub,x0d,x0e,x0f,x0g,x0h,x0i,x0j,x0k,Int.reduceEq,Int.reduceLT,Int.reduceLE,Int.reduceToNat,Int.cast_ofNat_Int,List.reduceReplicate]
      refine onB_dec (fun h3 => ?_) (fun h3 => ?_)
      · have hv : (s.values.map sp)[(idxF g 0 s.cover).toNat]? = some (sp (s.values[(idxF g 0 s.cover).toNat]'(by omega))) := by
          rw [List.getElem?_map, List.getElem?_eq_getElem (by omega)]; rfl
        have hp : pickV s g = some (s.values[(idxF g 0 s.cover).toNat]'(by omega)) := by rw [pickV, if_pos h2, List.getElem?_eq_getElem (by omega)]
        rw [hp] at hr
        simp -implicitDefEqProofs only [h3, h2, hv, vmp,↓vmd,Env.get,putD,argEnv,List.map,x00,x01,x02,x03,x04,x05,x06,x07,List.take,List.drop,x08,x09,x0a,x0b,List.isEmpty,↓reduceIte,reduceCtorEq,Nat.reduceEqDiff,Nat.reduceAdd,Nat.reduceLeDiff,x0c,Int.reduceNeg,Nat.reduceMul,Nat.reduceSub,x0d,x0e,x0f,x0g,x0h,x0i,x0j,x0k,Int.reduceEq,Int.reduceLT,Int.reduceLE,Int.reduceToNat,Int.cast_ofNat_Int,List.reduceReplicate]
        rw [← hr]
        exact gives_tup rfl (by simp)
      · have hp : pickV s g = none := by rw [pickV, if_pos h2, List.getElem?_eq_none (by omega)]
        rw [hp] at hr
        simp -implicitDefEqProofs only [h3, vmp,↓vmd,Env.get,putD,argEnv,List.map,x00,x01,x02,x03,x04,x05,x06,x07,List.take,List.drop,x08,x09,x0a,x0b,List.isEmpty,↓reduceIte,reduceCtorEq,Nat.reduceEqDiff,Nat.reduceAdd,Nat.reduceLeDiff,x0c,Int.reduceNeg,Nat.reduceMul,Nat.reduceSub,x0d,x0e,x0f,x0g,x0h,x0i,x0j,x0k,Int.reduceEq,Int.reduceLT,Int.reduceLE,Int.reduceToNat,Int.cast_ofNat_Int,List.reduceReplicate]
        refine onBk_to (i + 1) [0] (by simp) rfl (by omega) ⟨hlt, hr⟩ (by simp -implicitDefEqProofs only [next_at hlt hlen, kpp,Env.get,x01,x00,x02,x03,List.map,x08,x09,↓reduceIte,reduceCtorEq,Nat.reduceEqDiff,Nat.reduceLeDiff,Nat.reduceLT,Nat.reduceAdd,x0j,x0l,x0m,x0n,x0o,Int.cast_ofNat_Int,x0p,x0i,x07,x06,x0q,x0r,x0s,x0t,x0d,x0u]) (by simp -implicitDefEqProofs only [kpp,Env.get,x01,x00,x02,x03,List.map,x08,x09,↓reduceIte,reduceCtorEq,Nat.reduceEqDiff,Nat.reduceLeDiff,Nat.reduceLT,Nat.reduceAdd,x0j,x0l,x0m,x0n,x0o,Int.cast_ofNat_Int,x0p,x0i,x07,x06,x0q,x0r,x0s,x0t,x0d,x0u])
    · have hp : pickV s g = none := by rw [pickV, if_neg h2]
      rw [hp] at hr
      simp -implicitDefEqProofs only [h2, vmp,↓vmd,Env.get,putD,argEnv,List.map,x00,x01,x02,x03,x04,x05,x06,x07,List.take,List.drop,x08,x09,x0a,x0b,List.isEmpty,↓reduceIte,reduceCtorEq,Nat.reduceEqDiff,Nat.reduceAdd,Nat.reduceLeDiff,x0c,Int.reduceNeg,Nat.reduceMul,Nat.reduceSub,x0d,x0e,x0f,x0g,x0h,x0i,x0j,x0k,Int.reduceEq,Int.reduceLT,Int.reduceLE,Int.reduceToNat,Int.cast_ofNat_Int,List.reduceReplicate]
      refine onBk_to (i + 1) [0] (by simp) rfl (by omega) ⟨hlt, hr⟩ (by simp -implicitDefEqProofs only [next_at hlt hlen, kpp,Env.get,x01,x00,x02,x03,List.map,x08,x09,↓reduceIte,reduceCtorEq,Nat.reduceEqDiff,Nat.reduceLeDiff,Nat.reduceLT,Nat.reduceAdd,x0j,x0l,x0m,x0n,x0o,Int.cast_ofNat_Int,x0p,x0i,x07,x06,x0q,x0r,x0s,x0t,x0d,x0u]) (by simp -implicitDefEqProofs only [kpp,Env.get,x01,x00,x02,x03,List.map,x08,x09,↓reduceIte,reduceCtorEq,Nat.reduceEqDiff,Nat.reduceLeDiff,Nat.reduceLT,Nat.reduceAdd,x0j,x0l,x0m,x0n,x0o,Int.cast_ofNat_Int,x0p,x0i,x07,x06,x0q,x0r,x0s,x0t,x0d,x0u])
  · simp -implicitDefEqProofs only [h1, vmp,↓vmd,Env.get,putD,argEnv,List.map,x00,x01,x02,x03,x04,x05,x06,x07,List.take,List.drop,x08,x09,x0a,x0b,List.isEmpty,↓reduceIte,reduceCtorEq,Nat.reduceEqDiff,Nat.reduceAdd,Nat.reduceLeDiff,x0c,Int.reduceNeg,Nat.reduceMul,Nat.reduceSub,x0d,x0e,x0f,x0g,x0h,x0i,x0j,x0k,Int.reduceEq,Int.reduceLT,Int.reduceLE,Int.reduceToNat,Int.cast_ofNat_Int,List.reduceReplicate]
    unfold c102_0
    simp -implicitDefEqProofs only [vmp,↓vmd,Env.get,putD,argEnv,List.map,x00,x01,x02,x03,x04,x05,x06,x07,List.take,List.drop,x08,x09,x0a,x0b,List.isEmpty,↓reduceIte,reduceCtorEq,Nat.reduceEqDiff,Nat.reduceAdd,Nat.reduceLeDiff,x0c,Int.reduceNeg,Nat.reduceMul,Nat.reduceSub,x0d,x0e,x0f,x0g,x0h,x0i,x0j,x0k,Int.reduceEq,Int.reduceLT,Int.reduceLE,Int.reduceToNat,Int.cast_ofNat_Int,List.reduceReplicate]
    rw [List.drop_of_length_le (by omega)] at hr
    rw [← hr]
    exact gives_tup rfl (by simp)
theorem rone_q (k : Lk) (g : Int) (hk : ∀ s ∈ k.subs, s.cover.length ≤ 30) : FnQ Try.prog 103 [lk k, I g] (oneR (aloneF k.subs g)) := by
  refine q103 (by simp) ?_
  unfold c103
  simp -implicitDefEqProofs only [*, vmp,↓vmd,Env.get,putD,argEnv,List.map,x00,x01,x02,x03,x04,x05,x06,x07,List.take,List.drop,x08,x09,x0a,x0b,List.isEmpty,↓reduceIte,reduceCtorEq,Nat.reduceEqDiff,Nat.reduceAdd,Nat.reduceLeDiff,x0c,Int.reduceNeg,Nat.reduceMul,Nat.reduceSub,x0d,x0e,x0f,x0g,x0h,x0i,x0j,x0k,Int.reduceEq,Int.reduceLT,Int.reduceLE,Int.reduceToNat,Int.cast_ofNat_Int,List.reduceReplicate]
  refine loop_at (T := Nat) (fun i => [(6, .pure (I i)), (2, .ptr 0 0 0), (1, .pure (I g)), (4, .ptr 1 0 0)]) (fun _ => [⟨[.pure (lk k)], 4, .live⟩, ⟨[.pure (sp zero3)], 3, .live⟩]) (fun i => i ≤ k.subs.length ∧ aloneF (k.subs.drop i) g = aloneF k.subs g) (fun i => k.subs.length - i)
    0 [0, 1] (by simp) rfl ⟨by simp, by simp⟩ (by simp -implicitDefEqProofs only [kpp,Env.get,x01,x00,x02,x03,List.map,x08,x09,↓reduceIte,reduceCtorEq,Nat.reduceEqDiff,Nat.reduceLeDiff,Nat.reduceLT,Nat.reduceAdd,x0j,x0l,x0m,x0n,x0o,Int.cast_ofNat_Int,x0p,x0i,x07,x06,x0q,x0r,x0s,x0t,x0d,x0u]) (by simp -implicitDefEqProofs only [zero3, kpp,Env.get,x01,x00,x02,x03,List.map,x08,x09,↓reduceIte,reduceCtorEq,Nat.reduceEqDiff,Nat.reduceLeDiff,Nat.reduceLT,Nat.reduceAdd,x0j,x0l,x0m,x0n,x0o,Int.cast_ofNat_Int,x0p,x0i,x07,x06,x0q,x0r,x0s,x0t,x0d,x0u]) ?_
  rintro i ⟨hi, hr⟩
  unfold c103_3
  simp -implicitDefEqProofs only [vmp,↓vmd,Env.get,putD,argEnv,List.map,x00,x01,x02,x03,x04,x05,x06,x07,List.take,List.drop,x08,x09,x0a,x0b,List.isEmpty,↓reduceIte,reduceCtorEq,Nat.reduceEqDiff,Nat.reduceAdd,Nat.reduceLeDiff,x0c,Int.reduceNeg,Nat.reduceMul,Nat.reduceSub,x0d,x0e,x0f,x0g,x0h,x0i,x0j,x0k,Int.reduceEq,Int.reduceLT,Int.reduceLE,Int.reduceToNat,Int.cast_ofNat_Int,List.reduceReplicate]
  refine onIf_intro fun hlen => ?_
  simp -implicitDefEqProofs only [vmp,↓vmd,Env.get,putD,argEnv,List.map,x00,x01,x02,x03,x04,x05,x06,x07,List.take,List.drop,x08,x09,x0a,x0b,List.isEmpty,↓reduceIte,reduceCtorEq,Nat.reduceEqDiff,Nat.reduceAdd,Nat.reduceLeDiff,x0c,Int.reduceNeg,Nat.reduceMul,Nat.reduceSub,x0d,x0e,x0f,x0g,x0h,x0i,x0j,x0k,Int.reduceEq,Int.reduceLT,Int.reduceLE,Int.reduceToNat,Int.cast_ofNat_Int,List.reduceReplicate]
  refine onB_dec (fun h1 => ?_) (fun h1 => ?_)
  · have hlt : i < k.subs.length := by omega
    have hlen' : k.subs.length ≤ 9223372036854775807 := by omega
    rw [drop_at hlt, aloneF] at hr
    obtain ⟨s, hs'⟩ : ∃ s, s = k.subs[i] := ⟨_, rfl⟩
    have hmap : (k.subs.map sub)[i]? = some (sub s) := by rw [map_at hlt, hs']
    have hc := hk k.subs[i] (List.getElem_mem hlt)
    rw [← hs'] at hr hc
    simp -implicitDefEqProofs only [h1, hmap, Int.natCast_nonneg, vmp,↓vmd,Env.get,putD,argEnv,List.map,x00,x01,x02,x03,x04,x05,x06,x07,List.take,List.drop,x08,x09,x0a,x0b,List.isEmpty,↓reduceIte,reduceCtorEq,Nat.reduceEqDiff,Nat.reduceAdd,Nat.reduceLeDiff,x0c,Int.reduceNeg,Nat.reduceMul,Nat.reduceSub,x0d,x0e,x0f,x0g,x0h,x0i,x0j,x0k,Int.reduceEq,Int.reduceLT,Int.reduceLE,Int.reduceToNat,Int.cast_ofNat_Int,List.reduceReplicate]
    refine loop_at (T := Nat) (fun j => [(8, .pure (I j)), (7, .ptr 2 0 0), (6, .pure (I i)), (2, .ptr 0 0 0), (1, .pure (I g)), (4, .ptr 1 0 0)]) (fun _ => [⟨[.pure (lk k)], 4, .live⟩, ⟨[.pure (sp zero3)], 3, .live⟩, ⟨[.pure (sub s)], 12, .live⟩]) (fun j => j ≤ s.cover.length ∧ idxF g j (s.cover.drop j) = idxF g 0 s.cover) (fun j => s.cover.length - j)
      0 [0, 1, 2] (by simp) rfl ⟨by simp, by simp⟩ (by simp -implicitDefEqProofs only [kpp,Env.get,x01,x00,x02,x03,List.map,x08,x09,↓reduceIte,reduceCtorEq,Nat.reduceEqDiff,Nat.reduceLeDiff,Nat.reduceLT,Nat.reduceAdd,x0j,x0l,x0m,x0n,x0o,Int.cast_ofNat_Int,x0p,x0i,x07,x06,x0q,x0r,x0s,x0t,x0d,x0u]) (by simp -implicitDefEqProofs only [kpp,Env.get,x01,x00,x02,x03,List.map,x08,x09,↓reduceIte,reduceCtorEq,Nat.reduceEqDiff,Nat.reduceLeDiff,Nat.reduceLT,Nat.reduceAdd,x0j,x0l,x0m,x0n,x0o,Int.cast_ofNat_Int,x0p,x0i,x07,x06,x0q,x0r,x0s,x0t,x0d,x0u]) ?_
    rintro j ⟨hj, hq⟩
    unfold c103_2
    simp -implicitDefEqProofs only [vmp,↓vmd,Env.get,putD,argEnv,List.map,x00,x01,x02,x03,x04,x05,x06,x07,List.take,List.drop,x08,x09,x0a,x0b,List.isEmpty,↓reduceIte,reduceCtorEq,Nat.reduceEqDiff,Nat.reduceAdd,Nat.reduceLeDiff,x0c,Int.reduceNeg,Nat.reduceMul,Nat.reduceSub,x0d,x0e,x0f,x0g,x0h,x0i,x0j,x0k,Int.reduceEq,Int.reduceLT,Int.reduceLE,Int.reduceToNat,Int.cast_ofNat_Int,List.reduceReplicate]
    refine onIf_intro fun _ => ?_
    simp -implicitDefEqProofs only [vmp,↓vmd,Env.get,putD,argEnv,List.map,x00,x01,x02,x03,x04,x05,x06,x07,List.take,List.drop,x08,x09,x0a,x0b,List.isEmpty,↓reduceIte,reduceCtorEq,Nat.reduceEqDiff,Nat.reduceAdd,Nat.reduceLeDiff,x0c,Int.reduceNeg,Nat.reduceMul,Nat.reduceSub,x0d,x0e,x0f,x0g,x0h,x0i,x0j,x0k,Int.reduceEq,Int.reduceLT,Int.reduceLE,Int.reduceToNat,Int.cast_ofNat_Int,List.reduceReplicate]
    refine onB_dec (fun h2 => ?_) (fun h2 => ?_)
    · have hlt2 : j < s.cover.length := by omega
      rw [drop_at hlt2, idxF] at hq
      simp -implicitDefEqProofs only [h2, map_at hlt2, Int.natCast_nonneg, vmp,↓vmd,Env.get,putD,argEnv,List.map,x00,x01,x02,x03,x04,x05,x06,x07,List.take,List.drop,x08,x09,x0a,x0b,List.isEmpty,↓reduceIte,reduceCtorEq,Nat.reduceEqDiff,Nat.reduceAdd,Nat.reduceLeDiff,x0c,Int.reduceNeg,Nat.reduceMul,Nat.reduceSub,x0d,x0e,x0f,x0g,x0h,x0i,x0j,x0k,Int.reduceEq,Int.reduceLT,Int.reduceLE,Int.reduceToNat,Int.cast_ofNat_Int,List.reduceReplicate]
      refine onB_ne (fun h3 => ?_) (fun h3 => ?_)
      · rw [if_neg (fun e => h3 e.symm)] at hq
        simp -implicitDefEqProofs only [h3, vmp,↓vmd,Env.get,putD,argEnv,List.map,x00,x01,x02,x03,x04,x05,x06,x07,List.take,List.drop,x08,x09,x0a,x0b,List.isEmpty,↓reduceIte,reduceCtorEq,Nat.reduceEqDiff,Nat.reduceAdd,Nat.reduceLeDiff,x0c,Int.reduceNeg,Nat.reduceMul,Nat.reduceSub,x0d,x0e,x0f,x0g,x0h,x0i,x0j,x0k,Int.reduceEq,Int.reduceLT,Int.reduceLE,Int.reduceToNat,Int.cast_ofNat_Int,List.reduceReplicate]
        refine onBk_to (j + 1) [0, 1, 2] (by simp) rfl (by omega) ⟨hlt2, hq⟩ (by simp -implicitDefEqProofs only [next_at hlt2 (by omega), kpp,Env.get,x01,x00,x02,x03,List.map,x08,x09,↓reduceIte,reduceCtorEq,Nat.reduceEqDiff,Nat.reduceLeDiff,Nat.reduceLT,Nat.reduceAdd,x0j,x0l,x0m,x0n,x0o,Int.cast_ofNat_Int,x0p,x0i,x07,x06,x0q,x0r,x0s,x0t,x0d,x0u]) (by simp -implicitDefEqProofs only [kpp,Env.get,x01,x00,x02,x03,List.map,x08,x09,↓reduceIte,reduceCtorEq,Nat.reduceEqDiff,Nat.reduceLeDiff,Nat.reduceLT,Nat.reduceAdd,x0j,x0l,x0m,x0n,x0o,Int.cast_ofNat_Int,x0p,x0i,x07,x06,x0q,x0r,x0s,x0t,x0d,x0u])
      · rw [if_pos h3.symm] at hq
        simp -implicitDefEqProofs only [h3, vmp,↓vmd,Env.get,putD,argEnv,List.map,x00,x01,x02,x03,x04,x05,x06,x07,List.take,List.drop,x08,x09,x0a,x0b,List.isEmpty,↓reduceIte,reduceCtorEq,Nat.reduceEqDiff,Nat.reduceAdd,Nat.reduceLeDiff,x0c,Int.reduceNeg,Nat.reduceMul,Nat.reduceSub,x0d,x0e,x0f,x0g,x0h,x0i,x0j,x0k,Int.reduceEq,Int.reduceLT,Int.reduceLE,Int.reduceToNat,Int.cast_ofNat_Int,List.reduceReplicate]
        refine onIf_intro fun _ => ?_
        simp -implicitDefEqProofs only [h3, vmp,↓vmd,Env.get,putD,argEnv,List.map,x00,x01,x02,x03,x04,x05,x06,x07,List.take,List.drop,x08,x09,x0a,x0b,List.isEmpty,↓reduceIte,reduceCtorEq,Nat.reduceEqDiff,Nat.reduceAdd,Nat.reduceLeDiff,x0c,Int.reduceNeg,Nat.reduceMul,Nat.reduceSub,x0d,x0e,x0f,x0g,x0h,x0i,x0j,x0k,Int.reduceEq,Int.reduceLT,Int.reduceLE,Int.reduceToNat,Int.cast_ofNat_Int,List.reduceReplicate]
        refine onB_dec (fun h4 => ?_) (fun h4 => ?_)
        · have hlt3 : j < s.values.length := by omega
          have hp : pickV s g = some s.values[j] := by rw [pickV, ← hq, if_pos (by omega), Int.toNat_natCast, List.getElem?_eq_getElem hlt3]
          rw [hp] at hr
          simp -implicitDefEqProofs only [h4, map_at hlt3, Int.natCast_nonneg, vmp,↓vmd,Env.get,putD,argEnv,List.map,x00,x01,x02,x03,x04,x05,x06,x07,List.take,List.drop,x08,x09,x0a,x0b,List.isEmpty,↓reduceIte,reduceCtorEq,Nat.reduceEqDiff,Nat.reduceAdd,Nat.reduceLeDiff,x0c,Int.reduceNeg,Nat.reduceMul,Nat.reduceSub,x0d,x0e,x0f,x0g,x0h,x0i,x0j,x0k,Int.reduceEq,Int.reduceLT,Int.reduceLE,Int.reduceToNat,Int.cast_ofNat_Int,List.reduceReplicate]
          rw [← hr]
          exact gives_tup rfl (by simp)
        · have hp : pickV s g = none := by rw [pickV, ← hq, if_pos (by omega), Int.toNat_natCast, List.getElem?_eq_none (by omega)]
          rw [hp] at hr
          simp -implicitDefEqProofs only [h4, vmp,↓vmd,Env.get,putD,argEnv,List.map,x00,x01,x02,x03,x04,x05,x06,x07,List.take,List.drop,x08,x09,x0a,x0b,List.isEmpty,↓reduceIte,reduceCtorEq,Nat.reduceEqDiff,Nat.reduceAdd,Nat.reduceLeDiff,x0c,Int.reduceNeg,Nat.reduceMul,Nat.reduceSub,x0d,x0e,x0f,x0g,x0h,x0i,x0j,x0k,Int.reduceEq,Int.reduceLT,Int.reduceLE,Int.reduceToNat,Int.cast_ofNat_Int,List.reduceReplicate]
          unfold c103_1
          simp -implicitDefEqProofs only [vmp,↓vmd,Env.get,putD,argEnv,List.map,x00,x01,x02,x03,x04,x05,x06,x07,List.take,List.drop,x08,x09,x0a,x0b,List.isEmpty,↓reduceIte,reduceCtorEq,Nat.reduceEqDiff,Nat.reduceAdd,Nat.reduceLeDiff,x0c,Int.reduceNeg,Nat.reduceMul,Nat.reduceSub,x0d,x0e,x0f,x0g,x0h,x0i,x0j,x0k,Int.reduceEq,Int.reduceLT,Int.reduceLE,Int.reduceToNat,Int.cast_ofNat_Int,List.reduceReplicate]
          refine onBk_to (i + 1) [0, 1] (by simp) rfl (by omega) ⟨hlt, hr⟩ (by simp -implicitDefEqProofs only [next_at hlt hlen', kpp,Env.get,x01,x00,x02,x03,List.map,x08,x09,↓reduceIte,reduceCtorEq,Nat.reduceEqDiff,Nat.reduceLeDiff,Nat.reduceLT,Nat.reduceAdd,x0j,x0l,x0m,x0n,x0o,Int.cast_ofNat_Int,x0p,x0i,x07,x06,x0q,x0r,x0s,x0t,x0d,x0u]) (by simp -implicitDefEqProofs only [kpp,Env.get,x01,x00,x02,x03,List.map,x08,x09,↓reduceIte,reduceCtorEq,Nat.reduceEqDiff,Nat.reduceLeDiff,Nat.reduceLT,Nat.reduceAdd,x0j,x0l,x0m,x0n,x0o,Int.cast_ofNat_Int,x0p,x0i,x07,x06,x0q,x0r,x0s,x0t,x0d,x0u])
    · rw [List.drop_of_length_le (by omega), idxF] at hq
      have hp : pickV s g = none := by rw [pickV, ← hq, if_neg (by omega)]
      rw [hp] at hr
      simp -implicitDefEqProofs only [h2, vmp,↓vmd,Env.get,putD,argEnv,List.map,x00,x01,x02,x03,x04,x05,x06,x07,List.take,List.drop,x08,x09,x0a,x0b,List.isEmpty,↓reduceIte,reduceCtorEq,Nat.reduceEqDiff,Nat.reduceAdd,Nat.reduceLeDiff,x0c,Int.reduceNeg,Nat.reduceMul,Nat.reduceSub,x0d,x0e,x0f,x0g,x0h,x0i,x0j,x0k,Int.reduceEq,Int.reduceLT,Int.reduceLE,Int.reduceToNat,Int.cast_ofNat_Int,List.reduceReplicate]
      unfold c103_1
      simp -implicitDefEqProofs only [vmp,↓vmd,Env.get,putD,argEnv,List.map,x00,x01,x02,x03,x04,x05,x06,x07,List.take,List.drop,x08,x09,x0a,x0b,List.isEmpty,↓reduceIte,reduceCtorEq,Nat.reduceEqDiff,Nat.reduceAdd,Nat.reduceLeDiff,x0c,Int.reduceNeg,Nat.reduceMul,Nat.reduceSub,x0d,x0e,x0f,x0g,x0h,x0i,x0j,x0k,Int.reduceEq,Int.reduceLT,Int.reduceLE,Int.reduceToNat,Int.cast_ofNat_Int,List.reduceReplicate]
      refine onBk_to (i + 1) [0, 1] (by simp) rfl (by omega) ⟨hlt, hr⟩ (by simp -implicitDefEqProofs only [next_at hlt hlen', kpp,Env.get,x01,x00,x02,x03,List.map,x08,x09,↓reduceIte,reduceCtorEq,Nat.reduceEqDiff,Nat.reduceLeDiff,Nat.reduceLT,Nat.reduceAdd,x0j,x0l,x0m,x0n,x0o,Int.cast_ofNat_Int,x0p,x0i,x07,x06,x0q,x0r,x0s,x0t,x0d,x0u]) (by simp -implicitDefEqProofs only [kpp,Env.get,x01,x00,x02,x03,List.map,x08,x09,↓reduceIte,reduceCtorEq,Nat.reduceEqDiff,Nat.reduceLeDiff,Nat.reduceLT,Nat.reduceAdd,x0j,x0l,x0m,x0n,x0o,Int.cast_ofNat_Int,x0p,x0i,x07,x06,x0q,x0r,x0s,x0t,x0d,x0u])
  · simp -implicitDefEqProofs only [h1, vmp,↓vmd,Env.get,putD,argEnv,List.map,x00,x01,x02,x03,x04,x05,x06,x07,List.take,List.drop,x08,x09,x0a,x0b,List.isEmpty,↓reduceIte,reduceCtorEq,Nat.reduceEqDiff,Nat.reduceAdd,Nat.reduceLeDiff,x0c,Int.reduceNeg,Nat.reduceMul,Nat.reduceSub,x0d,x0e,x0f,x0g,x0h,x0i,x0j,x0k,Int.reduceEq,Int.reduceLT,Int.reduceLE,Int.reduceToNat,Int.cast_ofNat_Int,List.reduceReplicate]
    unfold c103_0
    simp -implicitDefEqProofs only [vmp,↓vmd,Env.get,putD,argEnv,List.map,x00,x01,x02,x03,x04,x05,x06,x07,List.take,List.drop,x08,x09,x0a,x0b,List.isEmpty,↓reduceIte,reduceCtorEq,Nat.reduceEqDiff,Nat.reduceAdd,Nat.reduceLeDiff,x0c,Int.reduceNeg,Nat.reduceMul,Nat.reduceSub,x0d,x0e,x0f,x0g,x0h,x0i,x0j,x0k,Int.reduceEq,Int.reduceLT,Int.reduceLE,Int.reduceToNat,Int.cast_ofNat_Int,List.reduceReplicate]
    rw [List.drop_of_length_le (by omega)] at hr
    rw [← hr]
    exact gives_tup rfl (by simp)
theorem cloneG_c (l : List Gl) (hl : l.length ≤ 1000) : CallA Try.prog 86 [.pure (.sl (l.map gl))] [] fun s H' => s = .rsl 0 0 l.length ∧ H' = [⟨(l.map gl).map .pure, 10, .live⟩] := by
  refine CallA.virt 10 (by simp) ?_
  refine CallA.weak (K := fun s H' => (s = .rsl 1 0 l.length ∧ H' = [⟨[], 10, .dead⟩, ⟨(l.map gl).map .pure, 10, .live⟩]) ∨ (l = [] ∧ s = .empty ∧ H' = [])) ?_ ?_
  · refine a86 (by simp) ?_
    unfold c86
    simp -implicitDefEqProofs only [*, vmp,↓vmd,Env.get,putD,argEnv,List.map,x00,x01,x02,x03,x04,x05,x06,x07,List.take,List.drop,x08,x09,x0a,x0b,List.isEmpty,↓reduceIte,reduceCtorEq,Nat.reduceEqDiff,Nat.reduceAdd,Nat.reduceLeDiff,x0c,Int.reduceNeg,Nat.reduceMul,Nat.reduceSub,x0d,x0e,x0f,x0g,x0h,x0i,x0j,x0k,Int.reduceEq,Int.reduceLT,Int.reduceLE,Int.reduceToNat,Int.cast_ofNat_Int,List.reduceReplicate]
    refine onN_intro fun b hb => ?_
    simp -implicitDefEqProofs only [*, vmp,↓vmd,Env.get,putD,argEnv,List.map,x00,x01,x02,x03,x04,x05,x06,x07,List.take,List.drop,x08,x09,x0a,x0b,List.isEmpty,↓reduceIte,reduceCtorEq,Nat.reduceEqDiff,Nat.reduceAdd,Nat.reduceLeDiff,x0c,Int.reduceNeg,Nat.reduceMul,Nat.reduceSub,x0d,x0e,x0f,x0g,x0h,x0i,x0j,x0k,Int.reduceEq,Int.reduceLT,Int.reduceLE,Int.reduceToNat,Int.cast_ofNat_Int,List.reduceReplicate]
    refine onB_intro (fun h => ?_) (fun h => ?_)
    · simp -implicitDefEqProofs only [h, vmp,↓vmd,Env.get,putD,argEnv,List.map,x00,x01,x02,x03,x04,x05,x06,x07,List.take,List.drop,x08,x09,x0a,x0b,List.isEmpty,↓reduceIte,reduceCtorEq,Nat.reduceEqDiff,Nat.reduceAdd,Nat.reduceLeDiff,x0c,Int.reduceNeg,Nat.reduceMul,Nat.reduceSub,x0d,x0e,x0f,x0g,x0h,x0i,x0j,x0k,Int.reduceEq,Int.reduceLT,Int.reduceLE,Int.reduceToNat,Int.cast_ofNat_Int,List.reduceReplicate]
      rcases Nat.eq_zero_or_pos l.length with h0 | h0
      · exact List.eq_nil_of_length_eq_zero h0
      · rw [hb (by omega)] at h; cases h
    · simp -implicitDefEqProofs only [h, vmp,↓vmd,Env.get,putD,argEnv,List.map,x00,x01,x02,x03,x04,x05,x06,x07,List.take,List.drop,x08,x09,x0a,x0b,List.isEmpty,↓reduceIte,reduceCtorEq,Nat.reduceEqDiff,Nat.reduceAdd,Nat.reduceLeDiff,x0c,Int.reduceNeg,Nat.reduceMul,Nat.reduceSub,x0d,x0e,x0f,x0g,x0h,x0i,x0j,x0k,Int.reduceEq,Int.reduceLT,Int.reduceLE,Int.reduceToNat,Int.cast_ofNat_Int,List.reduceReplicate]
      refine onIf'_intro (appOk_map (fun _ => rfl) rfl (by simp) (by omega) (by simp [maxLen]; omega)) ?_
      simp -implicitDefEqProofs only [vmp,↓vmd,Env.get,putD,argEnv,List.map,x00,x01,x02,x03,x04,x05,x06,x07,List.take,List.drop,x08,x09,x0a,x0b,List.isEmpty,↓reduceIte,reduceCtorEq,Nat.reduceEqDiff,Nat.reduceAdd,Nat.reduceLeDiff,x0c,Int.reduceNeg,Nat.reduceMul,Nat.reduceSub,x0d,x0e,x0f,x0g,x0h,x0i,x0j,x0k,Int.reduceEq,Int.reduceLT,Int.reduceLE,Int.reduceToNat,Int.cast_ofNat_Int,List.reduceReplicate]
  · rintro s H' (⟨rfl, rfl⟩ | ⟨rfl, rfl, rfl⟩)
    · exact ⟨[1], .rsl 0 0 l.length, [⟨(l.map gl).map .pure, 10, .live⟩], by simp, rfl, (by simp -implicitDefEqProofs only [kpp,Env.get,x01,x00,x02,x03,List.map,x08,x09,↓reduceIte,reduceCtorEq,Nat.reduceEqDiff,Nat.reduceLeDiff,Nat.reduceLT,Nat.reduceAdd,x0j,x0l,x0m,x0n,x0o,Int.cast_ofNat_Int,x0p,x0i,x07,x06,x0q,x0r,x0s,x0t,x0d,x0u]), (by simp -implicitDefEqProofs only [kpp,Env.get,x01,x00,x02,x03,List.map,x08,x09,↓reduceIte,reduceCtorEq,Nat.reduceEqDiff,Nat.reduceLeDiff,Nat.reduceLT,Nat.reduceAdd,x0j,x0l,x0m,x0n,x0o,Int.cast_ofNat_Int,x0p,x0i,x07,x06,x0q,x0r,x0s,x0t,x0d,x0u]), .inl ⟨rfl, rfl⟩⟩
    · exact ⟨[], .empty, [], by simp, rfl, (by simp -implicitDefEqProofs only [kpp,Env.get,x01,x00,x02,x03,List.map,x08,x09,↓reduceIte,reduceCtorEq,Nat.reduceEqDiff,Nat.reduceLeDiff,Nat.reduceLT,Nat.reduceAdd,x0j,x0l,x0m,x0n,x0o,Int.cast_ofNat_Int,x0p,x0i,x07,x06,x0q,x0r,x0s,x0t,x0d,x0u]), trivial, .inr ⟨rfl, rfl, rfl⟩⟩
end Go.Proofs.Ytjgodncjlffhjaa.W
