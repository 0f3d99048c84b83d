/-
  Marks: anchors of hosts, and the marks of subtables. No condition but on sizes.
-/
import Derived.Test.YtbllbkhkmngclaaMarks1
import Derived.Test.YtbllbkhkmngclaaMarks2
namespace Go.Proofs.Ytbllbkhkmngclaa.W
open Go Go.Vm Go.Proofs
set_option maxRecDepth 100000
set_option linter.unusedSimpArgs false
set_option maxHeartbeats 4000000
/-! typecase/marks.Anchor$1 -/
def c56 : AC :=
  (.seq (.reg [⟨some 2, none, .box (.s 0)⟩,
    ⟨some 3, none, .mov (.c (.pure (.bool false)))⟩])
  (.seq (.reg [⟨some 4, none, .fldA 0 (.s 2)⟩,
    ⟨some 5, none, .load false 1 (.s 4)⟩,
    ⟨some 6, none, .load false 1 (.s 1)⟩,
    ⟨some 7, none, .bin .eql (.s 5) (.s 6)⟩,
    ⟨some 3, none, .mov (.s 7)⟩])
  .ret))
theorem k56 : (Try.f56.body.bind fun c => cCode Try.prog Try.f56.ntmps RCs c) = some c56 := by kernel_rfl
theorem h56 : (Try.f56.name == "runtime.NumGoroutine") = false := by kernel_rfl
theorem r56 : resC Try.prog Try.f56.results.toList = some [.t 3] := by kernel_rfl
theorem a56 {args : List S} {H : Heap} {K : S → Heap → Prop} (hn : args.length ≤ 8) (h : aWx Try.prog H.length c56 (PostX [.t 3] K) (argEnv 0 args) H) : CallA Try.prog 56 args H K :=
  callA_of_x mixed Try.func56 h56 k56 r56 (by rw [Try.ntmps56]; exact hn) h
theorem q56 {vs ds : List V} (hn : vs.length ≤ 8) (h : aWx Try.prog 0 c56 (PostX [.t 3] (Gives ds)) (argEnv 0 (vs.map .pure)) []) : FnQ Try.prog 56 vs ds :=
  fnQ_of_call (a56 (by simpa using hn) h)
/-! typecase/marks.Apply$1 -/
def c60 : AC :=
  (.seq (.reg [⟨some 2, none, .box (.s 0)⟩,
    ⟨some 3, none, .mov (.c (.pure (.bool false)))⟩])
  (.seq (.reg [⟨some 4, none, .fldA 0 (.s 2)⟩,
    ⟨some 5, none, .load false 1 (.s 4)⟩,
    ⟨some 6, none, .fldA 0 (.s 1)⟩,
    ⟨some 7, none, .load false 1 (.s 6)⟩,
    ⟨some 8, none, .bin .eql (.s 5) (.s 7)⟩,
    ⟨some 3, none, .mov (.s 8)⟩])
  .ret))
theorem k60 : (Try.f60.body.bind fun c => cCode Try.prog Try.f60.ntmps RCs c) = some c60 := by kernel_rfl
theorem h60 : (Try.f60.name == "runtime.NumGoroutine") = false := by kernel_rfl
theorem r60 : resC Try.prog Try.f60.results.toList = some [.t 3] := by kernel_rfl
theorem a60 {args : List S} {H : Heap} {K : S → Heap → Prop} (hn : args.length ≤ 9) (h : aWx Try.prog H.length c60 (PostX [.t 3] K) (argEnv 0 args) H) : CallA Try.prog 60 args H K :=
  callA_of_x mixed Try.func60 h60 k60 r60 (by rw [Try.ntmps60]; exact hn) h
theorem q60 {vs ds : List V} (hn : vs.length ≤ 9) (h : aWx Try.prog 0 c60 (PostX [.t 3] (Gives ds)) (argEnv 0 (vs.map .pure)) []) : FnQ Try.prog 60 vs ds :=
  fnQ_of_call (a60 (by simpa using hn) h)
/-! slices.IndexFunc[[]typecase/api.Host,typecase/api.Host] -/
def c55_0 : AC :=
  (.seq (.reg [⟨some 4, none, .mov (.c (.pure (.int .i64 (-1))))⟩])
  .ret)
def c55_1 : AC :=
  (.seq (.reg [⟨some 9, none, .bin .lss (.s 8) (.s 7)⟩])
  (.seq (.cond (.s 9)
  .skip
  (.exit 0))
  (.seq (.block 1
  (.seq (.reg [⟨some 10, none, .mov (.s 8)⟩,
    ⟨some 5, none, .mov (.s 10)⟩])
  (.seq (.reg [⟨some 11, none, .mov (.s 1)⟩,
    ⟨some 12, none, .mov (.s 0)⟩,
    ⟨some 13, none, .mov (.s 5)⟩,
    ⟨some 14, none, .idxA 2 (.s 12) (.s 13)⟩,
    ⟨some 15, none, .load true 2 (.s 14)⟩,
    ⟨some 16, none, .callv (.s 11) [(.s 15)]⟩])
  (.cond (.s 16)
  (.seq (.reg [⟨some 17, none, .mov (.s 5)⟩,
    ⟨some 4, none, .mov (.s 17)⟩])
  .ret)
  .skip))))
  (.reg [⟨some 18, none, .bin .add (.s 8) (.c (.pure (.int .i64 1)))⟩,
    ⟨some 8, none, .mov (.s 18)⟩]))))
def c55 : AC :=
  (.seq (.reg [⟨some 4, none, .mov (.c (.pure (.int .i64 0)))⟩])
  (.seq (.seq (.reg [⟨some 6, none, .mov (.s 0)⟩,
    ⟨some 7, none, .len (.s 6)⟩,
    ⟨some 8, none, .mov (.c (.pure (.int .i64 0)))⟩])
  (.block 0
  (.loop c55_1)))
  c55_0))
theorem k55 : (Try.f55.body.bind fun c => cCode Try.prog Try.f55.ntmps RCs c) = some c55 := by kernel_rfl
theorem h55 : (Try.f55.name == "runtime.NumGoroutine") = false := by kernel_rfl
theorem r55 : resC Try.prog Try.f55.results.toList = some [.t 4] := by kernel_rfl
theorem a55 {args : List S} {H : Heap} {K : S → Heap → Prop} (hn : args.length ≤ 19) (h : aWx Try.prog H.length c55 (PostX [.t 4] K) (argEnv 0 args) H) : CallA Try.prog 55 args H K :=
  callA_of_x mixed Try.func55 h55 k55 r55 (by rw [Try.ntmps55]; exact hn) h
theorem q55 {vs ds : List V} (hn : vs.length ≤ 19) (h : aWx Try.prog 0 c55 (PostX [.t 4] (Gives ds)) (argEnv 0 (vs.map .pure)) []) : FnQ Try.prog 55 vs ds :=
  fnQ_of_call (a55 (by simpa using hn) h)
/-! slices.IndexFunc[[]typecase/api.MarkAt,typecase/api.MarkAt] -/
def c59_0 : AC :=
  (.seq (.reg [⟨some 4, none, .mov (.c (.pure (.int .i64 (-1))))⟩])
  .ret)
def c59_1 : AC :=
  (.seq (.reg [⟨some 9, none, .bin .lss (.s 8) (.s 7)⟩])
  (.seq (.cond (.s 9)
  .skip
  (.exit 0))
  (.seq (.block 1
  (.seq (.reg [⟨some 10, none, .mov (.s 8)⟩,
    ⟨some 5, none, .mov (.s 10)⟩])
  (.seq (.reg [⟨some 11, none, .mov (.s 1)⟩,
    ⟨some 12, none, .mov (.s 0)⟩,
    ⟨some 13, none, .mov (.s 5)⟩,
    ⟨some 14, none, .idxA 4 (.s 12) (.s 13)⟩,
    ⟨some 15, none, .load true 4 (.s 14)⟩,
    ⟨some 16, none, .callv (.s 11) [(.s 15)]⟩])
  (.cond (.s 16)
  (.seq (.reg [⟨some 17, none, .mov (.s 5)⟩,
    ⟨some 4, none, .mov (.s 17)⟩])
  .ret)
  .skip))))
  (.reg [⟨some 18, none, .bin .add (.s 8) (.c (.pure (.int .i64 1)))⟩,
    ⟨some 8, none, .mov (.s 18)⟩]))))
def c59 : AC :=
  (.seq (.reg [⟨some 4, none, .mov (.c (.pure (.int .i64 0)))⟩])
  (.seq (.seq (.reg [⟨some 6, none, .mov (.s 0)⟩,
    ⟨some 7, none, .len (.s 6)⟩,
    ⟨some 8, none, .mov (.c (.pure (.int .i64 0)))⟩])
  (.block 0
  (.loop c59_1)))
  c59_0))
theorem k59 : (Try.f59.body.bind fun c => cCode Try.prog Try.f59.ntmps RCs c) = some c59 := by kernel_rfl
theorem h59 : (Try.f59.name == "runtime.NumGoroutine") = false := by kernel_rfl
theorem r59 : resC Try.prog Try.f59.results.toList = some [.t 4] := by kernel_rfl
theorem a59 {args : List S} {H : Heap} {K : S → Heap → Prop} (hn : args.length ≤ 19) (h : aWx Try.prog H.length c59 (PostX [.t 4] K) (argEnv 0 args) H) : CallA Try.prog 59 args H K :=
  callA_of_x mixed Try.func59 h59 k59 r59 (by rw [Try.ntmps59]; exact hn) h
theorem q59 {vs ds : List V} (hn : vs.length ≤ 19) (h : aWx Try.prog 0 c59 (PostX [.t 4] (Gives ds)) (argEnv 0 (vs.map .pure)) []) : FnQ Try.prog 59 vs ds :=
  fnQ_of_call (a59 (by simpa using hn) h)

/-- where something first stands -/
def ixF {α : Type} (p : α → Bool) : List α → Nat → Int
  | [], _ => -1
  | a :: r, n => if p a = true then (n : Int) else ixF p r (n + 1)
def isHo (g : Int) (h : Ho) : Bool := decide (h.glyph = g)
def isMk (g : Int) (m : Mk) : Bool := decide (m.glyph = g)
theorem ix_ho (g : Int) : ∀ (l : List Ho) (n : Nat), (ixF (isHo g) l n = -1 ∧ findHo l g = none) ∨ ∃ i, ∃ h : i < l.length, ixF (isHo g) l n = ((n + i : Nat) : Int) ∧ findHo l g = some l[i]
  | [], n => .inl ⟨rfl, rfl⟩
  | a :: r, n => by
    rw [ixF, findHo]
    by_cases h : a.glyph = g
    · rw [if_pos (by simp [isHo, h]), if_pos h]
      exact .inr ⟨0, by simp, rfl, rfl⟩
    · rw [if_neg (by simp [isHo, h]), if_neg h]
      rcases ix_ho g r (n + 1) with h1 | ⟨i, hi, h1, h2⟩
      · exact .inl h1
      · exact .inr ⟨i + 1, by simpa using hi, by rw [h1]; congr 1; omega, by simpa using h2⟩
theorem ix_mk (g : Int) : ∀ (l : List Mk) (n : Nat), (ixF (isMk g) l n = -1 ∧ findMk l g = none) ∨ ∃ i, ∃ h : i < l.length, ixF (isMk g) l n = ((n + i : Nat) : Int) ∧ findMk l g = some l[i]
  | [], n => .inl ⟨rfl, rfl⟩
  | a :: r, n => by
    rw [ixF, findMk]
    by_cases h : a.glyph = g
    · rw [if_pos (by simp [isMk, h]), if_pos h]
      exact .inr ⟨0, by simp, rfl, rfl⟩
    · rw [if_neg (by simp [isMk, h]), if_neg h]
      rcases ix_mk g r (n + 1) with h1 | ⟨i, hi, h1, h2⟩
      · exact .inl h1
      · exact .inr ⟨i + 1, by simpa using hi, by rw [h1]; congr 1; omega, by simpa using h2⟩
theorem ishost_c (g : Int) (h : Ho) : CallA Try.prog 56 [.pure (ho h), .ptr 0 0 0] [⟨[.pure (I g)], 1, .live⟩] fun r H' => r = .pure (.bool (isHo g h)) ∧ H' = [⟨[.pure (I g)], 1, .live⟩] := by
  refine CallA.weak (K := fun r H' => r = .pure (.bool (isHo g h)) ∧ ∃ R, H' = ⟨[.pure (I g)], 1, .live⟩ :: R) ?_ ?_
  · refine a56 (by simp) ?_
    unfold c56
    simp -implicitDefEqProofs only [*, vmp,↓vmd,Env.get,putD,argEnv,List.map,x00,x01,x02,x03,x04,x05,x06,x07,List.take,List.drop,x08,x09,x0a,x0b,List.isEmpty,↓reduceIte,reduceCtorEq,Nat.reduceEqDiff,Nat.reduceAdd,Nat.reduceLeDiff,x0c,Int.reduceNeg,Nat.reduceMul,Nat.reduceSub,x0d,x0e,x0f,x0g,x0h,x0i,x0j,x0k,Int.reduceEq,Int.reduceLT,Int.reduceLE,Int.reduceToNat,Int.cast_ofNat_Int,List.reduceReplicate]
    exact ⟨rfl, _, rfl⟩
  · rintro r H' ⟨rfl, R, rfl⟩
    exact ⟨[0], _, _, by simp, rfl, (by simp -implicitDefEqProofs only [kpp,Env.get,x01,x00,x02,x03,List.map,x08,x09,↓reduceIte,reduceCtorEq,Nat.reduceEqDiff,Nat.reduceLeDiff,Nat.reduceLT,Nat.reduceAdd,x0j,x0l,x0m,x0n,x0o,Int.cast_ofNat_Int,x0p,x0i,x07,x06,x0q,x0r,x0s,x0t,x0d,x0u]), (by simp -implicitDefEqProofs only [kpp,Env.get,x01,x00,x02,x03,List.map,x08,x09,↓reduceIte,reduceCtorEq,Nat.reduceEqDiff,Nat.reduceLeDiff,Nat.reduceLT,Nat.reduceAdd,x0j,x0l,x0m,x0n,x0o,Int.cast_ofNat_Int,x0p,x0i,x07,x06,x0q,x0r,x0s,x0t,x0d,x0u]), rfl, rfl⟩
theorem ismark_c (g : Gl) (m : Mk) : CallA Try.prog 60 [.pure (mk m), .ptr 0 0 0] [⟨[.pure (gl g)], 10, .live⟩] fun r H' => r = .pure (.bool (isMk g.id m)) ∧ H' = [⟨[.pure (gl g)], 10, .live⟩] := by
  refine CallA.weak (K := fun r H' => r = .pure (.bool (isMk g.id m)) ∧ ∃ R, H' = ⟨[.pure (gl g)], 10, .live⟩ :: R) ?_ ?_
  · refine a60 (by simp) ?_
    unfold c60
    simp -implicitDefEqProofs only [*, vmp,↓vmd,Env.get,putD,argEnv,List.map,x00,x01,x02,x03,x04,x05,x06,x07,List.take,List.drop,x08,x09,x0a,x0b,List.isEmpty,↓reduceIte,reduceCtorEq,Nat.reduceEqDiff,Nat.reduceAdd,Nat.reduceLeDiff,x0c,Int.reduceNeg,Nat.reduceMul,Nat.reduceSub,x0d,x0e,x0f,x0g,x0h,x0i,x0j,x0k,Int.reduceEq,Int.reduceLT,Int.reduceLE,Int.reduceToNat,Int.cast_ofNat_Int,List.reduceReplicate]
    exact ⟨rfl, _, rfl⟩
  · rintro r H' ⟨rfl, R, rfl⟩
    exact ⟨[0], _, _, by simp, rfl, (by simp -implicitDefEqProofs only [kpp,Env.get,x01,x00,x02,x03,List.map,x08,x09,↓reduceIte,reduceCtorEq,Nat.reduceEqDiff,Nat.reduceLeDiff,Nat.reduceLT,Nat.reduceAdd,x0j,x0l,x0m,x0n,x0o,Int.cast_ofNat_Int,x0p,x0i,x07,x06,x0q,x0r,x0s,x0t,x0d,x0u]), (by simp -implicitDefEqProofs only [kpp,Env.get,x01,x00,x02,x03,List.map,x08,x09,↓reduceIte,reduceCtorEq,Nat.reduceEqDiff,Nat.reduceLeDiff,Nat.reduceLT,Nat.reduceAdd,x0j,x0l,x0m,x0n,x0o,Int.cast_ofNat_Int,x0p,x0i,x07,x06,x0q,x0r,x0s,x0t,x0d,x0u]), rfl, rfl⟩
theorem ixho_c (g : Int) (l : List Ho) (hl : l.length ≤ 1000) : CallA Try.prog 55 [.pure (.sl (l.map ho)), .func (.func 56) [] [.ptr 0 0 0]] [⟨[.pure (I g)], 1, .live⟩]
    fun r H' => r = .pure (I (ixF (isHo g) l 0)) ∧ H' = [⟨[.pure (I g)], 1, .live⟩] := by
  refine CallA.weak (K := fun r H' => r = .pure (I (ixF (isHo g) l 0)) ∧ ∃ R, H' = ⟨[.pure (I g)], 1, .live⟩ :: R) ?_ ?_
  · refine a55 (by simp) ?_
    unfold c55
    simp -implicitDefEqProofs only [*, vmp,↓vmd,Env.get,putD,argEnv,List.map,x00,x01,x02,x03,x04,x05,x06,x07,List.take,List.drop,x08,x09,x0a,x0b,List.isEmpty,↓reduceIte,reduceCtorEq,Nat.reduceEqDiff,Nat.reduceAdd,Nat.reduceLeDiff,x0c,Int.reduceNeg,Nat.reduceMul,Nat.reduceSub,x0d,x0e,x0f,x0g,x0h,x0i,x0j,x0k,Int.reduceEq,Int.reduceLT,Int.reduceLE,Int.reduceToNat,Int.cast_ofNat_Int,List.reduceReplicate]
    refine onIf_intro fun _ => ?_
    simp -implicitDefEqProofs only [*, vmp,↓vmd,Env.get,putD,argEnv,List.map,x00,x01,x02,x03,x04,x05,x06,x07,List.take,List.drop,x08,x09,x0a,x0b,List.isEmpty,↓reduceIte,reduceCtorEq,Nat.reduceEqDiff,Nat.reduceAdd,Nat.reduceLeDiff,x0c,Int.reduceNeg,Nat.reduceMul,Nat.reduceSub,x0d,x0e,x0f,x0g,x0h,x0i,x0j,x0k,Int.reduceEq,Int.reduceLT,Int.reduceLE,Int.reduceToNat,Int.cast_ofNat_Int,List.reduceReplicate]
    refine loop_at (T := Nat) (fun j => [(8, .pure (I j)), (7, .pure (I l.length)), (0, .pure (.sl (l.map ho))), (1, .func (.func 56) [] [.ptr 0 0 0])]) (fun _ => [⟨[.pure (I g)], 1, .live⟩])
      (fun j => j ≤ l.length ∧ ixF (isHo g) (l.drop j) j = ixF (isHo g) l 0) (fun j => l.length - j)
      0 [0] (by simp) rfl ⟨by simp, by simp⟩ (by simp -implicitDefEqProofs only [kpp,Env.get,x01,x00,x02,x03,List.map,x08,x09,↓reduceIte,reduceCtorEq,Nat.reduceEqDiff,Nat.reduceLeDiff,Nat.reduceLT,Nat.reduceAdd,x0j,x0l,x0m,x0n,x0o,Int.cast_ofNat_Int,x0p,x0i,x07,x06,x0q,x0r,x0s,x0t,x0d,x0u]) (by simp -implicitDefEqProofs only [kpp,Env.get,x01,x00,x02,x03,List.map,x08,x09,↓reduceIte,reduceCtorEq,Nat.reduceEqDiff,Nat.reduceLeDiff,Nat.reduceLT,Nat.reduceAdd,x0j,x0l,x0m,x0n,x0o,Int.cast_ofNat_Int,x0p,x0i,x07,x06,x0q,x0r,x0s,x0t,x0d,x0u]) ?_
    rintro j ⟨hj, hr⟩
    unfold c55_1
    simp -implicitDefEqProofs only [vmp,↓vmd,Env.get,putD,argEnv,List.map,x00,x01,x02,x03,x04,x05,x06,x07,List.take,List.drop,x08,x09,x0a,x0b,List.isEmpty,↓reduceIte,reduceCtorEq,Nat.reduceEqDiff,Nat.reduceAdd,Nat.reduceLeDiff,x0c,Int.reduceNeg,Nat.reduceMul,Nat.reduceSub,x0d,x0e,x0f,x0g,x0h,x0i,x0j,x0k,Int.reduceEq,Int.reduceLT,Int.reduceLE,Int.reduceToNat,Int.cast_ofNat_Int,List.reduceReplicate]
    refine onB_dec (fun h1 => ?_) (fun h1 => ?_)
    · have hlt : j < l.length := by omega
      rw [drop_at hlt, ixF] at hr
      simp -implicitDefEqProofs only [h1, map_at hlt, Int.natCast_nonneg, vmp,↓vmd,Env.get,putD,argEnv,List.map,x00,x01,x02,x03,x04,x05,x06,x07,List.take,List.drop,x08,x09,x0a,x0b,List.isEmpty,↓reduceIte,reduceCtorEq,Nat.reduceEqDiff,Nat.reduceAdd,Nat.reduceLeDiff,x0c,Int.reduceNeg,Nat.reduceMul,Nat.reduceSub,x0d,x0e,x0f,x0g,x0h,x0i,x0j,x0k,Int.reduceEq,Int.reduceLT,Int.reduceLE,Int.reduceToNat,Int.cast_ofNat_Int,List.reduceReplicate]
      refine onC_fr (ishost_c g l[j]) [0] (by simp) (by simp -implicitDefEqProofs only [kpp,Env.get,x01,x00,x02,x03,List.map,x08,x09,↓reduceIte,reduceCtorEq,Nat.reduceEqDiff,Nat.reduceLeDiff,Nat.reduceLT,Nat.reduceAdd,x0j,x0l,x0m,x0n,x0o,Int.cast_ofNat_Int,x0p,x0i,x07,x06,x0q,x0r,x0s,x0t,x0d,x0u]) rfl rfl (by simp) ?_
      first | refine envO (by simp -implicitDefEqProofs only [vmp,↓vmd,Env.get,putD,argEnv,List.map,x00,x01,x02,x03,x04,x05,x06,x07,List.take,List.drop,x08,x09,x0a,x0b,List.isEmpty,↓reduceIte,reduceCtorEq,Nat.reduceEqDiff,Nat.reduceAdd,Nat.reduceLeDiff,x0c,Int.reduceNeg,Nat.reduceMul,Nat.reduceSub,x0d,x0e,x0f,x0g,x0h,x0i,x0j,x0k,Int.reduceEq,Int.reduceLT,Int.reduceLE,Int.reduceToNat,Int.cast_ofNat_Int,List.reduceReplicate]; rfl) ?_ | refine envQ (by simp -implicitDefEqProofs only [vmp,↓vmd,Env.get,putD,argEnv,List.map,x00,x01,x02,x03,x04,x05,x06,x07,List.take,List.drop,x08,x09,x0a,x0b,List.isEmpty,↓reduceIte,reduceCtorEq,Nat.reduceEqDiff,Nat.reduceAdd,Nat.reduceLeDiff,x0c,Int.reduceNeg,Nat.reduceMul,Nat.reduceSub,x0d,x0e,x0f,x0g,x0h,x0i,x0j,x0k,Int.reduceEq,Int.reduceLT,Int.reduceLE,Int.reduceToNat,Int.cast_ofNat_Int,List.reduceReplicate]; rfl) ?_
      simp -implicitDefEqProofs only [vmp,↓vmd,Env.get,putD,argEnv,List.map,x00,x01,x02,x03,x04,x05,x06,x07,List.take,List.drop,x08,x09,x0a,x0b,List.isEmpty,↓reduceIte,reduceCtorEq,Nat.reduceEqDiff,Nat.reduceAdd,Nat.reduceLeDiff,x0c,Int.reduceNeg,Nat.reduceMul,Nat.reduceSub,x0d,x0e,x0f,x0g,x0h,x0i,x0j,x0k,Int.reduceEq,Int.reduceLT,Int.reduceLE,Int.reduceToNat,Int.cast_ofNat_Int,List.reduceReplicate]
      refine onB_intro (fun h2 => ?_) (fun h2 => ?_)
      · rw [if_pos h2] at hr
        simp -implicitDefEqProofs only [h2, vmp,↓vmd,Env.get,putD,argEnv,List.map,x00,x01,x02,x03,x04,x05,x06,x07,List.take,List.drop,x08,x09,x0a,x0b,List.isEmpty,↓reduceIte,reduceCtorEq,Nat.reduceEqDiff,Nat.reduceAdd,Nat.reduceLeDiff,x0c,Int.reduceNeg,Nat.reduceMul,Nat.reduceSub,x0d,x0e,x0f,x0g,x0h,x0i,x0j,x0k,Int.reduceEq,Int.reduceLT,Int.reduceLE,Int.reduceToNat,Int.cast_ofNat_Int,List.reduceReplicate]
        rw [hr]
        exact ⟨rfl, _, rfl⟩
      · rw [if_neg (by rw [h2]; simp)] at hr
        simp -implicitDefEqProofs only [h2, vmp,↓vmd,Env.get,putD,argEnv,List.map,x00,x01,x02,x03,x04,x05,x06,x07,List.take,List.drop,x08,x09,x0a,x0b,List.isEmpty,↓reduceIte,reduceCtorEq,Nat.reduceEqDiff,Nat.reduceAdd,Nat.reduceLeDiff,x0c,Int.reduceNeg,Nat.reduceMul,Nat.reduceSub,x0d,x0e,x0f,x0g,x0h,x0i,x0j,x0k,Int.reduceEq,Int.reduceLT,Int.reduceLE,Int.reduceToNat,Int.cast_ofNat_Int,List.reduceReplicate]
        refine onBk_to (j + 1) [0] (by simp) rfl (by omega) ⟨hlt, hr⟩ (by simp -implicitDefEqProofs only [next_at hlt (by omega), kpp,Env.get,x01,x00,x02,x03,List.map,x08,x09,↓reduceIte,reduceCtorEq,Nat.reduceEqDiff,Nat.reduceLeDiff,Nat.reduceLT,Nat.reduceAdd,x0j,x0l,x0m,x0n,x0o,Int.cast_ofNat_Int,x0p,x0i,x07,x06,x0q,x0r,x0s,x0t,x0d,x0u]) (by simp -implicitDefEqProofs only [kpp,Env.get,x01,x00,x02,x03,List.map,x08,x09,↓reduceIte,reduceCtorEq,Nat.reduceEqDiff,Nat.reduceLeDiff,Nat.reduceLT,Nat.reduceAdd,x0j,x0l,x0m,x0n,x0o,Int.cast_ofNat_Int,x0p,x0i,x07,x06,x0q,x0r,x0s,x0t,x0d,x0u])
    · rw [List.drop_of_length_le (by omega), ixF] at hr
      simp -implicitDefEqProofs only [h1, vmp,↓vmd,Env.get,putD,argEnv,List.map,x00,x01,x02,x03,x04,x05,x06,x07,List.take,List.drop,x08,x09,x0a,x0b,List.isEmpty,↓reduceIte,reduceCtorEq,Nat.reduceEqDiff,Nat.reduceAdd,Nat.reduceLeDiff,x0c,Int.reduceNeg,Nat.reduceMul,Nat.reduceSub,x0d,x0e,x0f,x0g,x0h,x0i,x0j,x0k,Int.reduceEq,Int.reduceLT,Int.reduceLE,Int.reduceToNat,Int.cast_ofNat_Int,List.reduceReplicate]
      unfold c55_0
      simp -implicitDefEqProofs only [vmp,↓vmd,Env.get,putD,argEnv,List.map,x00,x01,x02,x03,x04,x05,x06,x07,List.take,List.drop,x08,x09,x0a,x0b,List.isEmpty,↓reduceIte,reduceCtorEq,Nat.reduceEqDiff,Nat.reduceAdd,Nat.reduceLeDiff,x0c,Int.reduceNeg,Nat.reduceMul,Nat.reduceSub,x0d,x0e,x0f,x0g,x0h,x0i,x0j,x0k,Int.reduceEq,Int.reduceLT,Int.reduceLE,Int.reduceToNat,Int.cast_ofNat_Int,List.reduceReplicate]
      rw [← hr]
      exact ⟨rfl, _, rfl⟩
  · rintro r H' ⟨rfl, R, rfl⟩
    exact ⟨[0], _, _, by simp, rfl, (by simp -implicitDefEqProofs only [kpp,Env.get,x01,x00,x02,x03,List.map,x08,x09,↓reduceIte,reduceCtorEq,Nat.reduceEqDiff,Nat.reduceLeDiff,Nat.reduceLT,Nat.reduceAdd,x0j,x0l,x0m,x0n,x0o,Int.cast_ofNat_Int,x0p,x0i,x07,x06,x0q,x0r,x0s,x0t,x0d,x0u]), (by simp -implicitDefEqProofs only [kpp,Env.get,x01,x00,x02,x03,List.map,x08,x09,↓reduceIte,reduceCtorEq,Nat.reduceEqDiff,Nat.reduceLeDiff,Nat.reduceLT,Nat.reduceAdd,x0j,x0l,x0m,x0n,x0o,Int.cast_ofNat_Int,x0p,x0i,x07,x06,x0q,x0r,x0s,x0t,x0d,x0u]), rfl, rfl⟩
theorem ixmk_c (g : Gl) (l : List Mk) (hl : l.length ≤ 1000) : CallA Try.prog 59 [.pure (.sl (l.map mk)), .func (.func 60) [] [.ptr 0 0 0]] [⟨[.pure (gl g)], 10, .live⟩]
    fun r H' => r = .pure (I (ixF (isMk g.id) l 0)) ∧ H' = [⟨[.pure (gl g)], 10, .live⟩] := by
  refine CallA.weak (K := fun r H' => r = .pure (I (ixF (isMk g.id) l 0)) ∧ ∃ R, H' = ⟨[.pure (gl g)], 10, .live⟩ :: R) ?_ ?_
  · refine a59 (by simp) ?_
    unfold c59
    simp -implicitDefEqProofs only [*, vmp,↓vmd,Env.get,putD,argEnv,List.map,x00,x01,x02,x03,x04,x05,x06,x07,List.take,List.drop,x08,x09,x0a,x0b,List.isEmpty,↓reduceIte,reduceCtorEq,Nat.reduceEqDiff,Nat.reduceAdd,Nat.reduceLeDiff,x0c,Int.reduceNeg,Nat.reduceMul,Nat.reduceSub,x0d,x0e,x0f,x0g,x0h,x0i,x0j,x0k,Int.reduceEq,Int.reduceLT,Int.reduceLE,Int.reduceToNat,Int.cast_ofNat_Int,List.reduceReplicate]
    refine onIf_intro fun _ => ?_
    simp -implicitDefEqProofs only [*, vmp,↓vmd,Env.get,putD,argEnv,List.map,x00,x01,x02,x03,x04,x05,x06,x07,List.take,List.drop,x08,x09,x0a,x0b,List.isEmpty,↓reduceIte,reduceCtorEq,Nat.reduceEqDiff,Nat.reduceAdd,Nat.reduceLeDiff,x0c,Int.reduceNeg,Nat.reduceMul,Nat.reduceSub,x0d,x0e,x0f,x0g,x0h,x0i,x0j,x0k,Int.reduceEq,Int.reduceLT,Int.reduceLE,Int.reduceToNat,Int.cast_ofNat_Int,List.reduceReplicate]
    refine loop_at (T := Nat) (fun j => [(8, .pure (I j)), (7, .pure (I l.length)), (0, .pure (.sl (l.map mk))), (1, .func (.func 60) [] [.ptr 0 0 0])]) (fun _ => [⟨[.pure (gl g)], 10, .live⟩])
      (fun j => j ≤ l.length ∧ ixF (isMk g.id) (l.drop j) j = ixF (isMk g.id) l 0) (fun j => l.length - j)
      0 [0] (by simp) rfl ⟨by simp, by simp⟩ (by simp -implicitDefEqProofs only [kpp,Env.get,x01,x00,x02,x03,List.map,x08,x09,↓reduceIte,reduceCtorEq,Nat.reduceEqDiff,Nat.reduceLeDiff,Nat.reduceLT,Nat.reduceAdd,x0j,x0l,x0m,x0n,x0o,Int.cast_ofNat_Int,x0p,x0i,x07,x06,x0q,x0r,x0s,x0t,x0d,x0u]) (by simp -implicitDefEqProofs only [kpp,Env.get,x01,x00,x02,x03,List.map,x08,x09,↓reduceIte,reduceCtorEq,Nat.reduceEqDiff,Nat.reduceLeDiff,Nat.reduceLT,Nat.reduceAdd,x0j,x0l,x0m,x0n,x0o,Int.cast_ofNat_Int,x0p,x0i,x07,x06,x0q,x0r,x0s,x0t,x0d,x0u]) ?_
    rintro j ⟨hj, hr⟩
    unfold c59_1
    simp -implicitDefEqProofs only [vmp,↓vmd,Env.get,putD,argEnv,List.map,x00,x01,x02,x03,x04,x05,x06,x07,List.take,List.drop,x08,x09,x0a,x0b,List.isEmpty,↓reduceIte,reduceCtorEq,Nat.reduceEqDiff,Nat.reduceAdd,Nat.reduceLeDiff,x0c,Int.reduceNeg,Nat.reduceMul,Nat.reduceSub,x0d,x0e,x0f,x0g,x0h,x0i,x0j,x0k,Int.reduceEq,Int.reduceLT,Int.reduceLE,Int.reduceToNat,Int.cast_ofNat_Int,List.reduceReplicate]
    refine onB_dec (fun h1 => ?_) (fun h1 => ?_)
    · have hlt : j < l.length := by omega
      rw [drop_at hlt, ixF] at hr
      simp -implicitDefEqProofs only [h1, map_at hlt, Int.natCast_nonneg, vmp,↓vmd,Env.get,putD,argEnv,List.map,x00,x01,x02,x03,x04,x05,x06,x07,List.take,List.drop,x08,x09,x0a,x0b,List.isEmpty,↓reduceIte,reduceCtorEq,Nat.reduceEqDiff,Nat.reduceAdd,Nat.reduceLeDiff,x0c,Int.reduceNeg,Nat.reduceMul,Nat.reduceSub,x0d,x0e,x0f,x0g,x0h,x0i,x0j,x0k,Int.reduceEq,Int.reduceLT,Int.reduceLE,Int.reduceToNat,Int.cast_ofNat_Int,List.reduceReplicate]
      refine onC_fr (ismark_c g l[j]) [0] (by simp) (by simp -implicitDefEqProofs only [kpp,Env.get,x01,x00,x02,x03,List.map,x08,x09,↓reduceIte,reduceCtorEq,Nat.reduceEqDiff,Nat.reduceLeDiff,Nat.reduceLT,Nat.reduceAdd,x0j,x0l,x0m,x0n,x0o,Int.cast_ofNat_Int,x0p,x0i,x07,x06,x0q,x0r,x0s,x0t,x0d,x0u]) rfl rfl (by simp) ?_
      first | refine envO (by simp -implicitDefEqProofs only [vmp,↓vmd,Env.get,putD,argEnv,List.map,x00,x01,x02,x03,x04,x05,x06,x07,List.take,List.drop,x08,x09,x0a,x0b,List.isEmpty,↓reduceIte,reduceCtorEq,Nat.reduceEqDiff,Nat.reduceAdd,Nat.reduceLeDiff,x0c,Int.reduceNeg,Nat.reduceMul,Nat.reduceSub,x0d,x0e,x0f,x0g,x0h,x0i,x0j,x0k,Int.reduceEq,Int.reduceLT,Int.reduceLE,Int.reduceToNat,Int.cast_ofNat_Int,List.reduceReplicate]; rfl) ?_ | refine envQ (by simp -implicitDefEqProofs only [vmp,↓vmd,Env.get,putD,argEnv,List.map,x00,x01,x02,x03,x04,x05,x06,x07,List.take,List.drop,x08,x09,x0a,x0b,List.isEmpty,↓reduceIte,reduceCtorEq,Nat.reduceEqDiff,Nat.reduceAdd,Nat.reduceLeDiff,x0c,Int.reduceNeg,Nat.reduceMul,Nat.reduceSub,x0d,x0e,x0f,x0g,x0h,x0i,x0j,x0k,Int.reduceEq,Int.reduceLT,Int.reduceLE,Int.reduceToNat,Int.cast_ofNat_Int,List.reduceReplicate]; rfl) ?_
      simp -implicitDefEqProofs only [vmp,↓vmd,Env.get,putD,argEnv,List.map,x00,x01,x02,x03,x04,x05,x06,x07,List.take,List.drop,x08,x09,x0a,x0b,List.isEmpty,↓reduceIte,reduceCtorEq,Nat.reduceEqDiff,Nat.reduceAdd,Nat.reduceLeDiff,x0c,Int.reduceNeg,Nat.reduceMul,Nat.reduceSub,x0d,x0e,x0f,x0g,x0h,x0i,x0j,x0k,Int.reduceEq,Int.reduceLT,Int.reduceLE,Int.reduceToNat,Int.cast_ofNat_Int,List.reduceReplicate]
      refine onB_intro (fun h2 => ?_) (fun h2 => ?_)
      · rw [if_pos h2] at hr
        simp -implicitDefEqProofs only [h2, vmp,↓vmd,Env.get,putD,argEnv,List.map,x00,x01,x02,x03,x04,x05,x06,x07,List.take,List.drop,x08,x09,x0a,x0b,List.isEmpty,↓reduceIte,reduceCtorEq,Nat.reduceEqDiff,Nat.reduceAdd,Nat.reduceLeDiff,x0c,Int.reduceNeg,Nat.reduceMul,Nat.reduceSub,x0d,x0e,x0f,x0g,x0h,x0i,x0j,x0k,Int.reduceEq,Int.reduceLT,Int.reduceLE,Int.reduceToNat,Int.cast_ofNat_Int,List.reduceReplicate]
        rw [hr]
        exact ⟨rfl, _, rfl⟩
      · rw [if_neg (by rw [h2]; simp)] at hr
        simp -implicitDefEqProofs only [h2, vmp,↓vmd,Env.get,putD,argEnv,List.map,x00,x01,x02,x03,x04,x05,x06,x07,List.take,List.drop,x08,x09,x0a,x0b,List.isEmpty,↓reduceIte,reduceCtorEq,Nat.reduceEqDiff,Nat.reduceAdd,Nat.reduceLeDiff,x0c,Int.reduceNeg,Nat.reduceMul,Nat.reduceSub,x0d,x0e,x0f,x0g,x0h,x0i,x0j,x0k,Int.reduceEq,Int.reduceLT,Int.reduceLE,Int.reduceToNat,Int.cast_ofNat_Int,List.reduceReplicate]
        refine onBk_to (j + 1) [0] (by simp) rfl (by omega) ⟨hlt, hr⟩ (by simp -implicitDefEqProofs only [next_at hlt (by omega), kpp,Env.get,x01,x00,x02,x03,List.map,x08,x09,↓reduceIte,reduceCtorEq,Nat.reduceEqDiff,Nat.reduceLeDiff,Nat.reduceLT,Nat.reduceAdd,x0j,x0l,x0m,x0n,x0o,Int.cast_ofNat_Int,x0p,x0i,x07,x06,x0q,x0r,x0s,x0t,x0d,x0u]) (by simp -implicitDefEqProofs only [kpp,Env.get,x01,x00,x02,x03,List.map,x08,x09,↓reduceIte,reduceCtorEq,Nat.reduceEqDiff,Nat.reduceLeDiff,Nat.reduceLT,Nat.reduceAdd,x0j,x0l,x0m,x0n,x0o,Int.cast_ofNat_Int,x0p,x0i,x07,x06,x0q,x0r,x0s,x0t,x0d,x0u])
    · rw [List.drop_of_length_le (by omega), ixF] at hr
      simp -implicitDefEqProofs only [h1, vmp,↓vmd,Env.get,putD,argEnv,List.map,x00,x01,x02,x03,x04,x05,x06,x07,List.take,List.drop,x08,x09,x0a,x0b,List.isEmpty,↓reduceIte,reduceCtorEq,Nat.reduceEqDiff,Nat.reduceAdd,Nat.reduceLeDiff,x0c,Int.reduceNeg,Nat.reduceMul,Nat.reduceSub,x0d,x0e,x0f,x0g,x0h,x0i,x0j,x0k,Int.reduceEq,Int.reduceLT,Int.reduceLE,Int.reduceToNat,Int.cast_ofNat_Int,List.reduceReplicate]
      unfold c59_0
      simp -implicitDefEqProofs only [vmp,↓vmd,Env.get,putD,argEnv,List.map,x00,x01,x02,x03,x04,x05,x06,x07,List.take,List.drop,x08,x09,x0a,x0b,List.isEmpty,↓reduceIte,reduceCtorEq,Nat.reduceEqDiff,Nat.reduceAdd,Nat.reduceLeDiff,x0c,Int.reduceNeg,Nat.reduceMul,Nat.reduceSub,x0d,x0e,x0f,x0g,x0h,x0i,x0j,x0k,Int.reduceEq,Int.reduceLT,Int.reduceLE,Int.reduceToNat,Int.cast_ofNat_Int,List.reduceReplicate]
      rw [← hr]
      exact ⟨rfl, _, rfl⟩
  · rintro r H' ⟨rfl, R, rfl⟩
    exact ⟨[0], _, _, by simp, rfl, (by simp -implicitDefEqProofs only [kpp,Env.get,x01,x00,x02,x03,List.map,x08,x09,↓reduceIte,reduceCtorEq,Nat.reduceEqDiff,Nat.reduceLeDiff,Nat.reduceLT,Nat.reduceAdd,x0j,x0l,x0m,x0n,x0o,Int.cast_ofNat_Int,x0p,x0i,x07,x06,x0q,x0r,x0s,x0t,x0d,x0u]), (by simp -implicitDefEqProofs only [kpp,Env.get,x01,x00,x02,x03,List.map,x08,x09,↓reduceIte,reduceCtorEq,Nat.reduceEqDiff,Nat.reduceLeDiff,Nat.reduceLT,Nat.reduceAdd,x0j,x0l,x0m,x0n,x0o,Int.cast_ofNat_Int,x0p,x0i,x07,x06,x0q,x0r,x0s,x0t,x0d,x0u]), rfl, rfl⟩
end Go.Proofs.Ytbllbkhkmngclaa.W
