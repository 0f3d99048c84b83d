/-
  Contexts that are done: one nest, all nests. No condition but on sizes, and on what does a lookup.
-/
import Derived.Test.YtbllbkhkmngclaaCtxP
import Derived.Test.YtbllbkhkmngclaaCloneG
import Derived.Test.YtbllbkhkmngclaaSame29
namespace Go.Proofs.Ytbllbkhkmngclaa.W
open Go Go.Vm Go.Proofs
set_option maxRecDepth 100000
set_option linter.unusedSimpArgs false
set_option maxHeartbeats 4000000
/-! (*typecase/context.work).nest -/
def c64 : AC :=
  (.seq (.reg [⟨some 3, none, .box (.s 1)⟩])
  (.seq (.seq (.regq [⟨some 7, none, .fldA 0 (.s 3)⟩,
    ⟨some 8, none, .load false 1 (.s 7)⟩,
    ⟨some 9, none, .bin .lss (.s 8) (.c (.pure (.int .i64 0)))⟩,
    ⟨some 10, none, .mov (.s 9)⟩,
    ⟨some 11, some (10, false), .fldA 0 (.s 3)⟩,
    ⟨some 12, some (10, false), .load false 1 (.s 11)⟩,
    ⟨some 13, some (10, false), .mov (.s 0)⟩,
    ⟨some 14, some (10, false), .nilck (.s 13)⟩,
    ⟨some 15, some (10, false), .fldA 2 (.s 14)⟩,
    ⟨some 16, some (10, false), .load false 1 (.s 15)⟩,
    ⟨some 17, some (10, false), .len (.s 16)⟩]
    [⟨some 18, some (10, false), .bin .geq (.s 12) (.s 17)⟩,
    ⟨some 19, none, .pick (.s 10) (.c (.pure (.bool true))) (.s 18)⟩])
  (.cond (.s 19)
  .ret
  .skip))
  (.seq (.regq [⟨some 20, none, .mov (.s 0)⟩,
    ⟨some 21, none, .nilck (.s 20)⟩,
    ⟨some 22, none, .fldA 2 (.s 21)⟩,
    ⟨some 23, none, .load false 1 (.s 22)⟩,
    ⟨some 24, none, .fldA 0 (.s 3)⟩,
    ⟨some 25, none, .load false 1 (.s 24)⟩]
    [⟨some 26, none, .idxA 1 (.s 23) (.s 25)⟩,
    ⟨some 27, none, .load false 1 (.s 26)⟩,
    ⟨some 4, none, .mov (.s 27)⟩])
  (.seq (.seq (.reg [⟨some 28, none, .mov (.s 4)⟩,
    ⟨some 29, none, .bin .lss (.s 28) (.c (.pure (.int .i64 0)))⟩,
    ⟨some 30, none, .mov (.s 29)⟩,
    ⟨some 31, some (30, false), .mov (.s 4)⟩,
    ⟨some 32, some (30, false), .mov (.s 0)⟩,
    ⟨some 33, some (30, false), .nilck (.s 32)⟩,
    ⟨some 34, some (30, false), .fldA 1 (.s 33)⟩,
    ⟨some 35, some (30, false), .load false 1 (.s 34)⟩,
    ⟨some 36, some (30, false), .len (.s 35)⟩,
    ⟨some 37, some (30, false), .bin .geq (.s 31) (.s 36)⟩,
    ⟨some 38, none, .pick (.s 30) (.c (.pure (.bool true))) (.s 37)⟩])
  (.cond (.s 38)
  .ret
  .skip))
  (.seq (.regq [⟨some 40, none, .mov (.s 0)⟩,
    ⟨some 41, none, .nilck (.s 40)⟩,
    ⟨some 42, none, .fldA 0 (.s 41)⟩,
    ⟨some 43, none, .load false 1 (.s 42)⟩,
    ⟨some 44, none, .mov (.s 0)⟩,
    ⟨some 45, none, .nilck (.s 44)⟩,
    ⟨some 46, none, .fldA 1 (.s 45)⟩,
    ⟨some 47, none, .load false 1 (.s 46)⟩,
    ⟨some 48, none, .fldA 1 (.s 3)⟩,
    ⟨some 49, none, .load false 1 (.s 48)⟩,
    ⟨some 50, none, .mov (.s 4)⟩,
    ⟨some 51, none, .callv (.s 43) [(.s 47), (.s 49), (.s 50)]⟩,
    ⟨some 39, none, .mov (.s 51)⟩,
    ⟨some 52, none, .ext 0 (.s 39)⟩,
    ⟨some 53, none, .ext 1 (.s 39)⟩,
    ⟨some 5, none, .mov (.s 52)⟩]
    [⟨some 6, none, .mov (.s 53)⟩])
  (.seq (.reg [⟨some 54, none, .mov (.s 6)⟩])
  (.cond (.s 54)
  (.seq (.regq [⟨some 55, none, .mov (.s 0)⟩,
    ⟨some 56, none, .mov (.s 0)⟩,
    ⟨some 57, none, .nilck (.s 56)⟩,
    ⟨some 58, none, .fldA 2 (.s 57)⟩,
    ⟨some 59, none, .load false 1 (.s 58)⟩,
    ⟨some 60, none, .mov (.s 4)⟩,
    ⟨some 61, none, .mov (.s 0)⟩,
    ⟨some 62, none, .nilck (.s 61)⟩,
    ⟨some 63, none, .fldA 1 (.s 62)⟩,
    ⟨some 64, none, .load false 1 (.s 63)⟩,
    ⟨some 65, none, .len (.s 64)⟩,
    ⟨some 66, none, .mov (.s 5)⟩,
    ⟨some 67, none, .len (.s 66)⟩,
    ⟨some 68, none, .call 88 [(.s 59), (.s 60), (.s 65), (.s 67)]⟩]
    [⟨some 69, none, .nilck (.s 55)⟩,
    ⟨some 70, none, .fldA 2 (.s 69)⟩,
    ⟨none, none, .store 1 (.s 70) (.s 68)⟩])
  (.reg [⟨some 71, none, .mov (.s 0)⟩,
    ⟨some 72, none, .mov (.s 5)⟩,
    ⟨some 73, none, .nilck (.s 71)⟩,
    ⟨some 74, none, .fldA 1 (.s 73)⟩,
    ⟨none, none, .store 1 (.s 74) (.s 72)⟩]))
  .skip)))))))
theorem k64 : (Try.f64.body.bind fun c => cCode Try.prog Try.f64.ntmps RCs c) = some c64 := by kernel_rfl
theorem h64 : (Try.f64.name == "runtime.NumGoroutine") = false := by kernel_rfl
theorem r64 : resC Try.prog Try.f64.results.toList = some [] := by kernel_rfl
theorem a64 {args : List S} {H : Heap} {K : S → Heap → Prop} (hn : args.length ≤ 75) (h : aWx Try.prog H.length c64 (PostX [] K) (argEnv 0 args) H) : CallA Try.prog 64 args H K :=
  callA_of_x mixed Try.func64 h64 k64 r64 (by rw [Try.ntmps64]; exact hn) h
theorem q64 {vs ds : List V} (hn : vs.length ≤ 75) (h : aWx Try.prog 0 c64 (PostX [] (Gives ds)) (argEnv 0 (vs.map .pure)) []) : FnQ Try.prog 64 vs ds :=
  fnQ_of_call (a64 (by simpa using hn) h)

theorem cloneG_q (l : List Gl) (hl : l.length ≤ 1000) : FnQ Try.prog 61 [.sl (l.map gl)] [.sl (l.map gl)] :=
  fnQ_of_call ((cloneG_c l hl).mono fun s H' h => by
    obtain ⟨rfl, rfl⟩ := h
    exact gives_row (st := .live) rfl (by simp))
/-- a doing's contract -/
structure DoingQ (F : Nat) (D : Doing) : Prop where
  q : ∀ (l : List Gl) (a b : Int), l.length ≤ 1000 → FnQ Try.prog F [.sl (l.map gl), I a, I b] (doR (D l a b))
  len : ∀ l a b l', D l a b = some l' → l'.length ≤ l.length + 2
theorem DoingQ.two {F : Nat} {D : Doing} (h : DoingQ F D) (l : List Gl) (a b : Int) (hl : l.length ≤ 1000) : (FnQ Try.prog F [.sl (l.map gl), I a, I b] [.sl [], .bool false] ∧ D l a b = none) ∨ ∃ l', FnQ Try.prog F [.sl (l.map gl), I a, I b] [.sl (l'.map gl), .bool true] ∧ D l a b = some l' ∧ l'.length ≤ l.length + 2 := by
  have hq := h.q l a b hl
  cases hc : D l a b with
  | none =>
    rw [hc] at hq
    exact .inl ⟨hq, rfl⟩
  | some l' =>
    rw [hc] at hq
    exact .inr ⟨l', hq, rfl, h.len _ _ _ _ hc⟩
abbrev wk (F : Nat) (w : List Gl × List Int) : V := .agg [.func (.func F) [] [], .sl (w.1.map gl), LI w.2]
theorem nest_c (F : Nat) (D : Doing) (hD : DoingQ F D) (w : List Gl × List Int) (h1 : w.1.length ≤ 900) (h2 : w.2.length ≤ 900) (n : Ns) : CallA Try.prog 64 [.ptr 0 0 0, .pure (ns n)] [⟨[.pure (wk F w)], 3, .live⟩]
    fun s H' => s = .tup [] ∧ H' = [⟨[.pure (wk F (stepN D w n))], 3, .live⟩] := by
  refine CallA.weak (K := fun s H' => s = .tup [] ∧ ∃ R, H' = ⟨[.pure (wk F (stepN D w n))], 3, .live⟩ :: R) ?_ ?_
  · refine a64 (by simp) ?_
    unfold c64
    obtain ⟨l, ps⟩ := w
    simp only at h1 h2
    simp -implicitDefEqProofs only [*, vmp,↓vmd,Env.get,putD,argEnv,List.map,x00,x01,x02,x03,x04,x05,x06,x07,List.take,List.drop,x08,x09,x0a,x0b,List.isEmpty,↓reduceIte,reduceCtorEq,Nat.reduceEqDiff,Nat.reduceAdd,Nat.reduceLeDiff,x0c,Int.reduceNeg,Nat.reduceMul,Nat.reduceSub,x0d,x0e,x0f,x0g,x0h,x0i,x0j,x0k,Int.reduceEq,Int.reduceLT,Int.reduceLE,Int.reduceToNat,Int.cast_ofNat_Int,List.reduceReplicate]
    generalize hv : stepN D (l, ps) n = v
    rw [stepN] at hv
    by_cases n0 : n.at_ < 0
    · rw [if_pos (.inl n0)] at hv
      subst hv
      simp -implicitDefEqProofs only [n0, vmp,↓vmd,Env.get,putD,argEnv,List.map,x00,x01,x02,x03,x04,x05,x06,x07,List.take,List.drop,x08,x09,x0a,x0b,List.isEmpty,↓reduceIte,reduceCtorEq,Nat.reduceEqDiff,Nat.reduceAdd,Nat.reduceLeDiff,x0c,Int.reduceNeg,Nat.reduceMul,Nat.reduceSub,x0d,x0e,x0f,x0g,x0h,x0i,x0j,x0k,Int.reduceEq,Int.reduceLT,Int.reduceLE,Int.reduceToNat,Int.cast_ofNat_Int,List.reduceReplicate]
      exact ⟨_, rfl⟩
    simp -implicitDefEqProofs only [n0, vmp,↓vmd,Env.get,putD,argEnv,List.map,x00,x01,x02,x03,x04,x05,x06,x07,List.take,List.drop,x08,x09,x0a,x0b,List.isEmpty,↓reduceIte,reduceCtorEq,Nat.reduceEqDiff,Nat.reduceAdd,Nat.reduceLeDiff,x0c,Int.reduceNeg,Nat.reduceMul,Nat.reduceSub,x0d,x0e,x0f,x0g,x0h,x0i,x0j,x0k,Int.reduceEq,Int.reduceLT,Int.reduceLE,Int.reduceToNat,Int.cast_ofNat_Int,List.reduceReplicate]
    by_cases n1 : (ps.length : Int) ≤ n.at_
    · rw [if_pos (.inr n1)] at hv
      subst hv
      simp -implicitDefEqProofs only [n0, n1, vmp,↓vmd,Env.get,putD,argEnv,List.map,x00,x01,x02,x03,x04,x05,x06,x07,List.take,List.drop,x08,x09,x0a,x0b,List.isEmpty,↓reduceIte,reduceCtorEq,Nat.reduceEqDiff,Nat.reduceAdd,Nat.reduceLeDiff,x0c,Int.reduceNeg,Nat.reduceMul,Nat.reduceSub,x0d,x0e,x0f,x0g,x0h,x0i,x0j,x0k,Int.reduceEq,Int.reduceLT,Int.reduceLE,Int.reduceToNat,Int.cast_ofNat_Int,List.reduceReplicate]
      exact ⟨_, rfl⟩
    have m0 : 0 ≤ n.at_ := by omega
    have m1 : n.at_ < ps.length := by omega
    have hp := intAt_map m0 m1
    rw [if_neg (by simp only; omega)] at hv
    simp only at hv
    simp -implicitDefEqProofs only [n0, n1, m0, m1, hp, vmp,↓vmd,Env.get,putD,argEnv,List.map,x00,x01,x02,x03,x04,x05,x06,x07,List.take,List.drop,x08,x09,x0a,x0b,List.isEmpty,↓reduceIte,reduceCtorEq,Nat.reduceEqDiff,Nat.reduceAdd,Nat.reduceLeDiff,x0c,Int.reduceNeg,Nat.reduceMul,Nat.reduceSub,x0d,x0e,x0f,x0g,x0h,x0i,x0j,x0k,Int.reduceEq,Int.reduceLT,Int.reduceLE,Int.reduceToNat,Int.cast_ofNat_Int,List.reduceReplicate]
    generalize intAt ps n.at_ = p at *
    by_cases p0 : p < 0
    · rw [if_pos (.inl p0)] at hv
      subst hv
      simp -implicitDefEqProofs only [n0, p0, vmp,↓vmd,Env.get,putD,argEnv,List.map,x00,x01,x02,x03,x04,x05,x06,x07,List.take,List.drop,x08,x09,x0a,x0b,List.isEmpty,↓reduceIte,reduceCtorEq,Nat.reduceEqDiff,Nat.reduceAdd,Nat.reduceLeDiff,x0c,Int.reduceNeg,Nat.reduceMul,Nat.reduceSub,x0d,x0e,x0f,x0g,x0h,x0i,x0j,x0k,Int.reduceEq,Int.reduceLT,Int.reduceLE,Int.reduceToNat,Int.cast_ofNat_Int,List.reduceReplicate]
      exact ⟨_, rfl⟩
    simp -implicitDefEqProofs only [p0, vmp,↓vmd,Env.get,putD,argEnv,List.map,x00,x01,x02,x03,x04,x05,x06,x07,List.take,List.drop,x08,x09,x0a,x0b,List.isEmpty,↓reduceIte,reduceCtorEq,Nat.reduceEqDiff,Nat.reduceAdd,Nat.reduceLeDiff,x0c,Int.reduceNeg,Nat.reduceMul,Nat.reduceSub,x0d,x0e,x0f,x0g,x0h,x0i,x0j,x0k,Int.reduceEq,Int.reduceLT,Int.reduceLE,Int.reduceToNat,Int.cast_ofNat_Int,List.reduceReplicate]
    refine onIf_intro fun _ => ?_
    first | refine envO (by simp -implicitDefEqProofs only [vmp,↓vmd,Env.get,putD,argEnv,List.map,x00,x01,x02,x03,x04,x05,x06,x07,List.take,List.drop,x08,x09,x0a,x0b,List.isEmpty,↓reduceIte,reduceCtorEq,Nat.reduceEqDiff,Nat.reduceAdd,Nat.reduceLeDiff,x0c,Int.reduceNeg,Nat.reduceMul,Nat.reduceSub,x0d,x0e,x0f,x0g,x0h,x0i,x0j,x0k,Int.reduceEq,Int.reduceLT,Int.reduceLE,Int.reduceToNat,Int.cast_ofNat_Int,List.reduceReplicate]; rfl) ?_ | refine envQ (by simp -implicitDefEqProofs only [vmp,↓vmd,Env.get,putD,argEnv,List.map,x00,x01,x02,x03,x04,x05,x06,x07,List.take,List.drop,x08,x09,x0a,x0b,List.isEmpty,↓reduceIte,reduceCtorEq,Nat.reduceEqDiff,Nat.reduceAdd,Nat.reduceLeDiff,x0c,Int.reduceNeg,Nat.reduceMul,Nat.reduceSub,x0d,x0e,x0f,x0g,x0h,x0i,x0j,x0k,Int.reduceEq,Int.reduceLT,Int.reduceLE,Int.reduceToNat,Int.cast_ofNat_Int,List.reduceReplicate]; rfl) ?_
    by_cases p1 : (l.length : Int) ≤ p
    · rw [if_pos (.inr p1)] at hv
      subst hv
      simp -implicitDefEqProofs only [p0, p1, vmp,↓vmd,Env.get,putD,argEnv,List.map,x00,x01,x02,x03,x04,x05,x06,x07,List.take,List.drop,x08,x09,x0a,x0b,List.isEmpty,↓reduceIte,reduceCtorEq,Nat.reduceEqDiff,Nat.reduceAdd,Nat.reduceLeDiff,x0c,Int.reduceNeg,Nat.reduceMul,Nat.reduceSub,x0d,x0e,x0f,x0g,x0h,x0i,x0j,x0k,Int.reduceEq,Int.reduceLT,Int.reduceLE,Int.reduceToNat,Int.cast_ofNat_Int,List.reduceReplicate]
      exact ⟨_, rfl⟩
    rw [if_neg (by omega)] at hv
    simp -implicitDefEqProofs only [p0, p1, vmp,↓vmd,Env.get,putD,argEnv,List.map,x00,x01,x02,x03,x04,x05,x06,x07,List.take,List.drop,x08,x09,x0a,x0b,List.isEmpty,↓reduceIte,reduceCtorEq,Nat.reduceEqDiff,Nat.reduceAdd,Nat.reduceLeDiff,x0c,Int.reduceNeg,Nat.reduceMul,Nat.reduceSub,x0d,x0e,x0f,x0g,x0h,x0i,x0j,x0k,Int.reduceEq,Int.reduceLT,Int.reduceLE,Int.reduceToNat,Int.cast_ofNat_Int,List.reduceReplicate]
    have two := hD.two l n.lookup p (by omega)
    rcases two with ⟨hq', hc⟩ | ⟨l', hq', hc, hl'⟩
    · rw [hc] at hv
      simp only at hv
      subst hv
      refine onQ_q hq' rfl ?_
      first | refine envO (by simp -implicitDefEqProofs only [vmp,↓vmd,Env.get,putD,argEnv,List.map,x00,x01,x02,x03,x04,x05,x06,x07,List.take,List.drop,x08,x09,x0a,x0b,List.isEmpty,↓reduceIte,reduceCtorEq,Nat.reduceEqDiff,Nat.reduceAdd,Nat.reduceLeDiff,x0c,Int.reduceNeg,Nat.reduceMul,Nat.reduceSub,x0d,x0e,x0f,x0g,x0h,x0i,x0j,x0k,Int.reduceEq,Int.reduceLT,Int.reduceLE,Int.reduceToNat,Int.cast_ofNat_Int,List.reduceReplicate]; rfl) ?_ | refine envQ (by simp -implicitDefEqProofs only [vmp,↓vmd,Env.get,putD,argEnv,List.map,x00,x01,x02,x03,x04,x05,x06,x07,List.take,List.drop,x08,x09,x0a,x0b,List.isEmpty,↓reduceIte,reduceCtorEq,Nat.reduceEqDiff,Nat.reduceAdd,Nat.reduceLeDiff,x0c,Int.reduceNeg,Nat.reduceMul,Nat.reduceSub,x0d,x0e,x0f,x0g,x0h,x0i,x0j,x0k,Int.reduceEq,Int.reduceLT,Int.reduceLE,Int.reduceToNat,Int.cast_ofNat_Int,List.reduceReplicate]; rfl) ?_
      simp -implicitDefEqProofs only [vmp,↓vmd,Env.get,putD,argEnv,List.map,x00,x01,x02,x03,x04,x05,x06,x07,List.take,List.drop,x08,x09,x0a,x0b,List.isEmpty,↓reduceIte,reduceCtorEq,Nat.reduceEqDiff,Nat.reduceAdd,Nat.reduceLeDiff,x0c,Int.reduceNeg,Nat.reduceMul,Nat.reduceSub,x0d,x0e,x0f,x0g,x0h,x0i,x0j,x0k,Int.reduceEq,Int.reduceLT,Int.reduceLE,Int.reduceToNat,Int.cast_ofNat_Int,List.reduceReplicate]
      exact ⟨_, rfl⟩
    · rw [hc] at hv
      simp only at hv
      subst hv
      refine onQ_q hq' rfl ?_
      first | refine envO (by simp -implicitDefEqProofs only [vmp,↓vmd,Env.get,putD,argEnv,List.map,x00,x01,x02,x03,x04,x05,x06,x07,List.take,List.drop,x08,x09,x0a,x0b,List.isEmpty,↓reduceIte,reduceCtorEq,Nat.reduceEqDiff,Nat.reduceAdd,Nat.reduceLeDiff,x0c,Int.reduceNeg,Nat.reduceMul,Nat.reduceSub,x0d,x0e,x0f,x0g,x0h,x0i,x0j,x0k,Int.reduceEq,Int.reduceLT,Int.reduceLE,Int.reduceToNat,Int.cast_ofNat_Int,List.reduceReplicate]; rfl) ?_ | refine envQ (by simp -implicitDefEqProofs only [vmp,↓vmd,Env.get,putD,argEnv,List.map,x00,x01,x02,x03,x04,x05,x06,x07,List.take,List.drop,x08,x09,x0a,x0b,List.isEmpty,↓reduceIte,reduceCtorEq,Nat.reduceEqDiff,Nat.reduceAdd,Nat.reduceLeDiff,x0c,Int.reduceNeg,Nat.reduceMul,Nat.reduceSub,x0d,x0e,x0f,x0g,x0h,x0i,x0j,x0k,Int.reduceEq,Int.reduceLT,Int.reduceLE,Int.reduceToNat,Int.cast_ofNat_Int,List.reduceReplicate]; rfl) ?_
      simp -implicitDefEqProofs only [vmp,↓vmd,Env.get,putD,argEnv,List.map,x00,x01,x02,x03,x04,x05,x06,x07,List.take,List.drop,x08,x09,x0a,x0b,List.isEmpty,↓reduceIte,reduceCtorEq,Nat.reduceEqDiff,Nat.reduceAdd,Nat.reduceLeDiff,x0c,Int.reduceNeg,Nat.reduceMul,Nat.reduceSub,x0d,x0e,x0f,x0g,x0h,x0i,x0j,x0k,Int.reduceEq,Int.reduceLT,Int.reduceLE,Int.reduceToNat,Int.cast_ofNat_Int,List.reduceReplicate]
      refine onQ_q (moved_q ps p l.length l'.length (by omega)) rfl ?_
      first | refine envO (by simp -implicitDefEqProofs only [vmp,↓vmd,Env.get,putD,argEnv,List.map,x00,x01,x02,x03,x04,x05,x06,x07,List.take,List.drop,x08,x09,x0a,x0b,List.isEmpty,↓reduceIte,reduceCtorEq,Nat.reduceEqDiff,Nat.reduceAdd,Nat.reduceLeDiff,x0c,Int.reduceNeg,Nat.reduceMul,Nat.reduceSub,x0d,x0e,x0f,x0g,x0h,x0i,x0j,x0k,Int.reduceEq,Int.reduceLT,Int.reduceLE,Int.reduceToNat,Int.cast_ofNat_Int,List.reduceReplicate]; rfl) ?_ | refine envQ (by simp -implicitDefEqProofs only [vmp,↓vmd,Env.get,putD,argEnv,List.map,x00,x01,x02,x03,x04,x05,x06,x07,List.take,List.drop,x08,x09,x0a,x0b,List.isEmpty,↓reduceIte,reduceCtorEq,Nat.reduceEqDiff,Nat.reduceAdd,Nat.reduceLeDiff,x0c,Int.reduceNeg,Nat.reduceMul,Nat.reduceSub,x0d,x0e,x0f,x0g,x0h,x0i,x0j,x0k,Int.reduceEq,Int.reduceLT,Int.reduceLE,Int.reduceToNat,Int.cast_ofNat_Int,List.reduceReplicate]; rfl) ?_
      simp -implicitDefEqProofs only [vmp,↓vmd,Env.get,putD,argEnv,List.map,x00,x01,x02,x03,x04,x05,x06,x07,List.take,List.drop,x08,x09,x0a,x0b,List.isEmpty,↓reduceIte,reduceCtorEq,Nat.reduceEqDiff,Nat.reduceAdd,Nat.reduceLeDiff,x0c,Int.reduceNeg,Nat.reduceMul,Nat.reduceSub,x0d,x0e,x0f,x0g,x0h,x0i,x0j,x0k,Int.reduceEq,Int.reduceLT,Int.reduceLE,Int.reduceToNat,Int.cast_ofNat_Int,List.reduceReplicate]
      exact ⟨_, rfl⟩
  · rintro r H' ⟨rfl, R, rfl⟩
    exact ⟨[0], _, _, by simp, rfl, (by simp -implicitDefEqProofs only [kpp,Env.get,x01,x00,x02,x03,List.map,x08,x09,↓reduceIte,reduceCtorEq,Nat.reduceEqDiff,Nat.reduceLeDiff,Nat.reduceLT,Nat.reduceAdd,x0j,x0l,x0m,x0n,x0o,Int.cast_ofNat_Int,x0p,x0i,x07,x06,x0q,x0r,x0s,x0t,x0d,x0u]), (by simp -implicitDefEqProofs only [kpp,Env.get,x01,x00,x02,x03,List.map,x08,x09,↓reduceIte,reduceCtorEq,Nat.reduceEqDiff,Nat.reduceLeDiff,Nat.reduceLT,Nat.reduceAdd,x0j,x0l,x0m,x0n,x0o,Int.cast_ofNat_Int,x0p,x0i,x07,x06,x0q,x0r,x0s,x0t,x0d,x0u]), rfl, rfl⟩
end Go.Proofs.Ytbllbkhkmngclaa.W
