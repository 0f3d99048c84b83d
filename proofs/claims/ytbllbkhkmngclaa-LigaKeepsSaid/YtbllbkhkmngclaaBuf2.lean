/-
  Rows of glyphs: a stretch becomes one cluster: two functions, one answer. No condition but on sizes.
-/
import Derived.Test.YtbllbkhkmngclaaBuf1
namespace Go.Proofs.Ytbllbkhkmngclaa.W
open Go Go.Vm Go.Proofs
set_option maxRecDepth 100000
set_option linter.unusedSimpArgs false
set_option maxHeartbeats 4000000
/-! typecase/buffer.Merge -/
def c74_0 : AC :=
  (.seq (.reg [⟨some 77, none, .mov (.s 7)⟩,
    ⟨some 6, none, .mov (.s 77)⟩])
  .ret)
def c74_1 : AC :=
  (.seq (.seq (.reg [⟨some 67, none, .mov (.s 9)⟩,
    ⟨some 68, none, .mov (.s 2)⟩,
    ⟨some 69, none, .bin .lss (.s 67) (.s 68)⟩])
  (.cond (.s 69)
  .skip
  (.exit 4)))
  (.seq (.block 5
  (.reg [⟨some 72, none, .mov (.s 7)⟩,
    ⟨some 73, none, .mov (.s 9)⟩,
    ⟨some 74, none, .mov (.s 8)⟩,
    ⟨some 75, none, .idxA 10 (.s 72) (.s 73)⟩,
    ⟨some 76, none, .fldA 1 (.s 75)⟩,
    ⟨none, none, .store 1 (.s 76) (.s 74)⟩]))
  (.reg [⟨some 70, none, .mov (.s 9)⟩,
    ⟨some 71, none, .bin .add (.s 70) (.c (.pure (.int .i64 1)))⟩,
    ⟨some 9, none, .mov (.s 71)⟩])))
def c74_2 : AC :=
  (.seq (.seq (.reg [⟨some 66, none, .mov (.s 1)⟩,
    ⟨some 9, none, .mov (.s 66)⟩])
  (.block 4
  (.loop c74_1)))
  c74_0)
def c74_3 : AC :=
  (.seq (.seq (.regq [⟨some 46, none, .mov (.s 2)⟩,
    ⟨some 47, none, .mov (.s 0)⟩,
    ⟨some 48, none, .len (.s 47)⟩,
    ⟨some 49, none, .bin .lss (.s 46) (.s 48)⟩,
    ⟨some 50, none, .mov (.s 49)⟩,
    ⟨some 51, some (50, true), .mov (.s 0)⟩,
    ⟨some 52, some (50, true), .mov (.s 2)⟩,
    ⟨some 53, some (50, true), .idxA 10 (.s 51) (.s 52)⟩,
    ⟨some 54, some (50, true), .fldA 1 (.s 53)⟩,
    ⟨some 55, some (50, true), .load false 1 (.s 54)⟩,
    ⟨some 56, some (50, true), .mov (.s 0)⟩,
    ⟨some 57, some (50, true), .mov (.s 2)⟩,
    ⟨some 58, some (50, true), .bin .sub (.s 57) (.c (.pure (.int .i64 1)))⟩,
    ⟨some 59, some (50, true), .idxA 10 (.s 56) (.s 58)⟩,
    ⟨some 60, some (50, true), .fldA 1 (.s 59)⟩,
    ⟨some 61, some (50, true), .load false 1 (.s 60)⟩]
    [⟨some 62, some (50, true), .bin .eql (.s 55) (.s 61)⟩,
    ⟨some 63, none, .pick (.s 50) (.s 62) (.c (.pure (.bool false)))⟩])
  (.cond (.s 63)
  .skip
  (.exit 2)))
  (.block 3
  (.reg [⟨some 64, none, .mov (.s 2)⟩,
    ⟨some 65, none, .bin .add (.s 64) (.c (.pure (.int .i64 1)))⟩,
    ⟨some 2, none, .mov (.s 65)⟩])))
def c74_4 : AC :=
  (.seq (.block 2
  (.loop c74_3))
  c74_2)
def c74_5 : AC :=
  (.seq (.seq (.regq [⟨some 28, none, .mov (.s 1)⟩,
    ⟨some 29, none, .bin .gtr (.s 28) (.c (.pure (.int .i64 0)))⟩,
    ⟨some 30, none, .mov (.s 29)⟩,
    ⟨some 31, some (30, true), .mov (.s 0)⟩,
    ⟨some 32, some (30, true), .mov (.s 1)⟩,
    ⟨some 33, some (30, true), .bin .sub (.s 32) (.c (.pure (.int .i64 1)))⟩,
    ⟨some 34, some (30, true), .idxA 10 (.s 31) (.s 33)⟩,
    ⟨some 35, some (30, true), .fldA 1 (.s 34)⟩,
    ⟨some 36, some (30, true), .load false 1 (.s 35)⟩,
    ⟨some 37, some (30, true), .mov (.s 0)⟩,
    ⟨some 38, some (30, true), .mov (.s 1)⟩,
    ⟨some 39, some (30, true), .idxA 10 (.s 37) (.s 38)⟩,
    ⟨some 40, some (30, true), .fldA 1 (.s 39)⟩,
    ⟨some 41, some (30, true), .load false 1 (.s 40)⟩]
    [⟨some 42, some (30, true), .bin .eql (.s 36) (.s 41)⟩,
    ⟨some 43, none, .pick (.s 30) (.s 42) (.c (.pure (.bool false)))⟩])
  (.cond (.s 43)
  .skip
  (.exit 0)))
  (.block 1
  (.reg [⟨some 44, none, .mov (.s 1)⟩,
    ⟨some 45, none, .bin .sub (.s 44) (.c (.pure (.int .i64 1)))⟩,
    ⟨some 1, none, .mov (.s 45)⟩])))
def c74 : AC :=
  (.seq (.reg [⟨some 6, none, .mov (.c .empty)⟩])
  (.seq (.reg [⟨some 10, none, .mov (.s 0)⟩,
    ⟨some 11, none, .call 61 [(.s 10)]⟩,
    ⟨some 7, none, .mov (.s 11)⟩])
  (.seq (.seq (.reg [⟨some 12, none, .mov (.s 0)⟩,
    ⟨some 13, none, .mov (.s 1)⟩,
    ⟨some 14, none, .mov (.s 2)⟩,
    ⟨some 15, none, .call 96 [(.s 12), (.s 13), (.s 14)]⟩,
    ⟨some 16, none, .un .not (.s 15)⟩,
    ⟨some 17, none, .mov (.s 16)⟩,
    ⟨some 18, some (17, false), .mov (.s 1)⟩,
    ⟨some 19, some (17, false), .mov (.s 2)⟩,
    ⟨some 20, some (17, false), .bin .eql (.s 18) (.s 19)⟩,
    ⟨some 21, none, .pick (.s 17) (.c (.pure (.bool true))) (.s 20)⟩])
  (.cond (.s 21)
  (.seq (.reg [⟨some 22, none, .mov (.s 7)⟩,
    ⟨some 6, none, .mov (.s 22)⟩])
  .ret)
  .skip))
  (.seq (.reg [⟨some 23, none, .mov (.s 0)⟩,
    ⟨some 24, none, .mov (.s 1)⟩,
    ⟨some 25, none, .mov (.s 2)⟩,
    ⟨some 26, none, .slc 10 (.s 23) (some (.s 24)) (some (.s 25)) none⟩,
    ⟨some 27, none, .call 97 [(.s 26)]⟩,
    ⟨some 8, none, .mov (.s 27)⟩])
  (.seq (.block 0
  (.loop c74_5))
  c74_4)))))
theorem k74 : (Try.f74.body.bind fun c => cCode Try.prog Try.f74.ntmps RCs c) = some c74 := by kernel_rfl
theorem h74 : (Try.f74.name == "runtime.NumGoroutine") = false := by kernel_rfl
theorem r74 : resC Try.prog Try.f74.results.toList = some [.t 6] := by kernel_rfl
theorem a74 {args : List S} {H : Heap} {K : S → Heap → Prop} (hn : args.length ≤ 78) (h : aWx Try.prog H.length c74 (PostX [.t 6] K) (argEnv 0 args) H) : CallA Try.prog 74 args H K :=
  callA_of_x mixed Try.func74 h74 k74 r74 (by rw [Try.ntmps74]; exact hn) h
theorem q74 {vs ds : List V} (hn : vs.length ≤ 78) (h : aWx Try.prog 0 c74 (PostX [.t 6] (Gives ds)) (argEnv 0 (vs.map .pure)) []) : FnQ Try.prog 74 vs ds :=
  fnQ_of_call (a74 (by simpa using hn) h)
/-! typecase/typecaseref25.Merge -/
def c75_0 : AC :=
  (.seq (.reg [⟨some 84, none, .mov (.s 7)⟩,
    ⟨some 6, none, .mov (.s 84)⟩])
  .ret)
def c75_1 : AC :=
  (.seq (.seq (.reg [⟨some 74, none, .mov (.s 11)⟩,
    ⟨some 75, none, .mov (.s 2)⟩,
    ⟨some 76, none, .bin .lss (.s 74) (.s 75)⟩])
  (.cond (.s 76)
  .skip
  (.exit 4)))
  (.seq (.block 5
  (.reg [⟨some 79, none, .mov (.s 7)⟩,
    ⟨some 80, none, .mov (.s 11)⟩,
    ⟨some 81, none, .mov (.s 8)⟩,
    ⟨some 82, none, .idxA 10 (.s 79) (.s 80)⟩,
    ⟨some 83, none, .fldA 1 (.s 82)⟩,
    ⟨none, none, .store 1 (.s 83) (.s 81)⟩]))
  (.reg [⟨some 77, none, .mov (.s 11)⟩,
    ⟨some 78, none, .bin .add (.s 77) (.c (.pure (.int .i64 1)))⟩,
    ⟨some 11, none, .mov (.s 78)⟩])))
def c75_2 : AC :=
  (.seq (.seq (.reg [⟨some 73, none, .mov (.s 1)⟩,
    ⟨some 11, none, .mov (.s 73)⟩])
  (.block 4
  (.loop c75_1)))
  c75_0)
def c75_3 : AC :=
  (.seq (.seq (.reg [⟨some 58, none, .mov (.s 2)⟩,
    ⟨some 59, none, .mov (.s 0)⟩,
    ⟨some 60, none, .len (.s 59)⟩,
    ⟨some 61, none, .bin .lss (.s 58) (.s 60)⟩,
    ⟨some 62, none, .mov (.s 61)⟩,
    ⟨some 63, some (62, true), .mov (.s 0)⟩,
    ⟨some 64, some (62, true), .mov (.s 2)⟩,
    ⟨some 65, some (62, true), .idxA 10 (.s 63) (.s 64)⟩,
    ⟨some 66, some (62, true), .fldA 1 (.s 65)⟩,
    ⟨some 67, some (62, true), .load false 1 (.s 66)⟩,
    ⟨some 68, some (62, true), .mov (.s 10)⟩,
    ⟨some 69, some (62, true), .bin .eql (.s 67) (.s 68)⟩,
    ⟨some 70, none, .pick (.s 62) (.s 69) (.c (.pure (.bool false)))⟩])
  (.cond (.s 70)
  .skip
  (.exit 2)))
  (.block 3
  (.reg [⟨some 71, none, .mov (.s 2)⟩,
    ⟨some 72, none, .bin .add (.s 71) (.c (.pure (.int .i64 1)))⟩,
    ⟨some 2, none, .mov (.s 72)⟩])))
def c75_4 : AC :=
  (.seq (.block 2
  (.loop c75_3))
  c75_2)
def c75_5 : AC :=
  (.seq (.seq (.reg [⟨some 44, none, .mov (.s 1)⟩,
    ⟨some 45, none, .bin .gtr (.s 44) (.c (.pure (.int .i64 0)))⟩,
    ⟨some 46, none, .mov (.s 45)⟩,
    ⟨some 47, some (46, true), .mov (.s 0)⟩,
    ⟨some 48, some (46, true), .mov (.s 1)⟩,
    ⟨some 49, some (46, true), .bin .sub (.s 48) (.c (.pure (.int .i64 1)))⟩,
    ⟨some 50, some (46, true), .idxA 10 (.s 47) (.s 49)⟩,
    ⟨some 51, some (46, true), .fldA 1 (.s 50)⟩,
    ⟨some 52, some (46, true), .load false 1 (.s 51)⟩,
    ⟨some 53, some (46, true), .mov (.s 9)⟩,
    ⟨some 54, some (46, true), .bin .eql (.s 52) (.s 53)⟩,
    ⟨some 55, none, .pick (.s 46) (.s 54) (.c (.pure (.bool false)))⟩])
  (.cond (.s 55)
  .skip
  (.exit 0)))
  (.block 1
  (.reg [⟨some 56, none, .mov (.s 1)⟩,
    ⟨some 57, none, .bin .sub (.s 56) (.c (.pure (.int .i64 1)))⟩,
    ⟨some 1, none, .mov (.s 57)⟩])))
def c75 : AC :=
  (.seq (.reg [⟨some 6, none, .mov (.c .empty)⟩])
  (.seq (.reg [⟨some 12, none, .mov (.s 0)⟩,
    ⟨some 13, none, .call 98 [(.s 12)]⟩,
    ⟨some 7, none, .mov (.s 13)⟩])
  (.seq (.seq (.reg [⟨some 14, none, .mov (.s 1)⟩,
    ⟨some 15, none, .bin .lss (.s 14) (.c (.pure (.int .i64 0)))⟩,
    ⟨some 16, none, .mov (.s 15)⟩,
    ⟨some 17, some (16, false), .mov (.s 1)⟩,
    ⟨some 18, some (16, false), .mov (.s 2)⟩,
    ⟨some 19, some (16, false), .bin .geq (.s 17) (.s 18)⟩,
    ⟨some 20, none, .pick (.s 16) (.c (.pure (.bool true))) (.s 19)⟩,
    ⟨some 21, none, .mov (.s 20)⟩,
    ⟨some 22, some (21, false), .mov (.s 2)⟩,
    ⟨some 23, some (21, false), .mov (.s 0)⟩,
    ⟨some 24, some (21, false), .len (.s 23)⟩,
    ⟨some 25, some (21, false), .bin .gtr (.s 22) (.s 24)⟩,
    ⟨some 26, none, .pick (.s 21) (.c (.pure (.bool true))) (.s 25)⟩])
  (.cond (.s 26)
  (.seq (.reg [⟨some 27, none, .mov (.s 7)⟩,
    ⟨some 6, none, .mov (.s 27)⟩])
  .ret)
  .skip))
  (.seq (.reg [⟨some 28, none, .mov (.s 0)⟩,
    ⟨some 29, none, .mov (.s 1)⟩,
    ⟨some 30, none, .mov (.s 2)⟩,
    ⟨some 31, none, .slc 10 (.s 28) (some (.s 29)) (some (.s 30)) none⟩,
    ⟨some 32, none, .call 99 [(.s 31)]⟩,
    ⟨some 8, none, .mov (.s 32)⟩])
  (.seq (.regq [⟨some 33, none, .mov (.s 0)⟩,
    ⟨some 34, none, .mov (.s 1)⟩,
    ⟨some 35, none, .idxA 10 (.s 33) (.s 34)⟩,
    ⟨some 36, none, .fldA 1 (.s 35)⟩,
    ⟨some 37, none, .load false 1 (.s 36)⟩,
    ⟨some 38, none, .mov (.s 0)⟩,
    ⟨some 39, none, .mov (.s 2)⟩,
    ⟨some 40, none, .bin .sub (.s 39) (.c (.pure (.int .i64 1)))⟩,
    ⟨some 41, none, .idxA 10 (.s 38) (.s 40)⟩,
    ⟨some 42, none, .fldA 1 (.s 41)⟩,
    ⟨some 43, none, .load false 1 (.s 42)⟩,
    ⟨some 9, none, .mov (.s 37)⟩]
    [⟨some 10, none, .mov (.s 43)⟩])
  (.seq (.block 0
  (.loop c75_5))
  c75_4))))))
theorem k75 : (Try.f75.body.bind fun c => cCode Try.prog Try.f75.ntmps RCs c) = some c75 := by kernel_rfl
theorem h75 : (Try.f75.name == "runtime.NumGoroutine") = false := by kernel_rfl
theorem r75 : resC Try.prog Try.f75.results.toList = some [.t 6] := by kernel_rfl
theorem a75 {args : List S} {H : Heap} {K : S → Heap → Prop} (hn : args.length ≤ 85) (h : aWx Try.prog H.length c75 (PostX [.t 6] K) (argEnv 0 args) H) : CallA Try.prog 75 args H K :=
  callA_of_x mixed Try.func75 h75 k75 r75 (by rw [Try.ntmps75]; exact hn) h
theorem q75 {vs ds : List V} (hn : vs.length ≤ 85) (h : aWx Try.prog 0 c75 (PostX [.t 6] (Gives ds)) (argEnv 0 (vs.map .pure)) []) : FnQ Try.prog 75 vs ds :=
  fnQ_of_call (a75 (by simpa using hn) h)

def setC (c : Int) (g : Gl) : Gl := ⟨g.id, c, g.adv, g.dx, g.dy, g.to, g.hang, g.lig, g.comp, g.mask⟩
/-- down to where a cluster begins -/
def dnM (ls : List Gl) (v : Int) : Nat → Nat
  | 0 => 0
  | i + 1 => if (glAt ls (i : Int)).cl = v then dnM ls v i else i + 1
/-- up to where a cluster ends -/
def upM (ls : List Gl) (v : Int) : Nat → Nat → Nat
  | 0, i => i
  | n + 1, i => if (glAt ls (i : Int)).cl = v then upM ls v n (i + 1) else i
/-- a cluster for some glyphs -/
def rngC (c : Int) : Nat → Nat → List Gl → List Gl
  | 0, _, l => l
  | n + 1, i, l => rngC c n (i + 1) (l.set i (setC c (glAt l (i : Int))))
def mergeG (ls : List Gl) (c : Int) (a b : Nat) : List Gl := rngC c (b - a) a ls
def mergeN (ls : List Gl) (a b : Nat) : List Gl :=
  mergeG ls (leastF ((ls.take b).drop a)) (dnM ls (glAt ls (a : Int)).cl a) (upM ls (glAt ls ((b : Int) - 1)).cl (ls.length - b) b)
def mergeF (ls : List Gl) (x y : Int) : List Gl := if 0 ≤ x ∧ x < y ∧ y ≤ ls.length then mergeN ls x.toNat y.toNat else ls
theorem dnM_le {ls : List Gl} {v : Int} : ∀ {i : Nat}, dnM ls v i ≤ i
  | 0 => Nat.le_refl _
  | i + 1 => by
    rw [dnM]
    split
    · exact Nat.le_succ_of_le dnM_le
    · exact Nat.le_refl _
theorem upM_in {ls : List Gl} {v : Int} : ∀ {n i : Nat}, i ≤ upM ls v n i ∧ upM ls v n i ≤ i + n
  | 0, i => ⟨Nat.le_refl _, Nat.le_refl _⟩
  | n + 1, i => by
    rw [upM]
    split
    · have := @upM_in ls v n (i + 1)
      omega
    · omega
theorem rngC_len {c : Int} : ∀ {n i : Nat} {l : List Gl}, (rngC c n i l).length = l.length
  | 0, _, _ => rfl
  | n + 1, i, l => by rw [rngC, rngC_len, List.length_set]
theorem mergeF_len {ls : List Gl} {x y : Int} : (mergeF ls x y).length = ls.length := by
  rw [mergeF]
  split
  · rw [mergeN, mergeG, rngC_len]
  · rfl
theorem gl_cl {c0 c1 c2 c3 c4 c5 c6 c7 c8 c9 : Int} {L : List Gl} {i : Nat} : ((L.map gl).map S.pure).set i (.pure (.agg [I c0, I c1, I c2, I c3, I c4, I c5, I c6, I c7, I c8, I c9])) = ((L.set i ⟨c0, c1, c2, c3, c4, c5, c6, c7, c8, c9⟩).map gl).map S.pure := row_set (f := gl) (a := ⟨c0, c1, c2, c3, c4, c5, c6, c7, c8, c9⟩)
/-- the glyphs of a stretch get their cluster -/
theorem merge_set (ls : List Gl) (hl : ls.length ≤ 1000) (c : Int) (a b : Nat) (hab : a ≤ b) (hb : b ≤ ls.length) {env : Env} (h1 : env.get 1 = .pure (I a)) (h2 : env.get 2 = .pure (I b)) (h7 : env.get 7 = .rsl 0 0 ls.length) (h8 : env.get 8 = .pure (I c)) :
    aWx Try.prog 0 c74_2 (PostX [.t 6] (Gives [.sl ((mergeG ls c a b).map gl)])) env [⟨(ls.map gl).map .pure, 10, .live⟩] := by
  unfold c74_2
  simp -implicitDefEqProofs only [h1, vmp,↓vmd,seval]
  refine loop_at (T := Nat × List Gl) (fun y => [(9, .pure (I (y.1 : Int))), (2, .pure (I b)), (7, .rsl 0 0 ls.length), (8, .pure (I c))]) (fun y => [⟨(y.2.map gl).map .pure, 10, .live⟩]) (fun y => y.1 ≤ b ∧ y.2.length = ls.length ∧ rngC c (b - y.1) y.1 y.2 = mergeG ls c a b) (fun y => b - y.1)
    (a, ls) [0] (by simp) rfl ⟨hab, rfl, rfl⟩ (by simp -implicitDefEqProofs only [h2, h7, h8, kpp,seval]) (by simp -implicitDefEqProofs only [kpp,seval]) ?_
  rintro ⟨i, X⟩ ⟨hi, hX, hr⟩
  simp only at hi hX hr ⊢
  unfold c74_1
  generalize mergeG ls c a b = out at *
  simp -implicitDefEqProofs only [vmp,↓vmd,seval]
  refine onB_dec (fun h3 => ?_) (fun h3 => ?_)
  · have hlt : i < b := by omega
    rw [show b - i = (b - (i + 1)) + 1 by omega, rngC] at hr
    have hgi : ((X.map gl).map S.pure)[i]? = some (.pure (gl (glAt X (i : Int)))) := by
      have := glAt_row (ls := X) (y := (i : Int)) (by omega) (by omega)
      simpa using this
    have hiL : (i : Int) < (ls.length : Int) := by omega
    simp -implicitDefEqProofs only [h3, hiL, hgi, Int.natCast_nonneg, gl_cl, vmp,↓vmd,seval]
    refine onBk_to (i + 1, X.set i (setC c (glAt X (i : Int)))) [0] (by simp) rfl (by simp only; omega) ⟨hlt, by simp [hX], hr⟩ (by simp -implicitDefEqProofs only [next_at hlt (by omega), List.length_set, kpp,seval]) (by simp -implicitDefEqProofs only [setC, kpp,seval])
  · rw [show b - i = 0 by omega, rngC] at hr
    subst hr
    simp -implicitDefEqProofs only [h3, vmp,↓vmd,seval]
    unfold c74_0
    simp -implicitDefEqProofs only [vmp,↓vmd,seval]
    exact gives_row' rfl (by simp) hX.symm
theorem merge_up (ls : List Gl) (hl : ls.length ≤ 1000) (c : Int) (v : Int) (a b : Nat) (hab : a ≤ b) (h0 : 0 < b) (hb : b ≤ ls.length) (hv : (glAt ls ((b : Int) - 1)).cl = v) {env : Env} (e0 : env.get 0 = .pure (.sl (ls.map gl))) (h1 : env.get 1 = .pure (I a)) (h2 : env.get 2 = .pure (I b)) (h7 : env.get 7 = .rsl 0 0 ls.length) (h8 : env.get 8 = .pure (I c)) :
    aWx Try.prog 0 c74_4 (PostX [.t 6] (Gives [.sl ((mergeG ls c a (upM ls v (ls.length - b) b)).map gl)])) env [⟨(ls.map gl).map .pure, 10, .live⟩] := by
  unfold c74_4
  simp -implicitDefEqProofs only [vmp,↓vmd,seval]
  refine loop_at (T := Nat) (fun i => [(0, .pure (.sl (ls.map gl))), (1, .pure (I a)), (2, .pure (I (i : Int))), (7, .rsl 0 0 ls.length), (8, .pure (I c))]) (fun _ => [⟨(ls.map gl).map .pure, 10, .live⟩]) (fun i => b ≤ i ∧ i ≤ ls.length ∧ (glAt ls ((i : Int) - 1)).cl = v ∧ upM ls v (ls.length - i) i = upM ls v (ls.length - b) b) (fun i => ls.length - i)
    b [0] (by simp) rfl ⟨Nat.le_refl _, hb, hv, rfl⟩ (by simp -implicitDefEqProofs only [e0, h1, h2, h7, h8, kpp,seval]) (by simp -implicitDefEqProofs only [kpp,seval]) ?_
  rintro i ⟨hbi, hi, hvi, hr⟩
  unfold c74_3
  generalize upM ls v (ls.length - b) b = u at *
  simp -implicitDefEqProofs only [vmp,↓vmd,seval]
  refine onB_dec (fun h3 => ?_) (fun h3 => ?_)
  · have hlt : i < ls.length := by omega
    rw [show ls.length - i = (ls.length - (i + 1)) + 1 by omega, upM] at hr
    have hgi : (ls.map gl)[i]? = some (gl (glAt ls (i : Int))) := by
      have := glAt_map (ls := ls) (y := (i : Int)) (by omega) (by omega)
      simpa using this
    have hw : IntKind.wrap .i64 ((i : Int) - 1) = (i : Int) - 1 := wrap_id (by omega) (by omega)
    have i0 : 0 ≤ (i : Int) - 1 := by omega
    have hgp := glAt_map (ls := ls) (y := (i : Int) - 1) (by omega) (by omega)
    first | refine envO (by simp -implicitDefEqProofs only [h3, vmp,↓vmd,seval]; rfl) ?_ | refine envQ (by simp -implicitDefEqProofs only [h3, vmp,↓vmd,seval]; rfl) ?_
    simp -implicitDefEqProofs only [h3, hgi, hgp, hw, i0, Int.natCast_nonneg, vmp,↓vmd,seval]
    refine onB_dec (fun h4 => ?_) (fun h4 => ?_)
    · have h4' : (glAt ls (i : Int)).cl = v := by rw [h4, hvi]
      rw [if_pos h4'] at hr
      simp -implicitDefEqProofs only [h4, vmp,↓vmd,seval]
      refine onBk_to (i + 1) [0] (by simp) rfl (by omega) ⟨by omega, hlt, by rw [show ((i + 1 : Nat) : Int) - 1 = (i : Int) by omega]; exact h4', hr⟩ (by simp -implicitDefEqProofs only [next_at hlt (by omega), kpp,seval]) (by simp -implicitDefEqProofs only [kpp,seval])
    · rw [if_neg (fun e => h4 (by rw [e, hvi]))] at hr
      subst hr
      simp -implicitDefEqProofs only [h4, vmp,↓vmd,seval]
      exact merge_set ls hl c a i (by omega) hi rfl rfl rfl rfl
  · have hx : i = ls.length := by omega
    rw [show ls.length - i = 0 by omega, upM] at hr
    subst hr
    simp -implicitDefEqProofs only [h3, vmp,↓vmd,seval]
    exact merge_set ls hl c a i (by omega) hi rfl rfl rfl rfl
theorem merge_q (ls : List Gl) (hl : ls.length ≤ 1000) (x y : Int) : FnQ Try.prog 74 [.sl (ls.map gl), I x, I y] [.sl ((mergeF ls x y).map gl)] := by
  refine q74 (by simp) ?_
  unfold c74
  have hf : mergeF ls x y = if 0 ≤ x ∧ x < y ∧ y ≤ ls.length then mergeN ls x.toNat y.toNat else ls := rfl
  have hst := stretch_q (ls.map gl) x y
  rw [List.length_map] at hst
  generalize mergeF ls x y = out at *
  simp -implicitDefEqProofs only [vmp,↓vmd,seval]
  refine onC_fr (cloneG_c ls hl) [] (by simp) trivial rfl rfl (by simp) ?_
  first | refine envO (by simp -implicitDefEqProofs only [vmp,↓vmd,seval]; rfl) ?_ | refine envQ (by simp -implicitDefEqProofs only [vmp,↓vmd,seval]; rfl) ?_
  simp -implicitDefEqProofs only [vmp,↓vmd,seval]
  refine onC_q hst rfl ?_
  by_cases hv : 0 ≤ x ∧ x < y ∧ y ≤ ls.length
  · obtain ⟨x0, xy, yl⟩ := hv
    rw [if_pos ⟨x0, xy, yl⟩] at hf
    have hd : decide (0 ≤ x ∧ x ≤ y ∧ y ≤ (ls.length : Int)) = true := by simp; omega
    have hne : ¬ x = y := by omega
    have x2 : x ≤ y := by omega
    have y0 : 0 ≤ y := by omega
    rw [hd]
    first | refine envO (by simp -implicitDefEqProofs only [vmp,↓vmd,seval]; rfl) ?_ | refine envQ (by simp -implicitDefEqProofs only [vmp,↓vmd,seval]; rfl) ?_
    simp -implicitDefEqProofs only [hne, vmp,↓vmd,seval]
    have hsl := slcP_map (f := gl) (X := ls) (n := 10) (l := x) (h := y) (fun _ => rfl) x0 x2 yl
    simp -implicitDefEqProofs only [hsl, vmp,↓vmd,seval]
    refine onC_q (least_q ((ls.take y.toNat).drop x.toNat) (by
      intro e
      have := congrArg List.length e
      simp at this
      omega)) rfl ?_
    obtain ⟨a, rfl⟩ : ∃ a : Nat, x = a := ⟨x.toNat, by omega⟩
    obtain ⟨b, rfl⟩ : ∃ b : Nat, y = b := ⟨y.toNat, by omega⟩
    rw [Int.toNat_natCast, Int.toNat_natCast] at *
    rw [mergeN] at hf
    generalize leastF ((ls.take b).drop a) = c at *
    first | refine envO (by simp -implicitDefEqProofs only [hne, vmp,↓vmd,seval]; rfl) ?_ | refine envQ (by simp -implicitDefEqProofs only [hne, vmp,↓vmd,seval]; rfl) ?_
    simp -implicitDefEqProofs only [vmp,↓vmd,seval]
    refine loop_at (T := Nat) (fun i => [(0, .pure (.sl (ls.map gl))), (1, .pure (I (i : Int))), (2, .pure (I (b : Int))), (7, .rsl 0 0 ls.length), (8, .pure (I c))]) (fun _ => [⟨(ls.map gl).map .pure, 10, .live⟩]) (fun i => i ≤ a ∧ (glAt ls (i : Int)).cl = (glAt ls (a : Int)).cl ∧ dnM ls (glAt ls (a : Int)).cl i = dnM ls (glAt ls (a : Int)).cl a) (fun i => i)
      a [0] (by simp) rfl ⟨Nat.le_refl _, rfl, rfl⟩ (by simp -implicitDefEqProofs only [kpp,seval]) (by simp -implicitDefEqProofs only [kpp,seval]) ?_
    rintro i ⟨hi, hvi, hr⟩
    generalize (glAt ls (a : Int)).cl = v at *
    unfold c74_5
    simp -implicitDefEqProofs only [vmp,↓vmd,seval]
    cases i with
    | zero =>
      rw [← hr, dnM] at hf
      have z0 : ¬ (0 : Int) < ((0 : Nat) : Int) := by omega
      refine onB_neg z0 ?_
      first | refine envO (by simp -implicitDefEqProofs only [z0, vmp,↓vmd,seval]; rfl) ?_ | refine envQ (by simp -implicitDefEqProofs only [z0, vmp,↓vmd,seval]; rfl) ?_
      subst hf
      simp -implicitDefEqProofs only [z0, vmp,↓vmd,seval]
      exact merge_up ls hl c _ 0 b (by omega) (by omega) (by omega) rfl rfl rfl rfl rfl rfl
    | succ i =>
      have z0 : (0 : Int) < ((i + 1 : Nat) : Int) := by omega
      refine onB_pos z0 ?_
      have hgi : (ls.map gl)[i]? = some (gl (glAt ls (i : Int))) := by
        have := glAt_map (ls := ls) (y := (i : Int)) (by omega) (by omega)
        simpa using this
      have hgp : (ls.map gl)[i + 1]? = some (gl (glAt ls ((i + 1 : Nat) : Int))) := by
        have := glAt_map (ls := ls) (y := ((i + 1 : Nat) : Int)) (by omega) (by omega)
        simpa using this
      have hw : IntKind.wrap .i64 (((i + 1 : Nat) : Int) - 1) = (i : Int) := by rw [wrap_id (by omega) (by omega)]; omega
      rw [dnM] at hr
      first | refine envO (by simp -implicitDefEqProofs only [z0, vmp,↓vmd,seval]; rfl) ?_ | refine envQ (by simp -implicitDefEqProofs only [z0, vmp,↓vmd,seval]; rfl) ?_
      simp -implicitDefEqProofs only [hgi, hgp, hw, z0, Int.natCast_nonneg, Int.toNat_natCast, vmp,↓vmd,seval]
      refine onB_dec (fun h4 => ?_) (fun h4 => ?_)
      · have h4' : (glAt ls (i : Int)).cl = v := by rw [h4, hvi]
        rw [if_pos h4'] at hr
        simp -implicitDefEqProofs only [h4, hw, vmp,↓vmd,seval]
        refine onBk_to i [0] (by simp) rfl (by omega) ⟨by omega, h4', hr⟩ (by simp -implicitDefEqProofs only [kpp,seval]) (by simp -implicitDefEqProofs only [kpp,seval])
      · rw [if_neg (fun e => h4 (by rw [e, hvi]))] at hr
        rw [← hr] at hf
        subst hf
        simp -implicitDefEqProofs only [h4, vmp,↓vmd,seval]
        exact merge_up ls hl c _ (i + 1) b (by omega) (by omega) (by omega) rfl rfl rfl rfl rfl rfl
  · rw [if_neg hv] at hf
    have hf := hf.symm
    subst hf
    by_cases hd' : 0 ≤ x ∧ x ≤ y ∧ y ≤ (ls.length : Int)
    · have hd : decide (0 ≤ x ∧ x ≤ y ∧ y ≤ (ls.length : Int)) = true := by simp; omega
      have he : x = y := by omega
      rw [hd]
      subst he
      first | refine envO (by simp -implicitDefEqProofs only [vmp,↓vmd,seval]; rfl) ?_ | refine envQ (by simp -implicitDefEqProofs only [vmp,↓vmd,seval]; rfl) ?_
      simp -implicitDefEqProofs only [vmp,↓vmd,seval]
      exact gives_row' rfl (by simp) rfl
    · have hd : decide (0 ≤ x ∧ x ≤ y ∧ y ≤ (ls.length : Int)) = false := by simp; omega
      rw [hd]
      first | refine envO (by simp -implicitDefEqProofs only [vmp,↓vmd,seval]; rfl) ?_ | refine envQ (by simp -implicitDefEqProofs only [vmp,↓vmd,seval]; rfl) ?_
      simp -implicitDefEqProofs only [vmp,↓vmd,seval]
      exact gives_row' rfl (by simp) rfl
theorem rmerge_set (ls : List Gl) (hl : ls.length ≤ 1000) (c : Int) (a b : Nat) (hab : a ≤ b) (hb : b ≤ ls.length) {env : Env} (h1 : env.get 1 = .pure (I a)) (h2 : env.get 2 = .pure (I b)) (h7 : env.get 7 = .rsl 0 0 ls.length) (h8 : env.get 8 = .pure (I c)) :
    aWx Try.prog 0 c75_2 (PostX [.t 6] (Gives [.sl ((mergeG ls c a b).map gl)])) env [⟨(ls.map gl).map .pure, 10, .live⟩] := by
  unfold c75_2
  simp -implicitDefEqProofs only [h1, vmp,↓vmd,seval]
  refine loop_at (T := Nat × List Gl) (fun y => [(11, .pure (I (y.1 : Int))), (2, .pure (I b)), (7, .rsl 0 0 ls.length), (8, .pure (I c))]) (fun y => [⟨(y.2.map gl).map .pure, 10, .live⟩]) (fun y => y.1 ≤ b ∧ y.2.length = ls.length ∧ rngC c (b - y.1) y.1 y.2 = mergeG ls c a b) (fun y => b - y.1)
    (a, ls) [0] (by simp) rfl ⟨hab, rfl, rfl⟩ (by simp -implicitDefEqProofs only [h2, h7, h8, kpp,seval]) (by simp -implicitDefEqProofs only [kpp,seval]) ?_
  rintro ⟨i, X⟩ ⟨hi, hX, hr⟩
  simp only at hi hX hr ⊢
  unfold c75_1
  generalize mergeG ls c a b = out at *
  simp -implicitDefEqProofs only [vmp,↓vmd,seval]
  refine onB_dec (fun h3 => ?_) (fun h3 => ?_)
  · have hlt : i < b := by omega
    rw [show b - i = (b - (i + 1)) + 1 by omega, rngC] at hr
    have hgi : ((X.map gl).map S.pure)[i]? = some (.pure (gl (glAt X (i : Int)))) := by
      have := glAt_row (ls := X) (y := (i : Int)) (by omega) (by omega)
      simpa using this
    have hiL : (i : Int) < (ls.length : Int) := by omega
    simp -implicitDefEqProofs only [h3, hiL, hgi, Int.natCast_nonneg, gl_cl, vmp,↓vmd,seval]
    refine onBk_to (i + 1, X.set i (setC c (glAt X (i : Int)))) [0] (by simp) rfl (by simp only; omega) ⟨hlt, by simp [hX], hr⟩ (by simp -implicitDefEqProofs only [next_at hlt (by omega), List.length_set, kpp,seval]) (by simp -implicitDefEqProofs only [setC, kpp,seval])
  · rw [show b - i = 0 by omega, rngC] at hr
    subst hr
    simp -implicitDefEqProofs only [h3, vmp,↓vmd,seval]
    unfold c75_0
    simp -implicitDefEqProofs only [vmp,↓vmd,seval]
    exact gives_row' rfl (by simp) hX.symm
theorem rmerge_up (ls : List Gl) (hl : ls.length ≤ 1000) (c : Int) (v : Int) (a b : Nat) (hab : a ≤ b) (hb : b ≤ ls.length) {env : Env} (e0 : env.get 0 = .pure (.sl (ls.map gl))) (h1 : env.get 1 = .pure (I a)) (h2 : env.get 2 = .pure (I b)) (h7 : env.get 7 = .rsl 0 0 ls.length) (h8 : env.get 8 = .pure (I c)) (h10 : env.get 10 = .pure (I v)) :
    aWx Try.prog 0 c75_4 (PostX [.t 6] (Gives [.sl ((mergeG ls c a (upM ls v (ls.length - b) b)).map gl)])) env [⟨(ls.map gl).map .pure, 10, .live⟩] := by
  unfold c75_4
  simp -implicitDefEqProofs only [vmp,↓vmd,seval]
  refine loop_at (T := Nat) (fun i => [(0, .pure (.sl (ls.map gl))), (1, .pure (I a)), (2, .pure (I (i : Int))), (7, .rsl 0 0 ls.length), (8, .pure (I c)), (10, .pure (I v))]) (fun _ => [⟨(ls.map gl).map .pure, 10, .live⟩]) (fun i => b ≤ i ∧ i ≤ ls.length ∧ upM ls v (ls.length - i) i = upM ls v (ls.length - b) b) (fun i => ls.length - i)
    b [0] (by simp) rfl ⟨Nat.le_refl _, hb, rfl⟩ (by simp -implicitDefEqProofs only [e0, h1, h2, h7, h8, h10, kpp,seval]) (by simp -implicitDefEqProofs only [kpp,seval]) ?_
  rintro i ⟨hbi, hi, hr⟩
  unfold c75_3
  generalize upM ls v (ls.length - b) b = u at *
  simp -implicitDefEqProofs only [vmp,↓vmd,seval]
  refine onIf_intro fun _ => ?_
  first | refine envO (by simp -implicitDefEqProofs only [vmp,↓vmd,seval]; rfl) ?_ | refine envQ (by simp -implicitDefEqProofs only [vmp,↓vmd,seval]; rfl) ?_
  simp -implicitDefEqProofs only [vmp,↓vmd,seval]
  refine onB_dec (fun h3 => ?_) (fun h3 => ?_)
  · have hlt : i < ls.length := by omega
    rw [show ls.length - i = (ls.length - (i + 1)) + 1 by omega, upM] at hr
    have hgi : (ls.map gl)[i]? = some (gl (glAt ls (i : Int))) := by
      have := glAt_map (ls := ls) (y := (i : Int)) (by omega) (by omega)
      simpa using this
    first | refine envO (by simp -implicitDefEqProofs only [h3, vmp,↓vmd,seval]; rfl) ?_ | refine envQ (by simp -implicitDefEqProofs only [h3, vmp,↓vmd,seval]; rfl) ?_
    simp -implicitDefEqProofs only [h3, hgi, Int.natCast_nonneg, vmp,↓vmd,seval]
    refine onB_dec (fun h4 => ?_) (fun h4 => ?_)
    · rw [if_pos h4] at hr
      simp -implicitDefEqProofs only [h4, vmp,↓vmd,seval]
      refine onBk_to (i + 1) [0] (by simp) rfl (by omega) ⟨by omega, hlt, hr⟩ (by simp -implicitDefEqProofs only [next_at hlt (by omega), kpp,seval]) (by simp -implicitDefEqProofs only [kpp,seval])
    · rw [if_neg h4] at hr
      subst hr
      simp -implicitDefEqProofs only [h4, vmp,↓vmd,seval]
      exact rmerge_set ls hl c a i (by omega) hi rfl rfl rfl rfl
  · have hx : i = ls.length := by omega
    rw [show ls.length - i = 0 by omega, upM] at hr
    subst hr
    simp -implicitDefEqProofs only [h3, vmp,↓vmd,seval]
    exact rmerge_set ls hl c a i (by omega) hi rfl rfl rfl rfl
theorem rmerge_q (ls : List Gl) (hl : ls.length ≤ 1000) (x y : Int) : FnQ Try.prog 75 [.sl (ls.map gl), I x, I y] [.sl ((mergeF ls x y).map gl)] := by
  refine q75 (by simp) ?_
  unfold c75
  have hf : mergeF ls x y = if 0 ≤ x ∧ x < y ∧ y ≤ ls.length then mergeN ls x.toNat y.toNat else ls := rfl
  generalize mergeF ls x y = out at *
  simp -implicitDefEqProofs only [vmp,↓vmd,seval]
  refine onC_fr (copied_c ls hl) [] (by simp) trivial rfl rfl (by simp) ?_
  first | refine envO (by simp -implicitDefEqProofs only [vmp,↓vmd,seval]; rfl) ?_ | refine envQ (by simp -implicitDefEqProofs only [vmp,↓vmd,seval]; rfl) ?_
  simp -implicitDefEqProofs only [vmp,↓vmd,seval]
  have no : ¬ (0 ≤ x ∧ x < y ∧ y ≤ ls.length) → out = ls := fun h => by rw [hf, if_neg h]
  refine onB_dec (fun h1 => ?_) (fun h1 => ?_)
  · rw [no (by omega)]
    first | refine envO (by simp -implicitDefEqProofs only [h1, vmp,↓vmd,seval]; rfl) ?_ | refine envQ (by simp -implicitDefEqProofs only [h1, vmp,↓vmd,seval]; rfl) ?_
    simp -implicitDefEqProofs only [h1, vmp,↓vmd,seval]
    exact gives_row' rfl (by simp) rfl
  first | refine envO (by simp -implicitDefEqProofs only [h1, vmp,↓vmd,seval]; rfl) ?_ | refine envQ (by simp -implicitDefEqProofs only [h1, vmp,↓vmd,seval]; rfl) ?_
  simp -implicitDefEqProofs only [vmp,↓vmd,seval]
  refine onB_dec (fun h2 => ?_) (fun h2 => ?_)
  · rw [no (by omega)]
    first | refine envO (by simp -implicitDefEqProofs only [h2, vmp,↓vmd,seval]; rfl) ?_ | refine envQ (by simp -implicitDefEqProofs only [h2, vmp,↓vmd,seval]; rfl) ?_
    simp -implicitDefEqProofs only [h2, vmp,↓vmd,seval]
    exact gives_row' rfl (by simp) rfl
  first | refine envO (by simp -implicitDefEqProofs only [h2, vmp,↓vmd,seval]; rfl) ?_ | refine envQ (by simp -implicitDefEqProofs only [h2, vmp,↓vmd,seval]; rfl) ?_
  simp -implicitDefEqProofs only [vmp,↓vmd,seval]
  refine onIf_intro fun _ => ?_
  first | refine envO (by simp -implicitDefEqProofs only [vmp,↓vmd,seval]; rfl) ?_ | refine envQ (by simp -implicitDefEqProofs only [vmp,↓vmd,seval]; rfl) ?_
  simp -implicitDefEqProofs only [vmp,↓vmd,seval]
  refine onB_dec (fun h3 => ?_) (fun h3 => ?_)
  · rw [no (by omega)]
    simp -implicitDefEqProofs only [h3, vmp,↓vmd,seval]
    exact gives_row' rfl (by simp) rfl
  have x0 : 0 ≤ x := by omega
  have xy : x < y := by omega
  have yl : y ≤ ls.length := by omega
  rw [if_pos ⟨x0, xy, yl⟩] at hf
  have x2 : x ≤ y := by omega
  have y0 : 0 ≤ y := by omega
  have hsl := slcP_map (f := gl) (X := ls) (n := 10) (l := x) (h := y) (fun _ => rfl) x0 x2 yl
  first | refine envO (by simp -implicitDefEqProofs only [h3, vmp,↓vmd,seval]; rfl) ?_ | refine envQ (by simp -implicitDefEqProofs only [h3, vmp,↓vmd,seval]; rfl) ?_
  simp -implicitDefEqProofs only [h3, hsl, vmp,↓vmd,seval]
  refine onC_q (rleast_q ((ls.take y.toNat).drop x.toNat) (by
    intro e
    have := congrArg List.length e
    simp at this
    omega)) rfl ?_
  obtain ⟨a, rfl⟩ : ∃ a : Nat, x = a := ⟨x.toNat, by omega⟩
  obtain ⟨b, rfl⟩ : ∃ b : Nat, y = b := ⟨y.toNat, by omega⟩
  rw [Int.toNat_natCast, Int.toNat_natCast] at *
  rw [mergeN] at hf
  generalize leastF ((ls.take b).drop a) = c at *
  have hga : (ls.map gl)[a]? = some (gl (glAt ls (a : Int))) := by
    have := glAt_map (ls := ls) (y := (a : Int)) (by omega) (by omega)
    simpa using this
  have hwb : IntKind.wrap .i64 ((b : Int) - 1) = (b : Int) - 1 := wrap_id (by omega) (by omega)
  have b0 : 0 ≤ (b : Int) - 1 := by omega
  have hgb := glAt_map (ls := ls) (y := (b : Int) - 1) (by omega) (by omega)
  first | refine envO (by simp -implicitDefEqProofs only [h3, vmp,↓vmd,seval]; rfl) ?_ | refine envQ (by simp -implicitDefEqProofs only [h3, vmp,↓vmd,seval]; rfl) ?_
  simp -implicitDefEqProofs only [hga, hwb, b0, hgb, Int.natCast_nonneg, Int.toNat_natCast, vmp,↓vmd,seval]
  generalize (glAt ls ((b : Int) - 1)).cl = v2 at *
  generalize (glAt ls (a : Int)).cl = v at *
  refine loop_at (T := Nat) (fun i => [(0, .pure (.sl (ls.map gl))), (1, .pure (I (i : Int))), (2, .pure (I (b : Int))), (7, .rsl 0 0 ls.length), (8, .pure (I c)), (9, .pure (I v)), (10, .pure (I v2))]) (fun _ => [⟨(ls.map gl).map .pure, 10, .live⟩]) (fun i => i ≤ a ∧ dnM ls v i = dnM ls v a) (fun i => i)
    a [0] (by simp) rfl ⟨Nat.le_refl _, rfl⟩ (by simp -implicitDefEqProofs only [kpp,seval]) (by simp -implicitDefEqProofs only [kpp,seval]) ?_
  rintro i ⟨hi, hr⟩
  unfold c75_5
  simp -implicitDefEqProofs only [vmp,↓vmd,seval]
  cases i with
  | zero =>
    rw [← hr, dnM] at hf
    have z0 : ¬ (0 : Int) < ((0 : Nat) : Int) := by omega
    refine onB_neg z0 ?_
    first | refine envO (by simp -implicitDefEqProofs only [z0, vmp,↓vmd,seval]; rfl) ?_ | refine envQ (by simp -implicitDefEqProofs only [z0, vmp,↓vmd,seval]; rfl) ?_
    subst hf
    simp -implicitDefEqProofs only [z0, vmp,↓vmd,seval]
    exact rmerge_up ls hl c v2 0 b (by omega) (by omega) rfl rfl rfl rfl rfl rfl
  | succ i =>
    have z0 : (0 : Int) < ((i + 1 : Nat) : Int) := by omega
    refine onB_pos z0 ?_
    have hgi : (ls.map gl)[i]? = some (gl (glAt ls (i : Int))) := by
      have := glAt_map (ls := ls) (y := (i : Int)) (by omega) (by omega)
      simpa using this
    have hw : IntKind.wrap .i64 (((i + 1 : Nat) : Int) - 1) = (i : Int) := by rw [wrap_id (by omega) (by omega)]; omega
    rw [dnM] at hr
    first | refine envO (by simp -implicitDefEqProofs only [z0, vmp,↓vmd,seval]; rfl) ?_ | refine envQ (by simp -implicitDefEqProofs only [z0, vmp,↓vmd,seval]; rfl) ?_
    simp -implicitDefEqProofs only [hgi, hw, z0, Int.natCast_nonneg, Int.toNat_natCast, vmp,↓vmd,seval]
    refine onB_dec (fun h4 => ?_) (fun h4 => ?_)
    · rw [if_pos h4] at hr
      simp -implicitDefEqProofs only [h4, hw, vmp,↓vmd,seval]
      refine onBk_to i [0] (by simp) rfl (by omega) ⟨by omega, hr⟩ (by simp -implicitDefEqProofs only [kpp,seval]) (by simp -implicitDefEqProofs only [kpp,seval])
    · rw [if_neg h4] at hr
      rw [← hr] at hf
      subst hf
      simp -implicitDefEqProofs only [h4, vmp,↓vmd,seval]
      exact rmerge_up ls hl c v2 (i + 1) b (by omega) (by omega) rfl rfl rfl rfl rfl rfl
end Go.Proofs.Ytbllbkhkmngclaa.W
