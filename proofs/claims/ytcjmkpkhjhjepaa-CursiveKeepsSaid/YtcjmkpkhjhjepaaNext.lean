/-
  The next glyph that a lookup sees, the one before, and all of them: what each function does. No condition.
-/
import Derived.Test.YtcjmkpkhjhjepaaTypes
namespace Go.Proofs.Ytcjmkpkhjhjepaa.W
open Go Go.Vm Go.Proofs
set_option maxRecDepth 100000
set_option linter.unusedSimpArgs false
set_option maxHeartbeats 1000000
/-! typecase/skip.eye$1 -/
def c101_0 : AC :=
  (.block 1
  (.seq (.reg [⟨some 7, none, .mov (.s 0)⟩,
    ⟨some 8, none, .load false 1 (.s 1)⟩,
    ⟨some 9, none, .bin .add (.s 7) (.s 8)⟩,
    ⟨some 0, none, .mov (.s 9)⟩])
  (.seq (.seq (.reg [⟨some 10, none, .mov (.s 0)⟩,
    ⟨some 11, none, .bin .lss (.s 10) (.c (.pure (.int .i64 0)))⟩,
    ⟨some 12, none, .mov (.s 11)⟩,
    ⟨some 13, some (12, false), .mov (.s 0)⟩,
    ⟨some 14, some (12, false), .load false 1 (.s 2)⟩,
    ⟨some 15, some (12, false), .len (.s 14)⟩,
    ⟨some 16, some (12, false), .bin .geq (.s 13) (.s 15)⟩,
    ⟨some 17, none, .pick (.s 12) (.c (.pure (.bool true))) (.s 16)⟩])
  (.cond (.s 17)
  (.seq (.reg [⟨some 6, none, .mov (.c (.pure (.int .i64 (-1))))⟩])
  .ret)
  .skip))
  (.seq (.regq [⟨some 18, none, .load true 6 (.s 3)⟩,
    ⟨some 19, none, .load true 4 (.s 4)⟩,
    ⟨some 20, none, .load false 1 (.s 2)⟩,
    ⟨some 21, none, .mov (.s 0)⟩,
    ⟨some 22, none, .idxA 10 (.s 20) (.s 21)⟩,
    ⟨some 23, none, .fldA 0 (.s 22)⟩,
    ⟨some 24, none, .load false 1 (.s 23)⟩]
    [⟨some 25, none, .call 49 [(.s 18), (.s 19), (.s 24)]⟩,
    ⟨some 26, none, .un .not (.s 25)⟩])
  (.cond (.s 26)
  (.seq (.reg [⟨some 27, none, .mov (.s 0)⟩,
    ⟨some 6, none, .mov (.s 27)⟩])
  .ret)
  .skip)))))
def c101 : AC :=
  (.seq (.reg [⟨some 6, none, .mov (.c (.pure (.int .i64 0)))⟩])
  (.block 0
  (.loop c101_0)))
theorem k101 : (Try.f101.body.bind fun c => cCode Try.prog Try.f101.ntmps RCs c) = some c101 := by kernel_rfl
theorem h101 : (Try.f101.name == "runtime.NumGoroutine") = false := by kernel_rfl
theorem r101 : resC Try.prog Try.f101.results.toList = some [.t 6] := by kernel_rfl
theorem a101 {args : List S} {H : Heap} {K : S → Heap → Prop} (hn : args.length ≤ 28) (h : aWx Try.prog H.length c101 (PostX [.t 6] K) (argEnv 0 args) H) : CallA Try.prog 101 args H K :=
  callA_of_x mixed Try.func101 h101 k101 r101 (by rw [Try.ntmps101]; exact hn) h
theorem q101 {vs ds : List V} (hn : vs.length ≤ 28) (h : aWx Try.prog 0 c101 (PostX [.t 6] (Gives ds)) (argEnv 0 (vs.map .pure)) []) : FnQ Try.prog 101 vs ds :=
  fnQ_of_call (a101 (by simpa using hn) h)
/-! typecase/skip.eye -/
def c83 : AC :=
  (.seq (.reg [⟨some 4, none, .box (.s 0)⟩,
    ⟨some 5, none, .box (.s 1)⟩,
    ⟨some 6, none, .box (.s 2)⟩,
    ⟨some 7, none, .box (.s 3)⟩,
    ⟨some 8, none, .mov (.c (.pure .nilf))⟩])
  (.seq (.reg [⟨some 9, none, .mkfn (.func 101) [] [(.s 7), (.s 6), (.s 4), (.s 5)]⟩,
    ⟨some 8, none, .mov (.s 9)⟩])
  .ret))
theorem k83 : (Try.f83.body.bind fun c => cCode Try.prog Try.f83.ntmps RCs c) = some c83 := by kernel_rfl
theorem h83 : (Try.f83.name == "runtime.NumGoroutine") = false := by kernel_rfl
theorem r83 : resC Try.prog Try.f83.results.toList = some [.t 8] := by kernel_rfl
theorem a83 {args : List S} {H : Heap} {K : S → Heap → Prop} (hn : args.length ≤ 10) (h : aWx Try.prog H.length c83 (PostX [.t 8] K) (argEnv 0 args) H) : CallA Try.prog 83 args H K :=
  callA_of_x mixed Try.func83 h83 k83 r83 (by rw [Try.ntmps83]; exact hn) h
theorem q83 {vs ds : List V} (hn : vs.length ≤ 10) (h : aWx Try.prog 0 c83 (PostX [.t 8] (Gives ds)) (argEnv 0 (vs.map .pure)) []) : FnQ Try.prog 83 vs ds :=
  fnQ_of_call (a83 (by simpa using hn) h)
/-! typecase/skip.Next -/
def c59 : AC :=
  (.seq (.reg [⟨some 4, none, .box (.s 0)⟩,
    ⟨some 5, none, .box (.s 1)⟩,
    ⟨some 8, none, .mov (.c (.pure (.int .i64 0)))⟩])
  (.seq (.seq (.reg [⟨some 9, none, .mov (.s 3)⟩,
    ⟨some 10, none, .mov (.s 2)⟩,
    ⟨some 11, none, .len (.s 10)⟩,
    ⟨some 12, none, .bin .geq (.s 9) (.s 11)⟩])
  (.cond (.s 12)
  (.seq (.reg [⟨some 8, none, .mov (.c (.pure (.int .i64 (-1))))⟩])
  .ret)
  .skip))
  (.seq (.reg [⟨some 13, none, .load true 6 (.s 4)⟩,
    ⟨some 14, none, .load true 4 (.s 5)⟩,
    ⟨some 15, none, .mov (.s 2)⟩,
    ⟨some 16, none, .call 83 [(.s 13), (.s 14), (.s 15), (.c (.pure (.int .i64 1)))]⟩,
    ⟨some 17, none, .mov (.s 3)⟩,
    ⟨some 18, none, .mx (.s 17) (.c (.pure (.int .i64 (-1))))⟩,
    ⟨some 19, none, .callv (.s 16) [(.s 18)]⟩,
    ⟨some 8, none, .mov (.s 19)⟩])
  .ret)))
theorem k59 : (Try.f59.body.bind fun c => cCode Try.prog Try.f59.ntmps RCs c) = some c59 := by kernel_rfl
theorem h59 : (Try.f59.name == "runtime.NumGoroutine") = false := by kernel_rfl
theorem r59 : resC Try.prog Try.f59.results.toList = some [.t 8] := by kernel_rfl
theorem a59 {args : List S} {H : Heap} {K : S → Heap → Prop} (hn : args.length ≤ 20) (h : aWx Try.prog H.length c59 (PostX [.t 8] K) (argEnv 0 args) H) : CallA Try.prog 59 args H K :=
  callA_of_x mixed Try.func59 h59 k59 r59 (by rw [Try.ntmps59]; exact hn) h
theorem q59 {vs ds : List V} (hn : vs.length ≤ 20) (h : aWx Try.prog 0 c59 (PostX [.t 8] (Gives ds)) (argEnv 0 (vs.map .pure)) []) : FnQ Try.prog 59 vs ds :=
  fnQ_of_call (a59 (by simpa using hn) h)
/-! typecase/skip.Prev -/
def c64 : AC :=
  (.seq (.reg [⟨some 4, none, .box (.s 0)⟩,
    ⟨some 5, none, .box (.s 1)⟩,
    ⟨some 8, none, .mov (.c (.pure (.int .i64 0)))⟩])
  (.seq (.seq (.reg [⟨some 9, none, .mov (.s 3)⟩,
    ⟨some 10, none, .bin .lss (.s 9) (.c (.pure (.int .i64 0)))⟩])
  (.cond (.s 10)
  (.seq (.reg [⟨some 8, none, .mov (.c (.pure (.int .i64 (-1))))⟩])
  .ret)
  .skip))
  (.seq (.reg [⟨some 11, none, .load true 6 (.s 4)⟩,
    ⟨some 12, none, .load true 4 (.s 5)⟩,
    ⟨some 13, none, .mov (.s 2)⟩,
    ⟨some 14, none, .call 83 [(.s 11), (.s 12), (.s 13), (.c (.pure (.int .i64 (-1))))]⟩,
    ⟨some 15, none, .mov (.s 3)⟩,
    ⟨some 16, none, .mov (.s 2)⟩,
    ⟨some 17, none, .len (.s 16)⟩,
    ⟨some 18, none, .mn (.s 15) (.s 17)⟩,
    ⟨some 19, none, .callv (.s 14) [(.s 18)]⟩,
    ⟨some 8, none, .mov (.s 19)⟩])
  .ret)))
theorem k64 : (Try.f64.body.bind fun c => cCode Try.prog Try.f64.ntmps RCs c) = some c64 := by kernel_rfl
theorem h64 : (Try.f64.name == "runtime.NumGoroutine") = false := by kernel_rfl
theorem r64 : resC Try.prog Try.f64.results.toList = some [.t 8] := by kernel_rfl
theorem a64 {args : List S} {H : Heap} {K : S → Heap → Prop} (hn : args.length ≤ 20) (h : aWx Try.prog H.length c64 (PostX [.t 8] K) (argEnv 0 args) H) : CallA Try.prog 64 args H K :=
  callA_of_x mixed Try.func64 h64 k64 r64 (by rw [Try.ntmps64]; exact hn) h
theorem q64 {vs ds : List V} (hn : vs.length ≤ 20) (h : aWx Try.prog 0 c64 (PostX [.t 8] (Gives ds)) (argEnv 0 (vs.map .pure)) []) : FnQ Try.prog 64 vs ds :=
  fnQ_of_call (a64 (by simpa using hn) h)
/-! typecase/typecaseref26.Next -/
def c60_0 : AC :=
  (.seq (.reg [⟨some 8, none, .mov (.c (.pure (.int .i64 (-1))))⟩])
  .ret)
def c60_1 : AC :=
  (.seq (.seq (.reg [⟨some 13, none, .mov (.s 9)⟩,
    ⟨some 14, none, .mov (.s 2)⟩,
    ⟨some 15, none, .len (.s 14)⟩,
    ⟨some 16, none, .bin .lss (.s 13) (.s 15)⟩,
    ⟨some 17, none, .mov (.s 16)⟩,
    ⟨some 18, some (17, true), .mov (.s 3)⟩,
    ⟨some 19, some (17, true), .mov (.s 2)⟩,
    ⟨some 20, some (17, true), .len (.s 19)⟩,
    ⟨some 21, some (17, true), .bin .lss (.s 18) (.s 20)⟩,
    ⟨some 22, none, .pick (.s 17) (.s 21) (.c (.pure (.bool false)))⟩])
  (.cond (.s 22)
  .skip
  (.exit 0)))
  (.seq (.block 1
  (.seq (.regq [⟨some 25, none, .load true 6 (.s 4)⟩,
    ⟨some 26, none, .load true 4 (.s 5)⟩,
    ⟨some 27, none, .mov (.s 2)⟩,
    ⟨some 28, none, .mov (.s 9)⟩,
    ⟨some 29, none, .idxA 10 (.s 27) (.s 28)⟩,
    ⟨some 30, none, .fldA 0 (.s 29)⟩,
    ⟨some 31, none, .load false 1 (.s 30)⟩]
    [⟨some 32, none, .call 50 [(.s 25), (.s 26), (.s 31)]⟩,
    ⟨some 33, none, .un .not (.s 32)⟩])
  (.cond (.s 33)
  (.seq (.reg [⟨some 34, none, .mov (.s 9)⟩,
    ⟨some 8, none, .mov (.s 34)⟩])
  .ret)
  .skip)))
  (.reg [⟨some 23, none, .mov (.s 9)⟩,
    ⟨some 24, none, .bin .add (.s 23) (.c (.pure (.int .i64 1)))⟩,
    ⟨some 9, none, .mov (.s 24)⟩])))
def c60 : AC :=
  (.seq (.reg [⟨some 4, none, .box (.s 0)⟩,
    ⟨some 5, none, .box (.s 1)⟩,
    ⟨some 8, none, .mov (.c (.pure (.int .i64 0)))⟩])
  (.seq (.seq (.reg [⟨some 10, none, .mov (.s 3)⟩,
    ⟨some 11, none, .mx (.s 10) (.c (.pure (.int .i64 (-1))))⟩,
    ⟨some 12, none, .bin .add (.s 11) (.c (.pure (.int .i64 1)))⟩,
    ⟨some 9, none, .mov (.s 12)⟩])
  (.block 0
  (.loop c60_1)))
  c60_0))
theorem k60 : (Try.f60.body.bind fun c => cCode Try.prog Try.f60.ntmps RCs c) = some c60 := by kernel_rfl
theorem h60 : (Try.f60.name == "runtime.NumGoroutine") = false := by kernel_rfl
theorem r60 : resC Try.prog Try.f60.results.toList = some [.t 8] := by kernel_rfl
theorem a60 {args : List S} {H : Heap} {K : S → Heap → Prop} (hn : args.length ≤ 35) (h : aWx Try.prog H.length c60 (PostX [.t 8] K) (argEnv 0 args) H) : CallA Try.prog 60 args H K :=
  callA_of_x mixed Try.func60 h60 k60 r60 (by rw [Try.ntmps60]; exact hn) h
theorem q60 {vs ds : List V} (hn : vs.length ≤ 35) (h : aWx Try.prog 0 c60 (PostX [.t 8] (Gives ds)) (argEnv 0 (vs.map .pure)) []) : FnQ Try.prog 60 vs ds :=
  fnQ_of_call (a60 (by simpa using hn) h)
/-! typecase/typecaseref26.Prev -/
def c85_0 : AC :=
  (.seq (.reg [⟨some 8, none, .mov (.c (.pure (.int .i64 (-1))))⟩])
  .ret)
def c85_1 : AC :=
  (.seq (.seq (.reg [⟨some 15, none, .mov (.s 9)⟩,
    ⟨some 16, none, .bin .geq (.s 15) (.c (.pure (.int .i64 0)))⟩,
    ⟨some 17, none, .mov (.s 16)⟩,
    ⟨some 18, some (17, true), .mov (.s 3)⟩,
    ⟨some 19, some (17, true), .bin .gtr (.s 18) (.c (.pure (.int .i64 0)))⟩,
    ⟨some 20, none, .pick (.s 17) (.s 19) (.c (.pure (.bool false)))⟩])
  (.cond (.s 20)
  .skip
  (.exit 0)))
  (.seq (.block 1
  (.seq (.regq [⟨some 23, none, .load true 6 (.s 4)⟩,
    ⟨some 24, none, .load true 4 (.s 5)⟩,
    ⟨some 25, none, .mov (.s 2)⟩,
    ⟨some 26, none, .mov (.s 9)⟩,
    ⟨some 27, none, .idxA 10 (.s 25) (.s 26)⟩,
    ⟨some 28, none, .fldA 0 (.s 27)⟩,
    ⟨some 29, none, .load false 1 (.s 28)⟩]
    [⟨some 30, none, .call 50 [(.s 23), (.s 24), (.s 29)]⟩,
    ⟨some 31, none, .un .not (.s 30)⟩])
  (.cond (.s 31)
  (.seq (.reg [⟨some 32, none, .mov (.s 9)⟩,
    ⟨some 8, none, .mov (.s 32)⟩])
  .ret)
  .skip)))
  (.reg [⟨some 21, none, .mov (.s 9)⟩,
    ⟨some 22, none, .bin .sub (.s 21) (.c (.pure (.int .i64 1)))⟩,
    ⟨some 9, none, .mov (.s 22)⟩])))
def c85 : AC :=
  (.seq (.reg [⟨some 4, none, .box (.s 0)⟩,
    ⟨some 5, none, .box (.s 1)⟩,
    ⟨some 8, none, .mov (.c (.pure (.int .i64 0)))⟩])
  (.seq (.seq (.reg [⟨some 10, none, .mov (.s 3)⟩,
    ⟨some 11, none, .mov (.s 2)⟩,
    ⟨some 12, none, .len (.s 11)⟩,
    ⟨some 13, none, .mn (.s 10) (.s 12)⟩,
    ⟨some 14, none, .bin .sub (.s 13) (.c (.pure (.int .i64 1)))⟩,
    ⟨some 9, none, .mov (.s 14)⟩])
  (.block 0
  (.loop c85_1)))
  c85_0))
theorem k85 : (Try.f85.body.bind fun c => cCode Try.prog Try.f85.ntmps RCs c) = some c85 := by kernel_rfl
theorem h85 : (Try.f85.name == "runtime.NumGoroutine") = false := by kernel_rfl
theorem r85 : resC Try.prog Try.f85.results.toList = some [.t 8] := by kernel_rfl
theorem a85 {args : List S} {H : Heap} {K : S → Heap → Prop} (hn : args.length ≤ 33) (h : aWx Try.prog H.length c85 (PostX [.t 8] K) (argEnv 0 args) H) : CallA Try.prog 85 args H K :=
  callA_of_x mixed Try.func85 h85 k85 r85 (by rw [Try.ntmps85]; exact hn) h
theorem q85 {vs ds : List V} (hn : vs.length ≤ 33) (h : aWx Try.prog 0 c85 (PostX [.t 8] (Gives ds)) (argEnv 0 (vs.map .pure)) []) : FnQ Try.prog 85 vs ds :=
  fnQ_of_call (a85 (by simpa using hn) h)

/-- a glyph -/
structure Gl where
  id : Int
  cl : Int
  adv : Int
  dx : Int
  dy : Int
  to : Int
  hang : Int
  lig : Int
  comp : Int
  mask : Int
abbrev gl (g : Gl) : V := .agg [I g.id, I g.cl, I g.adv, I g.dx, I g.dy, I g.to, I g.hang, I g.lig, I g.comp, I g.mask]
theorem gl_of {v : V} (h : OkE true (List.replicate 10 (.int .i64)) v) : ∃ g, v = gl g ∧ True := by
  obtain ⟨l, hl, rfl⟩ := ints_of h
  match l, hl with
  | [a, b, c, d, e, f, g, h, i, j], _ => exact ⟨⟨a, b, c, d, e, f, g, h, i, j⟩, rfl, trivial⟩
theorem gls_of {v : V} (h : OkC (.sl true (List.replicate 10 (.int .i64))) v) : ∃ l : List Gl, v = .sl (l.map gl) ∧ l.length ≤ maxLen := by
  obtain ⟨l, h1, h2, _⟩ := lists_of (f := gl) (p := fun _ => True) (fun _ h => gl_of h) h
  exact ⟨l, h1, h2⟩
/-- is the glyph at a place seen? -/
def seesF (f : Fo) (b n : Int) (ls : List Gl) (j : Nat) : Bool := !skipsF f b n (((ls[j]?).map (·.id)).getD 0)
theorem seesF_at {f : Fo} {b n : Int} {ls : List Gl} {j : Nat} (h : j < ls.length) : seesF f b n ls j = !skipsF f b n ls[j].id := by
  simp [seesF, List.getElem?_eq_getElem h]
def upF (p : Nat → Bool) : Nat → Nat → Int
  | 0, _ => -1
  | m + 1, i => if p i = true then (i : Int) else upF p m (i + 1)
def downF (p : Nat → Bool) : Nat → Int
  | 0 => -1
  | i + 1 => if p i = true then (i : Int) else downF p i
def nextF (p : Nat → Bool) (n : Nat) (a : Int) : Int := if (n : Int) ≤ a then -1 else upF p (n - (max a (-1) + 1).toNat) (max a (-1) + 1).toNat
def prevF (p : Nat → Bool) (n : Nat) (a : Int) : Int := if a < 0 then -1 else downF p (min a n).toNat
def eyeH (f : Fo) (k : V) (ls : List Gl) (y : Int) : Heap := [⟨[.pure (fo f)], 6, .live⟩, ⟨[.pure k], 4, .live⟩, ⟨[.pure (.sl (ls.map gl))], 1, .live⟩, ⟨[.pure (I y)], 1, .live⟩]
theorem eyeH_eq {f : Fo} {k : V} {ls : List Gl} {y : Int} : eyeH f k ls y = [⟨[.pure (fo f)], 6, .live⟩, ⟨[.pure k], 4, .live⟩, ⟨[.pure (.sl (ls.map gl))], 1, .live⟩, ⟨[.pure (I y)], 1, .live⟩] := rfl
theorem eye_c (f : Fo) (a b n : Int) (s : V) (ls : List Gl) (y : Int) : CallA Try.prog 83 [.pure (fo f), .pure (lkV a b n s), .pure (.sl (ls.map gl)), .pure (I y)] []
    fun r H' => r = .func (.func 101) [] [.ptr 3 0 0, .ptr 2 0 0, .ptr 0 0 0, .ptr 1 0 0] ∧ H' = eyeH f (lkV a b n s) ls y := by
  refine a83 (by simp) ?_
  unfold c83
  simp -implicitDefEqProofs only [*, vmp,↓vmd,seval]
  exact rfl
theorem up_c (f : Fo) (a b n : Int) (s : V) (ls : List Gl) (i : Nat) (hi : i ≤ ls.length) (hl : ls.length ≤ 1000) : CallA Try.prog 101 [.pure (I ((i : Int) - 1)), .ptr 3 0 0, .ptr 2 0 0, .ptr 0 0 0, .ptr 1 0 0] (eyeH f (lkV a b n s) ls 1)
    fun r H' => r = .pure (I (upF (seesF f b n ls) (ls.length - i) i)) ∧ H' = eyeH f (lkV a b n s) ls 1 := by
  refine a101 (by simp) ?_
  unfold c101
  rw [eyeH_eq]
  simp -implicitDefEqProofs only [*, vmp,↓vmd,seval]
  refine loop_at (T := Nat) (fun j => [(0, .pure (I ((j : Int) - 1))), (1, .ptr 3 0 0), (2, .ptr 2 0 0), (3, .ptr 0 0 0), (4, .ptr 1 0 0)]) (fun _ => eyeH f (lkV a b n s) ls 1) (fun j => j ≤ ls.length ∧ upF (seesF f b n ls) (ls.length - j) j = upF (seesF f b n ls) (ls.length - i) i) (fun j => ls.length - j)
    i [0, 1, 2, 3] (by simp) rfl ⟨hi, rfl⟩ (by simp -implicitDefEqProofs only [kpp,seval]) (by simp -implicitDefEqProofs only [eyeH_eq, kpp,seval]) ?_
  rintro j ⟨hj, hr⟩
  rw [eyeH_eq]
  unfold c101_0
  have hw : IntKind.wrap .i64 ((j : Int) - 1 + 1) = (j : Int) := by rw [wrap_id (by omega) (by omega)]; omega
  simp -implicitDefEqProofs only [hw, show ¬ ((j : Int) < 0) by omega, vmp,↓vmd,seval]
  refine onIf_intro fun _ => ?_
  simp -implicitDefEqProofs only [vmp,↓vmd,seval]
  by_cases h1 : (ls.length : Int) ≤ (j : Int)
  · rw [show ls.length - j = 0 by omega, upF] at hr
    simp -implicitDefEqProofs only [h1, ← hr, vmp,↓vmd,seval]
  · have hlt : j < ls.length := by omega
    rw [show ls.length - j = (ls.length - (j + 1)) + 1 by omega, upF, seesF_at hlt] at hr
    simp -implicitDefEqProofs only [h1, map_at hlt, Int.natCast_nonneg, vmp,↓vmd,seval]
    refine onC_q (skips_q f a b n _ s) rfl ?_
    cases hs : skipsF f b n ls[j].id
    · rw [hs] at hr
      simp only [Bool.not_false, if_true] at hr
      simp -implicitDefEqProofs only [hs, ← hr, vmp,↓vmd,seval]
    · rw [hs] at hr
      simp only [Bool.not_true, Bool.false_eq_true, if_false] at hr
      simp -implicitDefEqProofs only [hs, vmp,↓vmd,seval]
      refine onBk_to (j + 1) [0, 1, 2, 3] (by simp) rfl (by omega) ⟨hlt, hr⟩ (by simp -implicitDefEqProofs only [show ((j + 1 : Nat) : Int) - 1 = (j : Int) by omega, kpp,seval]) (by simp -implicitDefEqProofs only [eyeH_eq, kpp,seval])
theorem down_c (f : Fo) (a b n : Int) (s : V) (ls : List Gl) (i : Nat) (hi : i ≤ ls.length) (hl : ls.length ≤ 1000) : CallA Try.prog 101 [.pure (I (i : Int)), .ptr 3 0 0, .ptr 2 0 0, .ptr 0 0 0, .ptr 1 0 0] (eyeH f (lkV a b n s) ls (-1))
    fun r H' => r = .pure (I (downF (seesF f b n ls) i)) ∧ H' = eyeH f (lkV a b n s) ls (-1) := by
  refine a101 (by simp) ?_
  unfold c101
  rw [eyeH_eq]
  simp -implicitDefEqProofs only [*, vmp,↓vmd,seval]
  refine loop_at (T := Nat) (fun j => [(0, .pure (I (j : Int))), (1, .ptr 3 0 0), (2, .ptr 2 0 0), (3, .ptr 0 0 0), (4, .ptr 1 0 0)]) (fun _ => eyeH f (lkV a b n s) ls (-1)) (fun j => j ≤ i ∧ downF (seesF f b n ls) j = downF (seesF f b n ls) i) (fun j => j)
    i [0, 1, 2, 3] (by simp) rfl ⟨Nat.le_refl _, rfl⟩ (by simp -implicitDefEqProofs only [kpp,seval]) (by simp -implicitDefEqProofs only [eyeH_eq, kpp,seval]) ?_
  rintro j ⟨hj, hr⟩
  rw [eyeH_eq]
  unfold c101_0
  cases j with
  | zero =>
    rw [downF] at hr
    simp -implicitDefEqProofs only [show IntKind.wrap .i64 (-1) = -1 from rfl, show IntKind.wrap .i64 (((0 : Nat) : Int) + -1) = -1 from rfl, show IntKind.wrap .i64 (0 + -1) = -1 from rfl, ← hr, vmp,↓vmd,seval]
  | succ j =>
    have hlt : j < ls.length := by omega
    have hw : IntKind.wrap .i64 (((j + 1 : Nat) : Int) + -1) = (j : Int) := by rw [wrap_id (by omega) (by omega)]; omega
    rw [downF, seesF_at hlt] at hr
    simp -implicitDefEqProofs only [hw, show ¬ ((j : Int) < 0) by omega, vmp,↓vmd,seval]
    refine onIf_intro fun _ => ?_
    simp -implicitDefEqProofs only [show ¬ ((ls.length : Int) ≤ (j : Int)) by omega, show (j : Int) < (ls.length : Int) by omega, map_at hlt, Int.natCast_nonneg, vmp,↓vmd,seval]
    refine onC_q (skips_q f a b n _ s) rfl ?_
    cases hs : skipsF f b n ls[j].id
    · rw [hs] at hr
      simp only [Bool.not_false, if_true] at hr
      simp -implicitDefEqProofs only [hs, ← hr, vmp,↓vmd,seval]
    · rw [hs] at hr
      simp only [Bool.not_true, Bool.false_eq_true, if_false] at hr
      simp -implicitDefEqProofs only [hs, vmp,↓vmd,seval]
      refine onBk_to j [0, 1, 2, 3] (by simp) rfl (by omega) ⟨by omega, hr⟩ (by simp -implicitDefEqProofs only [kpp,seval]) (by simp -implicitDefEqProofs only [eyeH_eq, kpp,seval])
theorem next_q (f : Fo) (a b n : Int) (s : V) (ls : List Gl) (x : Int) (hl : ls.length ≤ 1000) : FnQ Try.prog 59 [fo f, lkV a b n s, .sl (ls.map gl), I x] [I (nextF (seesF f b n ls) ls.length x)] := by
  refine q59 (by simp) ?_
  unfold c59
  simp -implicitDefEqProofs only [*, vmp,↓vmd,seval]
  refine onIf_intro fun _ => ?_
  simp -implicitDefEqProofs only [*, vmp,↓vmd,seval]
  by_cases h1 : (ls.length : Int) ≤ x
  · simp -implicitDefEqProofs only [h1, vmp,↓vmd,seval]
    rw [nextF, if_pos h1]
    exact gives_pure
  rw [nextF, if_neg h1]
  generalize hi : (max x (-1) + 1).toNat = i
  have hx : max x (-1) = (i : Int) - 1 := by omega
  simp -implicitDefEqProofs only [h1, vmp,↓vmd,seval]
  refine onC_fr (eye_c f a b n s ls 1) [] (by simp) trivial rfl rfl (by simp) ?_
  rw [eyeH_eq]
  simp -implicitDefEqProofs only [hx, vmp,↓vmd,seval]
  refine onC_fr (up_c f a b n s ls i (by omega) hl) [2, 3, 4, 5] (by simp) (by simp -implicitDefEqProofs only [eyeH_eq, kpp,seval]) rfl rfl (by simp [eyeH]) ?_
  rw [eyeH_eq]
  simp -implicitDefEqProofs only [vmp,↓vmd,seval]
  exact gives_pure
theorem prev_q (f : Fo) (a b n : Int) (s : V) (ls : List Gl) (x : Int) (hl : ls.length ≤ 1000) : FnQ Try.prog 64 [fo f, lkV a b n s, .sl (ls.map gl), I x] [I (prevF (seesF f b n ls) ls.length x)] := by
  refine q64 (by simp) ?_
  unfold c64
  simp -implicitDefEqProofs only [*, vmp,↓vmd,seval]
  by_cases h1 : x < 0
  · simp -implicitDefEqProofs only [h1, vmp,↓vmd,seval]
    rw [prevF, if_pos h1]
    exact gives_pure
  rw [prevF, if_neg h1]
  generalize hi : (min x ls.length).toNat = i
  have hx : min x (ls.length : Int) = (i : Int) := by omega
  simp -implicitDefEqProofs only [h1, vmp,↓vmd,seval]
  refine onC_fr (eye_c f a b n s ls (-1)) [] (by simp) trivial rfl rfl (by simp) ?_
  rw [eyeH_eq]
  simp -implicitDefEqProofs only [vmp,↓vmd,seval]
  refine onIf_intro fun _ => ?_
  simp -implicitDefEqProofs only [hx, vmp,↓vmd,seval]
  refine onC_fr (down_c f a b n s ls i (by omega) hl) [2, 3, 4, 5] (by simp) (by simp -implicitDefEqProofs only [eyeH_eq, kpp,seval]) rfl rfl (by simp [eyeH]) ?_
  rw [eyeH_eq]
  simp -implicitDefEqProofs only [vmp,↓vmd,seval]
  exact gives_pure
theorem rnext_q (f : Fo) (a b n : Int) (s : V) (ls : List Gl) (x : Int) (hl : ls.length ≤ 1000) : FnQ Try.prog 60 [fo f, lkV a b n s, .sl (ls.map gl), I x] [I (nextF (seesF f b n ls) ls.length x)] := by
  refine q60 (by simp) ?_
  unfold c60
  simp -implicitDefEqProofs only [*, vmp,↓vmd,seval]
  by_cases h1 : (ls.length : Int) ≤ x
  · rw [nextF, if_pos h1]
    refine loop_at (T := Unit) (fun _ => [(9, .pure (I (IntKind.wrap .i64 (max x (-1) + 1)))), (2, .pure (.sl (ls.map gl))), (3, .pure (I x))]) (fun _ => []) (fun _ => True) (fun _ => 0)
      () [] (by simp) rfl trivial (by simp -implicitDefEqProofs only [kpp,seval]) (by simp -implicitDefEqProofs only [kpp,seval]) ?_
    intro _ _
    unfold c60_1
    simp -implicitDefEqProofs only [vmp,↓vmd,seval]
    refine onIf_intro fun _ => ?_
    simp -implicitDefEqProofs only [vmp,↓vmd,seval]
    refine onB_dec (fun h2 => ?_) (fun h2 => ?_)
    · simp -implicitDefEqProofs only [h2, vmp,↓vmd,seval]
      refine onIf_intro fun _ => ?_
      simp -implicitDefEqProofs only [h2, show ¬ x < (ls.length : Int) by omega, vmp,↓vmd,seval]
      unfold c60_0
      simp -implicitDefEqProofs only [vmp,↓vmd,seval]
      exact gives_pure
    · simp -implicitDefEqProofs only [h2, vmp,↓vmd,seval]
      unfold c60_0
      simp -implicitDefEqProofs only [vmp,↓vmd,seval]
      exact gives_pure
  rw [nextF, if_neg h1]
  generalize hi : (max x (-1) + 1).toNat = i
  have hx : IntKind.wrap .i64 (max x (-1) + 1) = (i : Int) := by rw [wrap_id (by omega) (by omega)]; omega
  rw [hx]
  refine loop_at (T := Nat) (fun j => [(9, .pure (I (j : Int))), (2, .pure (.sl (ls.map gl))), (3, .pure (I x)), (4, .ptr 0 0 0), (5, .ptr 1 0 0)]) (fun _ => [⟨[.pure (fo f)], 6, .live⟩, ⟨[.pure (lkV a b n s)], 4, .live⟩]) (fun j => j ≤ ls.length ∧ upF (seesF f b n ls) (ls.length - j) j = upF (seesF f b n ls) (ls.length - i) i) (fun j => ls.length - j)
    i [0, 1] (by simp) rfl ⟨by omega, rfl⟩ (by simp -implicitDefEqProofs only [kpp,seval]) (by simp -implicitDefEqProofs only [kpp,seval]) ?_
  rintro j ⟨hj, hr⟩
  unfold c60_1
  simp -implicitDefEqProofs only [vmp,↓vmd,seval]
  refine onIf_intro fun _ => ?_
  simp -implicitDefEqProofs only [vmp,↓vmd,seval]
  by_cases h2 : (j : Int) < (ls.length : Int)
  · have hlt : j < ls.length := by omega
    rw [show ls.length - j = (ls.length - (j + 1)) + 1 by omega, upF, seesF_at hlt] at hr
    simp -implicitDefEqProofs only [h2, vmp,↓vmd,seval]
    refine onIf_intro fun _ => ?_
    simp -implicitDefEqProofs only [h2, show x < (ls.length : Int) by omega, map_at hlt, Int.natCast_nonneg, vmp,↓vmd,seval]
    refine onC_q (rskips_q f a b n _ s) rfl ?_
    cases hs : skipsF f b n ls[j].id
    · rw [hs] at hr
      simp only [Bool.not_false, if_true] at hr
      simp -implicitDefEqProofs only [hs, vmp,↓vmd,seval]
      rw [← hr]
      exact gives_pure
    · rw [hs] at hr
      simp only [Bool.not_true, Bool.false_eq_true, if_false] at hr
      simp -implicitDefEqProofs only [hs, vmp,↓vmd,seval]
      refine onBk_to (j + 1) [0, 1] (by simp) rfl (by omega) ⟨hlt, hr⟩ (by simp -implicitDefEqProofs only [next_at hlt (by omega), kpp,seval]) (by simp -implicitDefEqProofs only [kpp,seval])
  · rw [show ls.length - j = 0 by omega, upF] at hr
    simp -implicitDefEqProofs only [h2, vmp,↓vmd,seval]
    unfold c60_0
    simp -implicitDefEqProofs only [vmp,↓vmd,seval]
    rw [← hr]
    exact gives_pure
theorem rprev_q (f : Fo) (a b n : Int) (s : V) (ls : List Gl) (x : Int) (hl : ls.length ≤ 1000) : FnQ Try.prog 85 [fo f, lkV a b n s, .sl (ls.map gl), I x] [I (prevF (seesF f b n ls) ls.length x)] := by
  refine q85 (by simp) ?_
  unfold c85
  simp -implicitDefEqProofs only [*, vmp,↓vmd,seval]
  refine onIf_intro fun _ => ?_
  simp -implicitDefEqProofs only [*, vmp,↓vmd,seval]
  by_cases h1 : x ≤ 0
  · rw [show prevF (seesF f b n ls) ls.length x = -1 by
      rw [prevF]
      split
      · rfl
      · rw [show (min x (ls.length : Int)).toNat = 0 by omega]; rfl]
    refine loop_at (T := Unit) (fun _ => [(9, .pure (I (IntKind.wrap .i64 (min x ls.length - 1)))), (2, .pure (.sl (ls.map gl))), (3, .pure (I x))]) (fun _ => []) (fun _ => True) (fun _ => 0)
      () [] (by simp) rfl trivial (by simp -implicitDefEqProofs only [kpp,seval]) (by simp -implicitDefEqProofs only [kpp,seval]) ?_
    intro _ _
    unfold c85_1
    simp -implicitDefEqProofs only [vmp,↓vmd,seval]
    refine onB_dec (fun h2 => ?_) (fun h2 => ?_)
    · simp -implicitDefEqProofs only [h2, show ¬ 0 < x by omega, vmp,↓vmd,seval]
      unfold c85_0
      simp -implicitDefEqProofs only [vmp,↓vmd,seval]
      exact gives_pure
    · simp -implicitDefEqProofs only [h2, vmp,↓vmd,seval]
      unfold c85_0
      simp -implicitDefEqProofs only [vmp,↓vmd,seval]
      exact gives_pure
  rw [prevF, if_neg (by omega)]
  generalize hi : (min x ls.length).toNat = i
  have hx : IntKind.wrap .i64 (min x (ls.length : Int) - 1) = (i : Int) - 1 := by rw [wrap_id (by omega) (by omega)]; omega
  rw [hx]
  refine loop_at (T := Nat) (fun j => [(9, .pure (I ((j : Int) - 1))), (2, .pure (.sl (ls.map gl))), (3, .pure (I x)), (4, .ptr 0 0 0), (5, .ptr 1 0 0)]) (fun _ => [⟨[.pure (fo f)], 6, .live⟩, ⟨[.pure (lkV a b n s)], 4, .live⟩]) (fun j => j ≤ i ∧ downF (seesF f b n ls) j = downF (seesF f b n ls) i) (fun j => j)
    i [0, 1] (by simp) rfl ⟨Nat.le_refl _, rfl⟩ (by simp -implicitDefEqProofs only [kpp,seval]) (by simp -implicitDefEqProofs only [kpp,seval]) ?_
  rintro j ⟨hj, hr⟩
  unfold c85_1
  cases j with
  | zero =>
    rw [downF] at hr
    simp -implicitDefEqProofs only [show ((0 : Nat) : Int) - 1 = -1 from rfl, show (0 : Int) - 1 = -1 from rfl, vmp,↓vmd,seval]
    unfold c85_0
    simp -implicitDefEqProofs only [vmp,↓vmd,seval]
    rw [← hr]
    exact gives_pure
  | succ j =>
    have hlt : j < ls.length := by omega
    have hj1 : ((j + 1 : Nat) : Int) - 1 = (j : Int) := by omega
    rw [downF, seesF_at hlt] at hr
    simp -implicitDefEqProofs only [hj1, show (0 : Int) ≤ (j : Int) by omega, show 0 < x by omega, map_at hlt, Int.natCast_nonneg, vmp,↓vmd,seval]
    refine onC_q (rskips_q f a b n _ s) rfl ?_
    cases hs : skipsF f b n ls[j].id
    · rw [hs] at hr
      simp only [Bool.not_false, if_true] at hr
      simp -implicitDefEqProofs only [hs, hj1, vmp,↓vmd,seval]
      rw [← hr]
      exact gives_pure
    · rw [hs] at hr
      simp only [Bool.not_true, Bool.false_eq_true, if_false] at hr
      have hw : IntKind.wrap .i64 ((j : Int) - 1) = (j : Int) - 1 := by rw [wrap_id (by omega) (by omega)]
      simp -implicitDefEqProofs only [hs, hj1, vmp,↓vmd,seval]
      refine onBk_to j [0, 1] (by simp) rfl (by omega) ⟨by omega, hr⟩ (by simp -implicitDefEqProofs only [hj1, hw, kpp,seval]) (by simp -implicitDefEqProofs only [kpp,seval])
end Go.Proofs.Ytcjmkpkhjhjepaa.W
