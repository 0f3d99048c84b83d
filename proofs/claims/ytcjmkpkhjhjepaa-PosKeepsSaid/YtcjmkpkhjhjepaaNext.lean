/-
  The next glyph that a lookup sees, the one before, and all of them: what each function does. No condition.
-/
import Derived.Test.YtcjmkpkhjhjepaaTypes
namespace Go.Proofs.Ytcjmkpkhjhjepaa.W
open Go Go.Vm Go.Proofs
set_option maxRecDepth 100000
set_option linter.unusedSimpArgs false
set_option maxHeartbeats 1000000
/-! typecase/skip.eye$1 -/
def c101_0 : AC :=
 (.block 1
 (.seq (.reg [⟨some 7, none, .mov (.s 0)⟩,
⟨some 8, none, .load false 1 (.s 1)⟩,
⟨some 9, none, .bin .add (.s 7) (.s 8)⟩,
⟨some 0, none, .mov (.s 9)⟩])
 (.seq (.seq (.reg [⟨some 10, none, .mov (.s 0)⟩,
⟨some 11, none, .bin .lss (.s 10) (.c (.pure (.int .i64 0)))⟩,
⟨some 12, none, .mov (.s 11)⟩,
⟨some 13, some (12, false), .mov (.s 0)⟩,
⟨some 14, some (12, false), .load false 1 (.s 2)⟩,
⟨some 15, some (12, false), .len (.s 14)⟩,
⟨some 16, some (12, false), .bin .geq (.s 13) (.s 15)⟩,
⟨some 17, none, .pick (.s 12) (.c (.pure (.bool true))) (.s 16)⟩])
 (.cond (.s 17)
 (.seq (.reg [⟨some 6, none, .mov (.c (.pure (.int .i64 (-1))))⟩])
 .ret)
 .skip))
 (.seq (.regq [⟨some 18, none, .load true 6 (.s 3)⟩,
⟨some 19, none, .load true 4 (.s 4)⟩,
⟨some 20, none, .load false 1 (.s 2)⟩,
⟨some 21, none, .mov (.s 0)⟩,
⟨some 22, none, .idxA 10 (.s 20) (.s 21)⟩,
⟨some 23, none, .fldA 0 (.s 22)⟩,
⟨some 24, none, .load false 1 (.s 23)⟩]
[⟨some 25, none, .call 49 [(.s 18), (.s 19), (.s 24)]⟩,
⟨some 26, none, .un .not (.s 25)⟩])
 (.cond (.s 26)
 (.seq (.reg [⟨some 27, none, .mov (.s 0)⟩,
⟨some 6, none, .mov (.s 27)⟩])
 .ret)
 .skip)))))
def c101 : AC :=
 (.seq (.reg [⟨some 6, none, .mov (.c (.pure (.int .i64 0)))⟩])
 (.block 0
 (.loop c101_0)))
theorem k101 : OkF 101 Try.f101 c101 [.t 6] 28 := ⟨Try.func101, by kernel_rfl, by kernel_rfl, by kernel_rfl, Try.ntmps101⟩
/-! typecase/skip.eye -/
def c83 : AC :=
 (.seq (.reg [⟨some 4, none, .box (.s 0)⟩,
⟨some 5, none, .box (.s 1)⟩,
⟨some 6, none, .box (.s 2)⟩,
⟨some 7, none, .box (.s 3)⟩,
⟨some 8, none, .mov (.c (.pure .nilf))⟩])
 (.seq (.reg [⟨some 9, none, .mkfn (.func 101) [] [(.s 7), (.s 6), (.s 4), (.s 5)]⟩,
⟨some 8, none, .mov (.s 9)⟩])
 .ret))
theorem k83 : OkF 83 Try.f83 c83 [.t 8] 10 := ⟨Try.func83, by kernel_rfl, by kernel_rfl, by kernel_rfl, Try.ntmps83⟩
/-! typecase/skip.Next -/
def c59 : AC :=
 (.seq (.reg [⟨some 4, none, .box (.s 0)⟩,
⟨some 5, none, .box (.s 1)⟩,
⟨some 8, none, .mov (.c (.pure (.int .i64 0)))⟩])
 (.seq (.seq (.reg [⟨some 9, none, .mov (.s 3)⟩,
⟨some 10, none, .mov (.s 2)⟩,
⟨some 11, none, .len (.s 10)⟩,
⟨some 12, none, .bin .geq (.s 9) (.s 11)⟩])
 (.cond (.s 12)
 (.seq (.reg [⟨some 8, none, .mov (.c (.pure (.int .i64 (-1))))⟩])
 .ret)
 .skip))
 (.seq (.reg [⟨some 13, none, .load true 6 (.s 4)⟩,
⟨some 14, none, .load true 4 (.s 5)⟩,
⟨some 15, none, .mov (.s 2)⟩,
⟨some 16, none, .call 83 [(.s 13), (.s 14), (.s 15), (.c (.pure (.int .i64 1)))]⟩,
⟨some 17, none, .mov (.s 3)⟩,
⟨some 18, none, .mx (.s 17) (.c (.pure (.int .i64 (-1))))⟩,
⟨some 19, none, .callv (.s 16) [(.s 18)]⟩,
⟨some 8, none, .mov (.s 19)⟩])
 .ret)))
theorem k59 : OkF 59 Try.f59 c59 [.t 8] 20 := ⟨Try.func59, by kernel_rfl, by kernel_rfl, by kernel_rfl, Try.ntmps59⟩
/-! typecase/skip.Prev -/
def c64 : AC :=
 (.seq (.reg [⟨some 4, none, .box (.s 0)⟩,
⟨some 5, none, .box (.s 1)⟩,
⟨some 8, none, .mov (.c (.pure (.int .i64 0)))⟩])
 (.seq (.seq (.reg [⟨some 9, none, .mov (.s 3)⟩,
⟨some 10, none, .bin .lss (.s 9) (.c (.pure (.int .i64 0)))⟩])
 (.cond (.s 10)
 (.seq (.reg [⟨some 8, none, .mov (.c (.pure (.int .i64 (-1))))⟩])
 .ret)
 .skip))
 (.seq (.reg [⟨some 11, none, .load true 6 (.s 4)⟩,
⟨some 12, none, .load true 4 (.s 5)⟩,
⟨some 13, none, .mov (.s 2)⟩,
⟨some 14, none, .call 83 [(.s 11), (.s 12), (.s 13), (.c (.pure (.int .i64 (-1))))]⟩,
⟨some 15, none, .mov (.s 3)⟩,
⟨some 16, none, .mov (.s 2)⟩,
⟨some 17, none, .len (.s 16)⟩,
⟨some 18, none, .mn (.s 15) (.s 17)⟩,
⟨some 19, none, .callv (.s 14) [(.s 18)]⟩,
⟨some 8, none, .mov (.s 19)⟩])
 .ret)))
theorem k64 : OkF 64 Try.f64 c64 [.t 8] 20 := ⟨Try.func64, by kernel_rfl, by kernel_rfl, by kernel_rfl, Try.ntmps64⟩
/-! typecase/typecaseref26.Next -/
def c60_0 : AC :=
 (.seq (.reg [⟨some 8, none, .mov (.c (.pure (.int .i64 (-1))))⟩])
 .ret)
def c60_1 : AC :=
 (.seq (.seq (.reg [⟨some 13, none, .mov (.s 9)⟩,
⟨some 14, none, .mov (.s 2)⟩,
⟨some 15, none, .len (.s 14)⟩,
⟨some 16, none, .bin .lss (.s 13) (.s 15)⟩,
⟨some 17, none, .mov (.s 16)⟩,
⟨some 18, some (17, true), .mov (.s 3)⟩,
⟨some 19, some (17, true), .mov (.s 2)⟩,
⟨some 20, some (17, true), .len (.s 19)⟩,
⟨some 21, some (17, true), .bin .lss (.s 18) (.s 20)⟩,
⟨some 22, none, .pick (.s 17) (.s 21) (.c (.pure (.bool false)))⟩])
 (.cond (.s 22)
 .skip
 (.exit 0)))
 (.seq (.block 1
 (.seq (.regq [⟨some 25, none, .load true 6 (.s 4)⟩,
⟨some 26, none, .load true 4 (.s 5)⟩,
⟨some 27, none, .mov (.s 2)⟩,
⟨some 28, none, .mov (.s 9)⟩,
⟨some 29, none, .idxA 10 (.s 27) (.s 28)⟩,
⟨some 30, none, .fldA 0 (.s 29)⟩,
⟨some 31, none, .load false 1 (.s 30)⟩]
[⟨some 32, none, .call 50 [(.s 25), (.s 26), (.s 31)]⟩,
⟨some 33, none, .un .not (.s 32)⟩])
 (.cond (.s 33)
 (.seq (.reg [⟨some 34, none, .mov (.s 9)⟩,
⟨some 8, none, .mov (.s 34)⟩])
 .ret)
 .skip)))
 (.reg [⟨some 23, none, .mov (.s 9)⟩,
⟨some 24, none, .bin .add (.s 23) (.c (.pure (.int .i64 1)))⟩,
⟨some 9, none, .mov (.s 24)⟩])))
def c60 : AC :=
 (.seq (.reg [⟨some 4, none, .box (.s 0)⟩,
⟨some 5, none, .box (.s 1)⟩,
⟨some 8, none, .mov (.c (.pure (.int .i64 0)))⟩])
 (.seq (.seq (.reg [⟨some 10, none, .mov (.s 3)⟩,
⟨some 11, none, .mx (.s 10) (.c (.pure (.int .i64 (-1))))⟩,
⟨some 12, none, .bin .add (.s 11) (.c (.pure (.int .i64 1)))⟩,
⟨some 9, none, .mov (.s 12)⟩])
 (.block 0
 (.loop c60_1)))
 c60_0))
/-! typecase/typecaseref26.Prev -/
def c85_0 : AC :=
 (.seq (.reg [⟨some 8, none, .mov (.c (.pure (.int .i64 (-1))))⟩])
 .ret)
def c85_1 : AC :=
 (.seq (.seq (.reg [⟨some 15, none, .mov (.s 9)⟩,
⟨some 16, none, .bin .geq (.s 15) (.c (.pure (.int .i64 0)))⟩,
⟨some 17, none, .mov (.s 16)⟩,
⟨some 18, some (17, true), .mov (.s 3)⟩,
⟨some 19, some (17, true), .bin .gtr (.s 18) (.c (.pure (.int .i64 0)))⟩,
⟨some 20, none, .pick (.s 17) (.s 19) (.c (.pure (.bool false)))⟩])
 (.cond (.s 20)
 .skip
 (.exit 0)))
 (.seq (.block 1
 (.seq (.regq [⟨some 23, none, .load true 6 (.s 4)⟩,
⟨some 24, none, .load true 4 (.s 5)⟩,
⟨some 25, none, .mov (.s 2)⟩,
⟨some 26, none, .mov (.s 9)⟩,
⟨some 27, none, .idxA 10 (.s 25) (.s 26)⟩,
⟨some 28, none, .fldA 0 (.s 27)⟩,
⟨some 29, none, .load false 1 (.s 28)⟩]
[⟨some 30, none, .call 50 [(.s 23), (.s 24), (.s 29)]⟩,
⟨some 31, none, .un .not (.s 30)⟩])
 (.cond (.s 31)
 (.seq (.reg [⟨some 32, none, .mov (.s 9)⟩,
⟨some 8, none, .mov (.s 32)⟩])
 .ret)
 .skip)))
 (.reg [⟨some 21, none, .mov (.s 9)⟩,
⟨some 22, none, .bin .sub (.s 21) (.c (.pure (.int .i64 1)))⟩,
⟨some 9, none, .mov (.s 22)⟩])))
def c85 : AC :=
 (.seq (.reg [⟨some 4, none, .box (.s 0)⟩,
⟨some 5, none, .box (.s 1)⟩,
⟨some 8, none, .mov (.c (.pure (.int .i64 0)))⟩])
 (.seq (.seq (.reg [⟨some 10, none, .mov (.s 3)⟩,
⟨some 11, none, .mov (.s 2)⟩,
⟨some 12, none, .len (.s 11)⟩,
⟨some 13, none, .mn (.s 10) (.s 12)⟩,
⟨some 14, none, .bin .sub (.s 13) (.c (.pure (.int .i64 1)))⟩,
⟨some 9, none, .mov (.s 14)⟩])
 (.block 0
 (.loop c85_1)))
 c85_0))
/-- a glyph -/
structure Gl where
 id : Int
 cl : Int
 adv : Int
 dx : Int
 dy : Int
 to : Int
 hang : Int
 lig : Int
 comp : Int
 mask : Int
abbrev gl (g : Gl) : V := .agg [I g.id, I g.cl, I g.adv, I g.dx, I g.dy, I g.to, I g.hang, I g.lig, I g.comp, I g.mask]
theorem gl_of {v : V} (h : OkE true (List.replicate 10 (.int .i64)) v) : ∃ g, v = gl g ∧ True := by
 obtain ⟨l, hl, rfl⟩ := ints_of h
 match l, hl with
 | [a, b, c, d, e, f, g, h, i, j], _ => exact ⟨⟨a, b, c, d, e, f, g, h, i, j⟩, rfl, trivial⟩
theorem gls_of {v : V} (h : OkC (.sl true (List.replicate 10 (.int .i64))) v) : ∃ l : List Gl, v = .sl (l.map gl) ∧ l.length ≤ maxLen := by
 obtain ⟨l, h1, h2, _⟩ := lists_of (f := gl) (p := fun _ => True) (fun _ h => gl_of h) h
 exact ⟨l, h1, h2⟩
/-- is the glyph at a place seen? -/
def seesF (f : Fo) (b n : Int) (ls : List Gl) (j : Nat) : Bool := !skipsF f b n (((ls[j]?).map (·.id)).getD 0)
theorem seesF_at {f : Fo} {b n : Int} {ls : List Gl} {j : Nat} (h : j < ls.length) : seesF f b n ls j = !skipsF f b n ls[j].id := by
 simp [seesF, List.getElem?_eq_getElem h]
def upF (p : Nat → Bool) : Nat → Nat → Int
 | 0, _ => -1
 | m + 1, i => if p i = true then (i : Int) else upF p m (i + 1)
def downF (p : Nat → Bool) : Nat → Int
 | 0 => -1
 | i + 1 => if p i = true then (i : Int) else downF p i
def nextF (p : Nat → Bool) (n : Nat) (a : Int) : Int := if (n : Int) ≤ a then -1 else upF p (n - (max a (-1) + 1).toNat) (max a (-1) + 1).toNat
def prevF (p : Nat → Bool) (n : Nat) (a : Int) : Int := if a < 0 then -1 else downF p (min a n).toNat
def eyeH (f : Fo) (k : V) (ls : List Gl) (y : Int) : Heap := [⟨[.pure (fo f)], 6, .live⟩, ⟨[.pure k], 4, .live⟩, ⟨[.pure (.sl (ls.map gl))], 1, .live⟩, ⟨[.pure (I y)], 1, .live⟩]
theorem eyeH_eq {f : Fo} {k : V} {ls : List Gl} {y : Int} : eyeH f k ls y = [⟨[.pure (fo f)], 6, .live⟩, ⟨[.pure k], 4, .live⟩, ⟨[.pure (.sl (ls.map gl))], 1, .live⟩, ⟨[.pure (I y)], 1, .live⟩] := rfl
theorem eye_c (f : Fo) (a b n : Int) (s : V) (ls : List Gl) (y : Int) : CallA Try.prog 83 [.pure (fo f), .pure (lkV a b n s), .pure (.sl (ls.map gl)), .pure (I y)] []
  fun r H' => r = .func (.func 101) [] [.ptr 3 0 0, .ptr 2 0 0, .ptr 0 0 0, .ptr 1 0 0] ∧ H' = eyeH f (lkV a b n s) ls y := by
 refine k83.a (by simp) ?_
 unfold c83
 simp -implicitDefEqProofs only [*, vmp,↓vmd,seval]
 exact rfl
theorem up_c (f : Fo) (a b n : Int) (s : V) (ls : List Gl) (i : Nat) (hi : i ≤ ls.length) (hl : ls.length ≤ 1000) : CallA Try.prog 101 [.pure (I ((i : Int) - 1)), .ptr 3 0 0, .ptr 2 0 0, .ptr 0 0 0, .ptr 1 0 0] (eyeH f (lkV a b n s) ls 1)
  fun r H' => r = .pure (I (upF (seesF f b n ls) (ls.length - i) i)) ∧ H' = eyeH f (lkV a b n s) ls 1 := by
 refine k101.a (by simp) ?_
 unfold c101
 rw [eyeH_eq]
 simp -implicitDefEqProofs only [*, vmp,↓vmd,seval]
 refine loop_at (T := Nat) (fun j => [(0, .pure (I ((j : Int) - 1))), (1, .ptr 3 0 0), (2, .ptr 2 0 0), (3, .ptr 0 0 0), (4, .ptr 1 0 0)]) (fun _ => eyeH f (lkV a b n s) ls 1) (fun j => j ≤ ls.length ∧ upF (seesF f b n ls) (ls.length - j) j = upF (seesF f b n ls) (ls.length - i) i) (fun j => ls.length - j)
  i [0, 1, 2, 3] (by simp) rfl ⟨hi, rfl⟩ (by simp -implicitDefEqProofs only [kpp,seval]) (by simp -implicitDefEqProofs only [eyeH_eq, kpp,seval]) ?_
 rintro j ⟨hj, hr⟩
 rw [eyeH_eq]
 unfold c101_0
 have hw : IntKind.wrap .i64 ((j : Int) - 1 + 1) = (j : Int) := by rw [wrap_id (by omega) (by omega)]; omega
 simp -implicitDefEqProofs only [hw, show ¬ ((j : Int) < 0) by omega, vmp,↓vmd,seval]
 refine onIf_intro fun _ => ?_
 simp -implicitDefEqProofs only [vmp,↓vmd,seval]
 by_cases h1 : (ls.length : Int) ≤ (j : Int)
 ·rw [show ls.length - j = 0 by omega, upF] at hr
  simp -implicitDefEqProofs only [h1, ← hr, vmp,↓vmd,seval]
 ·have hlt : j < ls.length := by omega
  rw [show ls.length - j = (ls.length - (j + 1)) + 1 by omega, upF, seesF_at hlt] at hr
  simp -implicitDefEqProofs only [h1, map_at hlt, Int.natCast_nonneg, vmp,↓vmd,seval]
  refine onC_q (skips_q f a b n _ s) rfl ?_
  cases hs : skipsF f b n ls[j].id
  ·rw [hs] at hr
   simp only [Bool.not_false, if_true] at hr
   simp -implicitDefEqProofs only [hs, ← hr, vmp,↓vmd,seval]
  ·rw [hs] at hr
   simp only [Bool.not_true, Bool.false_eq_true, if_false] at hr
   simp -implicitDefEqProofs only [hs, vmp,↓vmd,seval]
   refine onBk_to (j + 1) [0, 1, 2, 3] (by simp) rfl (by omega) ⟨hlt, hr⟩ (by simp -implicitDefEqProofs only [show ((j + 1 : Nat) : Int) - 1 = (j : Int) by omega, kpp,seval]) (by simp -implicitDefEqProofs only [eyeH_eq, kpp,seval])
theorem down_c (f : Fo) (a b n : Int) (s : V) (ls : List Gl) (i : Nat) (hi : i ≤ ls.length) (hl : ls.length ≤ 1000) : CallA Try.prog 101 [.pure (I (i : Int)), .ptr 3 0 0, .ptr 2 0 0, .ptr 0 0 0, .ptr 1 0 0] (eyeH f (lkV a b n s) ls (-1))
  fun r H' => r = .pure (I (downF (seesF f b n ls) i)) ∧ H' = eyeH f (lkV a b n s) ls (-1) := by
 refine k101.a (by simp) ?_
 unfold c101
 rw [eyeH_eq]
 simp -implicitDefEqProofs only [*, vmp,↓vmd,seval]
 refine loop_at (T := Nat) (fun j => [(0, .pure (I (j : Int))), (1, .ptr 3 0 0), (2, .ptr 2 0 0), (3, .ptr 0 0 0), (4, .ptr 1 0 0)]) (fun _ => eyeH f (lkV a b n s) ls (-1)) (fun j => j ≤ i ∧ downF (seesF f b n ls) j = downF (seesF f b n ls) i) (fun j => j)
  i [0, 1, 2, 3] (by simp) rfl ⟨Nat.le_refl _, rfl⟩ (by simp -implicitDefEqProofs only [kpp,seval]) (by simp -implicitDefEqProofs only [eyeH_eq, kpp,seval]) ?_
 rintro j ⟨hj, hr⟩
 rw [eyeH_eq]
 unfold c101_0
 cases j with
 | zero =>
  rw [downF] at hr
  simp -implicitDefEqProofs only [show IntKind.wrap .i64 (-1) = -1 from rfl, show IntKind.wrap .i64 (((0 : Nat) : Int) + -1) = -1 from rfl, show IntKind.wrap .i64 (0 + -1) = -1 from rfl, ← hr, vmp,↓vmd,seval]
 | succ j =>
  have hlt : j < ls.length := by omega
  have hw : IntKind.wrap .i64 (((j + 1 : Nat) : Int) + -1) = (j : Int) := by rw [wrap_id (by omega) (by omega)]; omega
  rw [downF, seesF_at hlt] at hr
  simp -implicitDefEqProofs only [hw, show ¬ ((j : Int) < 0) by omega, vmp,↓vmd,seval]
  refine onIf_intro fun _ => ?_
  simp -implicitDefEqProofs only [show ¬ ((ls.length : Int) ≤ (j : Int)) by omega, show (j : Int) < (ls.length : Int) by omega, map_at hlt, Int.natCast_nonneg, vmp,↓vmd,seval]
  refine onC_q (skips_q f a b n _ s) rfl ?_
  cases hs : skipsF f b n ls[j].id
  ·rw [hs] at hr
   simp only [Bool.not_false, if_true] at hr
   simp -implicitDefEqProofs only [hs, ← hr, vmp,↓vmd,seval]
  ·rw [hs] at hr
   simp only [Bool.not_true, Bool.false_eq_true, if_false] at hr
   simp -implicitDefEqProofs only [hs, vmp,↓vmd,seval]
   refine onBk_to j [0, 1, 2, 3] (by simp) rfl (by omega) ⟨by omega, hr⟩ (by simp -implicitDefEqProofs only [kpp,seval]) (by simp -implicitDefEqProofs only [eyeH_eq, kpp,seval])
theorem next_q (f : Fo) (a b n : Int) (s : V) (ls : List Gl) (x : Int) (hl : ls.length ≤ 1000) : FnQ Try.prog 59 [fo f, lkV a b n s, .sl (ls.map gl), I x] [I (nextF (seesF f b n ls) ls.length x)] := by
 refine k59.q (by simp) ?_
 unfold c59
 simp -implicitDefEqProofs only [*, vmp,↓vmd,seval]
 refine onIf_intro fun _ => ?_
 simp -implicitDefEqProofs only [*, vmp,↓vmd,seval]
 by_cases h1 : (ls.length : Int) ≤ x
 ·simp -implicitDefEqProofs only [h1, vmp,↓vmd,seval]
  rw [nextF, if_pos h1]
  exact gives_pure
 rw [nextF, if_neg h1]
 generalize hi : (max x (-1) + 1).toNat = i
 have hx : max x (-1) = (i : Int) - 1 := by omega
 simp -implicitDefEqProofs only [h1, vmp,↓vmd,seval]
 refine onC_fr (eye_c f a b n s ls 1) [] (by simp) trivial rfl rfl (by simp) ?_
 rw [eyeH_eq]
 simp -implicitDefEqProofs only [hx, vmp,↓vmd,seval]
 refine onC_fr (up_c f a b n s ls i (by omega) hl) [2, 3, 4, 5] (by simp) (by simp -implicitDefEqProofs only [eyeH_eq, kpp,seval]) rfl rfl (by simp [eyeH]) ?_
 rw [eyeH_eq]
 simp -implicitDefEqProofs only [vmp,↓vmd,seval]
 exact gives_pure
theorem prev_q (f : Fo) (a b n : Int) (s : V) (ls : List Gl) (x : Int) (hl : ls.length ≤ 1000) : FnQ Try.prog 64 [fo f, lkV a b n s, .sl (ls.map gl), I x] [I (prevF (seesF f b n ls) ls.length x)] := by
 refine k64.q (by simp) ?_
 unfold c64
 simp -implicitDefEqProofs only [*, vmp,↓vmd,seval]
 by_cases h1 : x < 0
 ·simp -implicitDefEqProofs only [h1, vmp,↓vmd,seval]
  rw [prevF, if_pos h1]
  exact gives_pure
 rw [prevF, if_neg h1]
 generalize hi : (min x ls.length).toNat = i
 have hx : min x (ls.length : Int) = (i : Int) := by omega
 simp -implicitDefEqProofs only [h1, vmp,↓vmd,seval]
 refine onC_fr (eye_c f a b n s ls (-1)) [] (by simp) trivial rfl rfl (by simp) ?_
 rw [eyeH_eq]
 simp -implicitDefEqProofs only [vmp,↓vmd,seval]
 refine onIf_intro fun _ => ?_
 simp -implicitDefEqProofs only [hx, vmp,↓vmd,seval]
 refine onC_fr (down_c f a b n s ls i (by omega) hl) [2, 3, 4, 5] (by simp) (by simp -implicitDefEqProofs only [eyeH_eq, kpp,seval]) rfl rfl (by simp [eyeH]) ?_
 rw [eyeH_eq]
 simp -implicitDefEqProofs only [vmp,↓vmd,seval]
 exact gives_pure
end Go.Proofs.Ytcjmkpkhjhjepaa.W
