/-
  The next glyph that a lookup sees, the one before, and all of them: what each function does. No condition.
-/
import Derived.Test.YtcjmkpkhjhjepaaGreatTypes
namespace Go.Proofs.YtcjmkpkhjhjepaaGreat.W
open Go Go.Vm Go.Proofs
set_option maxRecDepth 100000
set_option linter.unusedSimpArgs false
set_option maxHeartbeats 1000000
/-! typecase/skip.eye$1 -/
def c118_0 : AC :=
 (.block 1
 (.seq (.reg [oo 7 (.mov (.s 0)),
 oo 8 (.load false 1 (.s 1)),
 oo 9 (.bin .add (.s 7) (.s 8)),
 oo 0 (.mov (.s 9))])
 (.seq (.seq (.reg [oo 10 (.mov (.s 0)),
 oo 11 (.bin .lss (.s 10) (nI 0)),
 oo 12 (.mov (.s 11)),
 og 13 12 false (.mov (.s 0)),
 og 14 12 false (.load false 1 (.s 2)),
 og 15 12 false (.len (.s 14)),
 og 16 12 false (.bin .geq (.s 13) (.s 15)),
 oo 17 (.pick (.s 12) (nB true) (.s 16))])
 (.cond (.s 17)
 (.seq (.reg [oo 6 (.mov (nI (-1)))])
 .ret)
 .skip))
 (.seq (.regq [oo 18 (.load true 6 (.s 3)),
 oo 19 (.load true 4 (.s 4)),
 oo 20 (.load false 1 (.s 2)),
 oo 21 (.mov (.s 0)),
 oo 22 (.idxA 10 (.s 20) (.s 21)),
 oo 23 (.fldA 0 (.s 22)),
 oo 24 (.load false 1 (.s 23))]
[oo 25 (.call 31 [(.s 18), (.s 19), (.s 24)]),
 oo 26 (.un .not (.s 25))])
 (.cond (.s 26)
 (.seq (.reg [oo 27 (.mov (.s 0)),
 oo 6 (.mov (.s 27))])
 .ret)
 .skip)))))
def c118 : AC :=
 (.seq (.reg [oo 6 (.mov (nI 0))])
 (.block 0
 (.loop c118_0)))
theorem k118 : OkF 118 Tryz.f118 c118 [.t 6] 28 := ⟨Tryz.func118, by kernel_rfl, by kernel_rfl, by kernel_rfl, Tryz.ntmps118⟩
/-! typecase/skip.eye -/
def c107 : AC :=
 (.seq (.reg [oo 4 (.box (.s 0)),
 oo 5 (.box (.s 1)),
 oo 6 (.box (.s 2)),
 oo 7 (.box (.s 3)),
 oo 8 (.mov (.c (.pure .nilf)))])
 (.seq (.reg [oo 9 (.mkfn (.func 118) [] [(.s 7), (.s 6), (.s 4), (.s 5)]),
 oo 8 (.mov (.s 9))])
 .ret))
theorem k107 : OkF 107 Tryz.f107 c107 [.t 8] 10 := ⟨Tryz.func107, by kernel_rfl, by kernel_rfl, by kernel_rfl, Tryz.ntmps107⟩
/-! typecase/skip.Next -/
def c79 : AC :=
 (.seq (.reg [oo 4 (.box (.s 0)),
 oo 5 (.box (.s 1)),
 oo 8 (.mov (nI 0))])
 (.seq (.seq (.reg [oo 9 (.mov (.s 3)),
 oo 10 (.mov (.s 2)),
 oo 11 (.len (.s 10)),
 oo 12 (.bin .geq (.s 9) (.s 11))])
 (.cond (.s 12)
 (.seq (.reg [oo 8 (.mov (nI (-1)))])
 .ret)
 .skip))
 (.seq (.reg [oo 13 (.load true 6 (.s 4)),
 oo 14 (.load true 4 (.s 5)),
 oo 15 (.mov (.s 2)),
 oo 16 (.call 107 [(.s 13), (.s 14), (.s 15), (nI 1)]),
 oo 17 (.mov (.s 3)),
 oo 18 (.mx (.s 17) (nI (-1))),
 oo 19 (.callv (.s 16) [(.s 18)]),
 oo 8 (.mov (.s 19))])
 .ret)))
theorem k79 : OkF 79 Tryz.f79 c79 [.t 8] 20 := ⟨Tryz.func79, by kernel_rfl, by kernel_rfl, by kernel_rfl, Tryz.ntmps79⟩
/-! typecase/skip.Prev -/
def c105 : AC :=
 (.seq (.reg [oo 4 (.box (.s 0)),
 oo 5 (.box (.s 1)),
 oo 8 (.mov (nI 0))])
 (.seq (.seq (.reg [oo 9 (.mov (.s 3)),
 oo 10 (.bin .lss (.s 9) (nI 0))])
 (.cond (.s 10)
 (.seq (.reg [oo 8 (.mov (nI (-1)))])
 .ret)
 .skip))
 (.seq (.reg [oo 11 (.load true 6 (.s 4)),
 oo 12 (.load true 4 (.s 5)),
 oo 13 (.mov (.s 2)),
 oo 14 (.call 107 [(.s 11), (.s 12), (.s 13), (nI (-1))]),
 oo 15 (.mov (.s 3)),
 oo 16 (.mov (.s 2)),
 oo 17 (.len (.s 16)),
 oo 18 (.mn (.s 15) (.s 17)),
 oo 19 (.callv (.s 14) [(.s 18)]),
 oo 8 (.mov (.s 19))])
 .ret)))
theorem k105 : OkF 105 Tryz.f105 c105 [.t 8] 20 := ⟨Tryz.func105, by kernel_rfl, by kernel_rfl, by kernel_rfl, Tryz.ntmps105⟩
/-! typecase/typecaseref26.Next -/
def c92_0 : AC :=
 (.seq (.reg [oo 8 (.mov (nI (-1)))])
 .ret)
def c92_1 : AC :=
 (.seq (.seq (.reg [oo 13 (.mov (.s 9)),
 oo 14 (.mov (.s 2)),
 oo 15 (.len (.s 14)),
 oo 16 (.bin .lss (.s 13) (.s 15)),
 oo 17 (.mov (.s 16)),
 og 18 17 true (.mov (.s 3)),
 og 19 17 true (.mov (.s 2)),
 og 20 17 true (.len (.s 19)),
 og 21 17 true (.bin .lss (.s 18) (.s 20)),
 oo 22 (.pick (.s 17) (.s 21) (nB false))])
 (.cond (.s 22)
 .skip
 (.exit 0)))
 (.seq (.block 1
 (.seq (.regq [oo 25 (.load true 6 (.s 4)),
 oo 26 (.load true 4 (.s 5)),
 oo 27 (.mov (.s 2)),
 oo 28 (.mov (.s 9)),
 oo 29 (.idxA 10 (.s 27) (.s 28)),
 oo 30 (.fldA 0 (.s 29)),
 oo 31 (.load false 1 (.s 30))]
[oo 32 (.call 34 [(.s 25), (.s 26), (.s 31)]),
 oo 33 (.un .not (.s 32))])
 (.cond (.s 33)
 (.seq (.reg [oo 34 (.mov (.s 9)),
 oo 8 (.mov (.s 34))])
 .ret)
 .skip)))
 (.reg [oo 23 (.mov (.s 9)),
 oo 24 (.bin .add (.s 23) (nI 1)),
 oo 9 (.mov (.s 24))])))
def c92 : AC :=
 (.seq (.reg [oo 4 (.box (.s 0)),
 oo 5 (.box (.s 1)),
 oo 8 (.mov (nI 0))])
 (.seq (.seq (.reg [oo 10 (.mov (.s 3)),
 oo 11 (.mx (.s 10) (nI (-1))),
 oo 12 (.bin .add (.s 11) (nI 1)),
 oo 9 (.mov (.s 12))])
 (.block 0
 (.loop c92_1)))
 c92_0))
theorem k92 : OkF 92 Tryz.f92 c92 [.t 8] 35 := ⟨Tryz.func92, by kernel_rfl, by kernel_rfl, by kernel_rfl, Tryz.ntmps92⟩
/-! typecase/typecaseref26.Prev -/
def c116_0 : AC :=
 (.seq (.reg [oo 8 (.mov (nI (-1)))])
 .ret)
def c116_1 : AC :=
 (.seq (.seq (.reg [oo 15 (.mov (.s 9)),
 oo 16 (.bin .geq (.s 15) (nI 0)),
 oo 17 (.mov (.s 16)),
 og 18 17 true (.mov (.s 3)),
 og 19 17 true (.bin .gtr (.s 18) (nI 0)),
 oo 20 (.pick (.s 17) (.s 19) (nB false))])
 (.cond (.s 20)
 .skip
 (.exit 0)))
 (.seq (.block 1
 (.seq (.regq [oo 23 (.load true 6 (.s 4)),
 oo 24 (.load true 4 (.s 5)),
 oo 25 (.mov (.s 2)),
 oo 26 (.mov (.s 9)),
 oo 27 (.idxA 10 (.s 25) (.s 26)),
 oo 28 (.fldA 0 (.s 27)),
 oo 29 (.load false 1 (.s 28))]
[oo 30 (.call 34 [(.s 23), (.s 24), (.s 29)]),
 oo 31 (.un .not (.s 30))])
 (.cond (.s 31)
 (.seq (.reg [oo 32 (.mov (.s 9)),
 oo 8 (.mov (.s 32))])
 .ret)
 .skip)))
 (.reg [oo 21 (.mov (.s 9)),
 oo 22 (.bin .sub (.s 21) (nI 1)),
 oo 9 (.mov (.s 22))])))
def c116 : AC :=
 (.seq (.reg [oo 4 (.box (.s 0)),
 oo 5 (.box (.s 1)),
 oo 8 (.mov (nI 0))])
 (.seq (.seq (.reg [oo 10 (.mov (.s 3)),
 oo 11 (.mov (.s 2)),
 oo 12 (.len (.s 11)),
 oo 13 (.mn (.s 10) (.s 12)),
 oo 14 (.bin .sub (.s 13) (nI 1)),
 oo 9 (.mov (.s 14))])
 (.block 0
 (.loop c116_1)))
 c116_0))
theorem k116 : OkF 116 Tryz.f116 c116 [.t 8] 33 := ⟨Tryz.func116, by kernel_rfl, by kernel_rfl, by kernel_rfl, Tryz.ntmps116⟩
/-- a glyph -/
structure Gl where
 id : Int
 cl : Int
 adv : Int
 dx : Int
 dy : Int
 to : Int
 hang : Int
 lig : Int
 comp : Int
 mask : Int
abbrev gl (g : Gl) : V := .agg [I g.id, I g.cl, I g.adv, I g.dx, I g.dy, I g.to, I g.hang, I g.lig, I g.comp, I g.mask]
theorem gl_of {v : V} (h : OkE true (List.replicate 10 (.int .i64)) v) : ∃ g, v = gl g ∧ True := by
 obtain ⟨l, hl, rfl⟩ := ints_of h
 match l, hl with
 | [a, b, c, d, e, f, g, h, i, j], _ => exact ⟨⟨a, b, c, d, e, f, g, h, i, j⟩, rfl, trivial⟩
theorem gls_of {v : V} (h : OkC (.sl true (List.replicate 10 (.int .i64))) v) : ∃ l : List Gl, v = .sl (l.map gl) ∧ l.length ≤ maxLen := by
 obtain ⟨l, h1, h2, _⟩ := lists_of (f := gl) (p := fun _ => True) (fun _ h => gl_of h) h
 exact ⟨l, h1, h2⟩
/-- is the glyph at a place seen? -/
def seesF (f : Fo) (b n : Int) (ls : List Gl) (j : Nat) : Bool := !skipsF f b n (((ls[j]?).map (·.id)).getD 0)
theorem seesF_at {f : Fo} {b n : Int} {ls : List Gl} {j : Nat} (h : j < ls.length) : seesF f b n ls j = !skipsF f b n ls[j].id := by
 simp [seesF, List.getElem?_eq_getElem h]
def upF (p : Nat → Bool) : Nat → Nat → Int
 | 0, _ => -1
 | m + 1, i => if p i = true then (i : Int) else upF p m (i + 1)
def downF (p : Nat → Bool) : Nat → Int
 | 0 => -1
 | i + 1 => if p i = true then (i : Int) else downF p i
def nextF (p : Nat → Bool) (n : Nat) (a : Int) : Int := if (n : Int) ≤ a then -1 else upF p (n - (max a (-1) + 1).toNat) (max a (-1) + 1).toNat
def prevF (p : Nat → Bool) (n : Nat) (a : Int) : Int := if a < 0 then -1 else downF p (min a n).toNat
def eyeH (f : Fo) (k : V) (ls : List Gl) (y : Int) : Heap := [⟨[.pure (fo f)], 6, .live⟩, ⟨[.pure k], 4, .live⟩, ⟨[.pure (.sl (ls.map gl))], 1, .live⟩, ⟨[.pure (I y)], 1, .live⟩]
theorem eyeH_eq {f : Fo} {k : V} {ls : List Gl} {y : Int} : eyeH f k ls y = [⟨[.pure (fo f)], 6, .live⟩, ⟨[.pure k], 4, .live⟩, ⟨[.pure (.sl (ls.map gl))], 1, .live⟩, ⟨[.pure (I y)], 1, .live⟩] := rfl
theorem eye_c (f : Fo) (a b n : Int) (s : V) (ls : List Gl) (y : Int) : CallA Tryz.prog 107 [.pure (fo f), .pure (lkV a b n s), .pure (.sl (ls.map gl)), .pure (I y)] []
  fun r H' => r = .func (.func 118) [] [.ptr 3 0 0, .ptr 2 0 0, .ptr 0 0 0, .ptr 1 0 0] ∧ H' = eyeH f (lkV a b n s) ls y := by
 refine k107.a (by simp) ?_
 unfold c107
 simp only [*, vmp,↓vmd,seval]
 exact rfl
theorem up_c (f : Fo) (a b n : Int) (s : V) (ls : List Gl) (i : Nat) (hi : i ≤ ls.length) (hl : ls.length ≤ 1000) : CallA Tryz.prog 118 [.pure (I ((i : Int) - 1)), .ptr 3 0 0, .ptr 2 0 0, .ptr 0 0 0, .ptr 1 0 0] (eyeH f (lkV a b n s) ls 1)
  fun r H' => r = .pure (I (upF (seesF f b n ls) (ls.length - i) i)) ∧ H' = eyeH f (lkV a b n s) ls 1 := by
 refine k118.a (by simp) ?_
 unfold c118
 rw [eyeH_eq]
 simp only [*, vmp,↓vmd,seval]
 refine loop_at (T := Nat) (fun j => [(0, .pure (I ((j : Int) - 1))), (1, .ptr 3 0 0), (2, .ptr 2 0 0), (3, .ptr 0 0 0), (4, .ptr 1 0 0)]) (fun _ => eyeH f (lkV a b n s) ls 1) (fun j => j ≤ ls.length ∧ upF (seesF f b n ls) (ls.length - j) j = upF (seesF f b n ls) (ls.length - i) i) (fun j => ls.length - j)
  i [0, 1, 2, 3] (by simp) rfl ⟨hi, rfl⟩ (by simp only [kpp,seval]) (by simp only [eyeH_eq, kpp,seval]) ?_
 rintro j ⟨hj, hr⟩
 rw [eyeH_eq]
 unfold c118_0
 have hw : IntKind.wrap .i64 ((j : Int) - 1 + 1) = (j : Int) := by rw [wrap_id (by omega) (by omega)]; omega
 simp only [hw, show ¬ ((j : Int) < 0) by omega, vmp,↓vmd,seval]
 refine onIf_intro fun _ => ?_
 simp only [vmp,↓vmd,seval]
 by_cases h1 : (ls.length : Int) ≤ (j : Int)
 ·rw [show ls.length - j = 0 by omega, upF] at hr
  simp only [h1, ← hr, vmp,↓vmd,seval]
 ·have hlt : j < ls.length := by omega
  rw [show ls.length - j = (ls.length - (j + 1)) + 1 by omega, upF, seesF_at hlt] at hr
  simp only [h1, map_at hlt, Int.natCast_nonneg, vmp,↓vmd,seval]
  refine onC_q (skips_q f a b n _ s) rfl ?_
  cases hs : skipsF f b n ls[j].id
  ·rw [hs] at hr
   simp only [Bool.not_false, if_true] at hr
   simp only [hs, ← hr, vmp,↓vmd,seval]
  ·rw [hs] at hr
   simp only [Bool.not_true, Bool.false_eq_true, if_false] at hr
   simp only [hs, vmp,↓vmd,seval]
   refine onBk_to (j + 1) [0, 1, 2, 3] (by simp) rfl (by omega) ⟨hlt, hr⟩ (by simp only [show ((j + 1 : Nat) : Int) - 1 = (j : Int) by omega, kpp,seval]) (by simp only [eyeH_eq, kpp,seval])
theorem down_c (f : Fo) (a b n : Int) (s : V) (ls : List Gl) (i : Nat) (hi : i ≤ ls.length) (hl : ls.length ≤ 1000) : CallA Tryz.prog 118 [.pure (I (i : Int)), .ptr 3 0 0, .ptr 2 0 0, .ptr 0 0 0, .ptr 1 0 0] (eyeH f (lkV a b n s) ls (-1))
  fun r H' => r = .pure (I (downF (seesF f b n ls) i)) ∧ H' = eyeH f (lkV a b n s) ls (-1) := by
 refine k118.a (by simp) ?_
 unfold c118
 rw [eyeH_eq]
 simp only [*, vmp,↓vmd,seval]
 refine loop_at (T := Nat) (fun j => [(0, .pure (I (j : Int))), (1, .ptr 3 0 0), (2, .ptr 2 0 0), (3, .ptr 0 0 0), (4, .ptr 1 0 0)]) (fun _ => eyeH f (lkV a b n s) ls (-1)) (fun j => j ≤ i ∧ downF (seesF f b n ls) j = downF (seesF f b n ls) i) (fun j => j)
  i [0, 1, 2, 3] (by simp) rfl ⟨Nat.le_refl _, rfl⟩ (by simp only [kpp,seval]) (by simp only [eyeH_eq, kpp,seval]) ?_
 rintro j ⟨hj, hr⟩
 rw [eyeH_eq]
 unfold c118_0
 cases j with
 | zero =>
  rw [downF] at hr
  simp only [show IntKind.wrap .i64 (-1) = -1 from rfl, show IntKind.wrap .i64 (((0 : Nat) : Int) + -1) = -1 from rfl, show IntKind.wrap .i64 (0 + -1) = -1 from rfl, ← hr, vmp,↓vmd,seval]
 | succ j =>
  have hlt : j < ls.length := by omega
  have hw : IntKind.wrap .i64 (((j + 1 : Nat) : Int) + -1) = (j : Int) := by rw [wrap_id (by omega) (by omega)]; omega
  rw [downF, seesF_at hlt] at hr
  simp only [hw, show ¬ ((j : Int) < 0) by omega, vmp,↓vmd,seval]
  refine onIf_intro fun _ => ?_
  simp only [show ¬ ((ls.length : Int) ≤ (j : Int)) by omega, show (j : Int) < (ls.length : Int) by omega, map_at hlt, Int.natCast_nonneg, vmp,↓vmd,seval]
  refine onC_q (skips_q f a b n _ s) rfl ?_
  cases hs : skipsF f b n ls[j].id
  ·rw [hs] at hr
   simp only [Bool.not_false, if_true] at hr
   simp only [hs, ← hr, vmp,↓vmd,seval]
  ·rw [hs] at hr
   simp only [Bool.not_true, Bool.false_eq_true, if_false] at hr
   simp only [hs, vmp,↓vmd,seval]
   refine onBk_to j [0, 1, 2, 3] (by simp) rfl (by omega) ⟨by omega, hr⟩ (by simp only [kpp,seval]) (by simp only [eyeH_eq, kpp,seval])
theorem next_q (f : Fo) (a b n : Int) (s : V) (ls : List Gl) (x : Int) (hl : ls.length ≤ 1000) : FnQ Tryz.prog 79 [fo f, lkV a b n s, .sl (ls.map gl), I x] [I (nextF (seesF f b n ls) ls.length x)] := by
 refine k79.q (by simp) ?_
 unfold c79
 simp only [*, vmp,↓vmd,seval]
 refine onIf_intro fun _ => ?_
 simp only [*, vmp,↓vmd,seval]
 by_cases h1 : (ls.length : Int) ≤ x
 ·simp only [h1, vmp,↓vmd,seval]
  rw [nextF, if_pos h1]
  exact gives_pure
 rw [nextF, if_neg h1]
 generalize hi : (max x (-1) + 1).toNat = i
 have hx : max x (-1) = (i : Int) - 1 := by omega
 simp only [h1, vmp,↓vmd,seval]
 refine onC_fr (eye_c f a b n s ls 1) [] (by simp) trivial rfl rfl (by simp) ?_
 rw [eyeH_eq]
 simp only [hx, vmp,↓vmd,seval]
 refine onC_fr (up_c f a b n s ls i (by omega) hl) [2, 3, 4, 5] (by simp) (by simp only [eyeH_eq, kpp,seval]) rfl rfl (by simp [eyeH]) ?_
 rw [eyeH_eq]
 simp only [vmp,↓vmd,seval]
 exact gives_pure
theorem prev_q (f : Fo) (a b n : Int) (s : V) (ls : List Gl) (x : Int) (hl : ls.length ≤ 1000) : FnQ Tryz.prog 105 [fo f, lkV a b n s, .sl (ls.map gl), I x] [I (prevF (seesF f b n ls) ls.length x)] := by
 refine k105.q (by simp) ?_
 unfold c105
 simp only [*, vmp,↓vmd,seval]
 by_cases h1 : x < 0
 ·simp only [h1, vmp,↓vmd,seval]
  rw [prevF, if_pos h1]
  exact gives_pure
 rw [prevF, if_neg h1]
 generalize hi : (min x ls.length).toNat = i
 have hx : min x (ls.length : Int) = (i : Int) := by omega
 simp only [h1, vmp,↓vmd,seval]
 refine onC_fr (eye_c f a b n s ls (-1)) [] (by simp) trivial rfl rfl (by simp) ?_
 rw [eyeH_eq]
 simp only [vmp,↓vmd,seval]
 refine onIf_intro fun _ => ?_
 simp only [hx, vmp,↓vmd,seval]
 refine onC_fr (down_c f a b n s ls i (by omega) hl) [2, 3, 4, 5] (by simp) (by simp only [eyeH_eq, kpp,seval]) rfl rfl (by simp [eyeH]) ?_
 rw [eyeH_eq]
 simp only [vmp,↓vmd,seval]
 exact gives_pure
theorem rnext_q (f : Fo) (a b n : Int) (s : V) (ls : List Gl) (x : Int) (hl : ls.length ≤ 1000) : FnQ Tryz.prog 92 [fo f, lkV a b n s, .sl (ls.map gl), I x] [I (nextF (seesF f b n ls) ls.length x)] := by
 refine k92.q (by simp) ?_
 unfold c92
 simp only [*, vmp,↓vmd,seval]
 by_cases h1 : (ls.length : Int) ≤ x
 ·rw [nextF, if_pos h1]
  refine loop_at (T := Unit) (fun _ => [(9, .pure (I (IntKind.wrap .i64 (max x (-1) + 1)))), (2, .pure (.sl (ls.map gl))), (3, .pure (I x))]) (fun _ => []) (fun _ => True) (fun _ => 0)
   () [] (by simp) rfl trivial (by simp only [kpp,seval]) (by simp only [kpp,seval]) ?_
  intro _ _
  unfold c92_1
  simp only [vmp,↓vmd,seval]
  refine onIf_intro fun _ => ?_
  simp only [vmp,↓vmd,seval]
  refine onB_dec (fun h2 => ?_) (fun h2 => ?_)
  ·simp only [h2, vmp,↓vmd,seval]
   refine onIf_intro fun _ => ?_
   simp only [h2, show ¬ x < (ls.length : Int) by omega, vmp,↓vmd,seval]
   unfold c92_0
   simp only [vmp,↓vmd,seval]
   exact gives_pure
  ·simp only [h2, vmp,↓vmd,seval]
   unfold c92_0
   simp only [vmp,↓vmd,seval]
   exact gives_pure
 rw [nextF, if_neg h1]
 generalize hi : (max x (-1) + 1).toNat = i
 have hx : IntKind.wrap .i64 (max x (-1) + 1) = (i : Int) := by rw [wrap_id (by omega) (by omega)]; omega
 rw [hx]
 refine loop_at (T := Nat) (fun j => [(9, .pure (I (j : Int))), (2, .pure (.sl (ls.map gl))), (3, .pure (I x)), (4, .ptr 0 0 0), (5, .ptr 1 0 0)]) (fun _ => [⟨[.pure (fo f)], 6, .live⟩, ⟨[.pure (lkV a b n s)], 4, .live⟩]) (fun j => j ≤ ls.length ∧ upF (seesF f b n ls) (ls.length - j) j = upF (seesF f b n ls) (ls.length - i) i) (fun j => ls.length - j)
  i [0, 1] (by simp) rfl ⟨by omega, rfl⟩ (by simp only [kpp,seval]) (by simp only [kpp,seval]) ?_
 rintro j ⟨hj, hr⟩
 unfold c92_1
 simp only [vmp,↓vmd,seval]
 refine onIf_intro fun _ => ?_
 simp only [vmp,↓vmd,seval]
 by_cases h2 : (j : Int) < (ls.length : Int)
 ·have hlt : j < ls.length := by omega
  rw [show ls.length - j = (ls.length - (j + 1)) + 1 by omega, upF, seesF_at hlt] at hr
  simp only [h2, vmp,↓vmd,seval]
  refine onIf_intro fun _ => ?_
  simp only [h2, show x < (ls.length : Int) by omega, map_at hlt, Int.natCast_nonneg, vmp,↓vmd,seval]
  refine onC_q (rskips_q f a b n _ s) rfl ?_
  cases hs : skipsF f b n ls[j].id
  ·rw [hs] at hr
   simp only [Bool.not_false, if_true] at hr
   simp only [hs, vmp,↓vmd,seval]
   rw [← hr]
   exact gives_pure
  ·rw [hs] at hr
   simp only [Bool.not_true, Bool.false_eq_true, if_false] at hr
   simp only [hs, vmp,↓vmd,seval]
   refine onBk_to (j + 1) [0, 1] (by simp) rfl (by omega) ⟨hlt, hr⟩ (by simp only [next_at hlt (by omega), kpp,seval]) (by simp only [kpp,seval])
 ·rw [show ls.length - j = 0 by omega, upF] at hr
  simp only [h2, vmp,↓vmd,seval]
  unfold c92_0
  simp only [vmp,↓vmd,seval]
  rw [← hr]
  exact gives_pure
theorem rprev_q (f : Fo) (a b n : Int) (s : V) (ls : List Gl) (x : Int) (hl : ls.length ≤ 1000) : FnQ Tryz.prog 116 [fo f, lkV a b n s, .sl (ls.map gl), I x] [I (prevF (seesF f b n ls) ls.length x)] := by
 refine k116.q (by simp) ?_
 unfold c116
 simp only [*, vmp,↓vmd,seval]
 refine onIf_intro fun _ => ?_
 simp only [*, vmp,↓vmd,seval]
 by_cases h1 : x ≤ 0
 ·rw [show prevF (seesF f b n ls) ls.length x = -1 by
   rw [prevF]
   split
   ·rfl
   ·rw [show (min x (ls.length : Int)).toNat = 0 by omega]; rfl]
  refine loop_at (T := Unit) (fun _ => [(9, .pure (I (IntKind.wrap .i64 (min x ls.length - 1)))), (2, .pure (.sl (ls.map gl))), (3, .pure (I x))]) (fun _ => []) (fun _ => True) (fun _ => 0)
   () [] (by simp) rfl trivial (by simp only [kpp,seval]) (by simp only [kpp,seval]) ?_
  intro _ _
  unfold c116_1
  simp only [vmp,↓vmd,seval]
  refine onB_dec (fun h2 => ?_) (fun h2 => ?_)
  ·simp only [h2, show ¬ 0 < x by omega, vmp,↓vmd,seval]
   unfold c116_0
   simp only [vmp,↓vmd,seval]
   exact gives_pure
  ·simp only [h2, vmp,↓vmd,seval]
   unfold c116_0
   simp only [vmp,↓vmd,seval]
   exact gives_pure
 rw [prevF, if_neg (by omega)]
 generalize hi : (min x ls.length).toNat = i
 have hx : IntKind.wrap .i64 (min x (ls.length : Int) - 1) = (i : Int) - 1 := by rw [wrap_id (by omega) (by omega)]; omega
 rw [hx]
 refine loop_at (T := Nat) (fun j => [(9, .pure (I ((j : Int) - 1))), (2, .pure (.sl (ls.map gl))), (3, .pure (I x)), (4, .ptr 0 0 0), (5, .ptr 1 0 0)]) (fun _ => [⟨[.pure (fo f)], 6, .live⟩, ⟨[.pure (lkV a b n s)], 4, .live⟩]) (fun j => j ≤ i ∧ downF (seesF f b n ls) j = downF (seesF f b n ls) i) (fun j => j)
  i [0, 1] (by simp) rfl ⟨Nat.le_refl _, rfl⟩ (by simp only [kpp,seval]) (by simp only [kpp,seval]) ?_
 rintro j ⟨hj, hr⟩
 unfold c116_1
 cases j with
 | zero =>
  rw [downF] at hr
  simp only [show ((0 : Nat) : Int) - 1 = -1 from rfl, show (0 : Int) - 1 = -1 from rfl, vmp,↓vmd,seval]
  unfold c116_0
  simp only [vmp,↓vmd,seval]
  rw [← hr]
  exact gives_pure
 | succ j =>
  have hlt : j < ls.length := by omega
  have hj1 : ((j + 1 : Nat) : Int) - 1 = (j : Int) := by omega
  rw [downF, seesF_at hlt] at hr
  simp only [hj1, show (0 : Int) ≤ (j : Int) by omega, show 0 < x by omega, map_at hlt, Int.natCast_nonneg, vmp,↓vmd,seval]
  refine onC_q (rskips_q f a b n _ s) rfl ?_
  cases hs : skipsF f b n ls[j].id
  ·rw [hs] at hr
   simp only [Bool.not_false, if_true] at hr
   simp only [hs, hj1, vmp,↓vmd,seval]
   rw [← hr]
   exact gives_pure
  ·rw [hs] at hr
   simp only [Bool.not_true, Bool.false_eq_true, if_false] at hr
   have hw : IntKind.wrap .i64 ((j : Int) - 1) = (j : Int) - 1 := by rw [wrap_id (by omega) (by omega)]
   simp only [hs, hj1, vmp,↓vmd,seval]
   refine onBk_to j [0, 1] (by simp) rfl (by omega) ⟨by omega, hr⟩ (by simp only [hj1, hw, kpp,seval]) (by simp only [kpp,seval])
end Go.Proofs.YtcjmkpkhjhjepaaGreat.W
