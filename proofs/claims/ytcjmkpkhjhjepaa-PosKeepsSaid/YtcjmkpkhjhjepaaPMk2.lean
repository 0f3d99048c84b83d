/-
  Marks: the first of a list that is so: the program's functions. No condition but on sizes.
-/
import Derived.Test.YtcjmkpkhjhjepaaPMk1
namespace Go.Proofs.Ytcjmkpkhjhjepaa.W
open Go Go.Vm Go.Proofs
set_option maxRecDepth 100000
set_option linter.unusedSimpArgs false
set_option maxHeartbeats 4000000
/-! typecase/marks.Anchor$1 -/
def c119 : AC :=
 (.seq (.reg [⟨some 2, none, .box (.s 0)⟩,
⟨some 3, none, .mov (.c (.pure (.bool false)))⟩])
 (.seq (.reg [⟨some 4, none, .fldA 0 (.s 2)⟩,
⟨some 5, none, .load false 1 (.s 4)⟩,
⟨some 6, none, .load false 1 (.s 1)⟩,
⟨some 7, none, .bin .eql (.s 5) (.s 6)⟩,
⟨some 3, none, .mov (.s 7)⟩])
 .ret))
theorem k119 : OkF 119 Try.f119 c119 [.t 3] 8 := ⟨Try.func119, by kernel_rfl, by kernel_rfl, by kernel_rfl, Try.ntmps119⟩
/-! typecase/marks.Apply$1 -/
def c113 : AC :=
 (.seq (.reg [⟨some 2, none, .box (.s 0)⟩,
⟨some 3, none, .mov (.c (.pure (.bool false)))⟩])
 (.seq (.reg [⟨some 4, none, .fldA 0 (.s 2)⟩,
⟨some 5, none, .load false 1 (.s 4)⟩,
⟨some 6, none, .fldA 0 (.s 1)⟩,
⟨some 7, none, .load false 1 (.s 6)⟩,
⟨some 8, none, .bin .eql (.s 5) (.s 7)⟩,
⟨some 3, none, .mov (.s 8)⟩])
 .ret))
theorem k113 : OkF 113 Try.f113 c113 [.t 3] 9 := ⟨Try.func113, by kernel_rfl, by kernel_rfl, by kernel_rfl, Try.ntmps113⟩
/-! slices.IndexFunc[[]typecase/api.Host,typecase/api.Host] -/
def c118_0 : AC :=
 (.seq (.reg [⟨some 4, none, .mov (.c (.pure (.int .i64 (-1))))⟩])
 .ret)
def c118_1 : AC :=
 (.seq (.reg [⟨some 9, none, .bin .lss (.s 8) (.s 7)⟩])
 (.seq (.cond (.s 9)
 .skip
 (.exit 0))
 (.seq (.block 1
 (.seq (.reg [⟨some 10, none, .mov (.s 8)⟩,
⟨some 5, none, .mov (.s 10)⟩])
 (.seq (.reg [⟨some 11, none, .mov (.s 1)⟩,
⟨some 12, none, .mov (.s 0)⟩,
⟨some 13, none, .mov (.s 5)⟩,
⟨some 14, none, .idxA 2 (.s 12) (.s 13)⟩,
⟨some 15, none, .load true 2 (.s 14)⟩,
⟨some 16, none, .callv (.s 11) [(.s 15)]⟩])
 (.cond (.s 16)
 (.seq (.reg [⟨some 17, none, .mov (.s 5)⟩,
⟨some 4, none, .mov (.s 17)⟩])
 .ret)
 .skip))))
 (.reg [⟨some 18, none, .bin .add (.s 8) (.c (.pure (.int .i64 1)))⟩,
⟨some 8, none, .mov (.s 18)⟩]))))
def c118 : AC :=
 (.seq (.reg [⟨some 4, none, .mov (.c (.pure (.int .i64 0)))⟩])
 (.seq (.seq (.reg [⟨some 6, none, .mov (.s 0)⟩,
⟨some 7, none, .len (.s 6)⟩,
⟨some 8, none, .mov (.c (.pure (.int .i64 0)))⟩])
 (.block 0
 (.loop c118_1)))
 c118_0))
theorem k118 : OkF 118 Try.f118 c118 [.t 4] 19 := ⟨Try.func118, by kernel_rfl, by kernel_rfl, by kernel_rfl, Try.ntmps118⟩
/-! slices.IndexFunc[[]typecase/api.MarkAt,typecase/api.MarkAt] -/
def c112_0 : AC :=
 (.seq (.reg [⟨some 4, none, .mov (.c (.pure (.int .i64 (-1))))⟩])
 .ret)
def c112_1 : AC :=
 (.seq (.reg [⟨some 9, none, .bin .lss (.s 8) (.s 7)⟩])
 (.seq (.cond (.s 9)
 .skip
 (.exit 0))
 (.seq (.block 1
 (.seq (.reg [⟨some 10, none, .mov (.s 8)⟩,
⟨some 5, none, .mov (.s 10)⟩])
 (.seq (.reg [⟨some 11, none, .mov (.s 1)⟩,
⟨some 12, none, .mov (.s 0)⟩,
⟨some 13, none, .mov (.s 5)⟩,
⟨some 14, none, .idxA 4 (.s 12) (.s 13)⟩,
⟨some 15, none, .load true 4 (.s 14)⟩,
⟨some 16, none, .callv (.s 11) [(.s 15)]⟩])
 (.cond (.s 16)
 (.seq (.reg [⟨some 17, none, .mov (.s 5)⟩,
⟨some 4, none, .mov (.s 17)⟩])
 .ret)
 .skip))))
 (.reg [⟨some 18, none, .bin .add (.s 8) (.c (.pure (.int .i64 1)))⟩,
⟨some 8, none, .mov (.s 18)⟩]))))
def c112 : AC :=
 (.seq (.reg [⟨some 4, none, .mov (.c (.pure (.int .i64 0)))⟩])
 (.seq (.seq (.reg [⟨some 6, none, .mov (.s 0)⟩,
⟨some 7, none, .len (.s 6)⟩,
⟨some 8, none, .mov (.c (.pure (.int .i64 0)))⟩])
 (.block 0
 (.loop c112_1)))
 c112_0))
theorem k112 : OkF 112 Try.f112 c112 [.t 4] 19 := ⟨Try.func112, by kernel_rfl, by kernel_rfl, by kernel_rfl, Try.ntmps112⟩
def ixF {α : Type} (p : α → Bool) : List α → Nat → Int
 | [], _ => -1
 | a :: r, n => if p a = true then (n : Int) else ixF p r (n + 1)
def isHo (g : Int) (h : Ho) : Bool := decide (h.glyph = g)
def isMk (g : Int) (m : Mk) : Bool := decide (m.glyph = g)
theorem ix_ho (g : Int) : ∀ (l : List Ho) (n : Nat), (ixF (isHo g) l n = -1 ∧ findHo l g = none) ∨ ∃ i, ∃ h : i < l.length, ixF (isHo g) l n = ((n + i : Nat) : Int) ∧ findHo l g = some l[i]
 | [], n => .inl ⟨rfl, rfl⟩
 | a :: r, n => by
  rw [ixF, findHo]
  by_cases h : a.glyph = g
  ·rw [if_pos (by simp [isHo, h]), if_pos h]
   exact .inr ⟨0, by simp, rfl, rfl⟩
  ·rw [if_neg (by simp [isHo, h]), if_neg h]
   rcases ix_ho g r (n + 1) with h1 | ⟨i, hi, h1, h2⟩
   ·exact .inl h1
   ·exact .inr ⟨i + 1, by simpa using hi, by rw [h1]; congr 1; omega, by simpa using h2⟩
theorem ix_mk (g : Int) : ∀ (l : List Mk) (n : Nat), (ixF (isMk g) l n = -1 ∧ findMk l g = none) ∨ ∃ i, ∃ h : i < l.length, ixF (isMk g) l n = ((n + i : Nat) : Int) ∧ findMk l g = some l[i]
 | [], n => .inl ⟨rfl, rfl⟩
 | a :: r, n => by
  rw [ixF, findMk]
  by_cases h : a.glyph = g
  ·rw [if_pos (by simp [isMk, h]), if_pos h]
   exact .inr ⟨0, by simp, rfl, rfl⟩
  ·rw [if_neg (by simp [isMk, h]), if_neg h]
   rcases ix_mk g r (n + 1) with h1 | ⟨i, hi, h1, h2⟩
   ·exact .inl h1
   ·exact .inr ⟨i + 1, by simpa using hi, by rw [h1]; congr 1; omega, by simpa using h2⟩
theorem ishost_c (g : Int) (h : Ho) : CallA Try.prog 119 [.pure (ho h), .ptr 0 0 0] [⟨[.pure (I g)], 1, .live⟩] fun r H' => r = .pure (.bool (isHo g h)) ∧ H' = [⟨[.pure (I g)], 1, .live⟩] := by
 refine CallA.weak (K := fun r H' => r = .pure (.bool (isHo g h)) ∧ ∃ R, H' = ⟨[.pure (I g)], 1, .live⟩ :: R) ?_ ?_
 ·refine k119.a (by simp) ?_
  unfold c119
  simp -implicitDefEqProofs only [*, vmp,↓vmd,seval]
  exact ⟨rfl, _, rfl⟩
 ·rintro r H' ⟨rfl, R, rfl⟩
  exact ⟨[0], _, _, by simp, rfl, (by simp -implicitDefEqProofs only [kpp,seval]), (by simp -implicitDefEqProofs only [kpp,seval]), rfl, rfl⟩
theorem ismark_c (g : Gl) (m : Mk) : CallA Try.prog 113 [.pure (mk m), .ptr 0 0 0] [⟨[.pure (gl g)], 10, .live⟩] fun r H' => r = .pure (.bool (isMk g.id m)) ∧ H' = [⟨[.pure (gl g)], 10, .live⟩] := by
 refine CallA.weak (K := fun r H' => r = .pure (.bool (isMk g.id m)) ∧ ∃ R, H' = ⟨[.pure (gl g)], 10, .live⟩ :: R) ?_ ?_
 ·refine k113.a (by simp) ?_
  unfold c113
  simp -implicitDefEqProofs only [*, vmp,↓vmd,seval]
  exact ⟨rfl, _, rfl⟩
 ·rintro r H' ⟨rfl, R, rfl⟩
  exact ⟨[0], _, _, by simp, rfl, (by simp -implicitDefEqProofs only [kpp,seval]), (by simp -implicitDefEqProofs only [kpp,seval]), rfl, rfl⟩
theorem ixho_c (g : Int) (l : List Ho) (hl : l.length ≤ 5000) : CallA Try.prog 118 [.pure (.sl (l.map ho)), .func (.func 119) [] [.ptr 0 0 0]] [⟨[.pure (I g)], 1, .live⟩]
  fun r H' => r = .pure (I (ixF (isHo g) l 0)) ∧ H' = [⟨[.pure (I g)], 1, .live⟩] := by
 refine CallA.weak (K := fun r H' => r = .pure (I (ixF (isHo g) l 0)) ∧ ∃ R, H' = ⟨[.pure (I g)], 1, .live⟩ :: R) ?_ ?_
 ·refine k118.a (by simp) ?_
  unfold c118
  simp -implicitDefEqProofs only [*, vmp,↓vmd,seval]
  refine onIf_intro fun _ => ?_
  simp -implicitDefEqProofs only [*, vmp,↓vmd,seval]
  refine loop_at (T := Nat) (fun j => [(8, .pure (I j)), (7, .pure (I l.length)), (0, .pure (.sl (l.map ho))), (1, .func (.func 119) [] [.ptr 0 0 0])]) (fun _ => [⟨[.pure (I g)], 1, .live⟩])
   (fun j => j ≤ l.length ∧ ixF (isHo g) (l.drop j) j = ixF (isHo g) l 0) (fun j => l.length - j)
   0 [0] (by simp) rfl ⟨by simp, by simp⟩ (by simp -implicitDefEqProofs only [kpp,seval]) (by simp -implicitDefEqProofs only [kpp,seval]) ?_
  rintro j ⟨hj, hr⟩
  unfold c118_1
  simp -implicitDefEqProofs only [vmp,↓vmd,seval]
  refine onB_dec (fun h1 => ?_) (fun h1 => ?_)
  ·have hlt : j < l.length := by omega
   rw [drop_at hlt, ixF] at hr
   simp -implicitDefEqProofs only [h1, map_at hlt, Int.natCast_nonneg, vmp,↓vmd,seval]
   refine onC_fr (ishost_c g l[j]) [0] (by simp) (by simp -implicitDefEqProofs only [kpp,seval]) rfl rfl (by simp) ?_
   (first | apply envO | apply envQ); simp -implicitDefEqProofs only [vmp,↓vmd,seval]; rfl
   simp -implicitDefEqProofs only [vmp,↓vmd,seval]
   refine onB_intro (fun h2 => ?_) (fun h2 => ?_)
   ·rw [if_pos h2] at hr
    simp -implicitDefEqProofs only [h2, vmp,↓vmd,seval]
    rw [hr]
    exact ⟨rfl, _, rfl⟩
   ·rw [if_neg (by rw [h2]; simp)] at hr
    simp -implicitDefEqProofs only [h2, vmp,↓vmd,seval]
    refine onBk_to (j + 1) [0] (by simp) rfl (by omega) ⟨hlt, hr⟩ (by simp -implicitDefEqProofs only [next_at hlt (by omega), kpp,seval]) (by simp -implicitDefEqProofs only [kpp,seval])
  ·rw [List.drop_of_length_le (by omega), ixF] at hr
   simp -implicitDefEqProofs only [h1, vmp,↓vmd,seval]
   unfold c118_0
   simp -implicitDefEqProofs only [vmp,↓vmd,seval]
   rw [← hr]
   exact ⟨rfl, _, rfl⟩
 ·rintro r H' ⟨rfl, R, rfl⟩
  exact ⟨[0], _, _, by simp, rfl, (by simp -implicitDefEqProofs only [kpp,seval]), (by simp -implicitDefEqProofs only [kpp,seval]), rfl, rfl⟩
theorem ixmk_c (g : Gl) (l : List Mk) (hl : l.length ≤ 5000) : CallA Try.prog 112 [.pure (.sl (l.map mk)), .func (.func 113) [] [.ptr 0 0 0]] [⟨[.pure (gl g)], 10, .live⟩]
  fun r H' => r = .pure (I (ixF (isMk g.id) l 0)) ∧ H' = [⟨[.pure (gl g)], 10, .live⟩] := by
 refine CallA.weak (K := fun r H' => r = .pure (I (ixF (isMk g.id) l 0)) ∧ ∃ R, H' = ⟨[.pure (gl g)], 10, .live⟩ :: R) ?_ ?_
 ·refine k112.a (by simp) ?_
  unfold c112
  simp -implicitDefEqProofs only [*, vmp,↓vmd,seval]
  refine onIf_intro fun _ => ?_
  simp -implicitDefEqProofs only [*, vmp,↓vmd,seval]
  refine loop_at (T := Nat) (fun j => [(8, .pure (I j)), (7, .pure (I l.length)), (0, .pure (.sl (l.map mk))), (1, .func (.func 113) [] [.ptr 0 0 0])]) (fun _ => [⟨[.pure (gl g)], 10, .live⟩])
   (fun j => j ≤ l.length ∧ ixF (isMk g.id) (l.drop j) j = ixF (isMk g.id) l 0) (fun j => l.length - j)
   0 [0] (by simp) rfl ⟨by simp, by simp⟩ (by simp -implicitDefEqProofs only [kpp,seval]) (by simp -implicitDefEqProofs only [kpp,seval]) ?_
  rintro j ⟨hj, hr⟩
  unfold c112_1
  simp -implicitDefEqProofs only [vmp,↓vmd,seval]
  refine onB_dec (fun h1 => ?_) (fun h1 => ?_)
  ·have hlt : j < l.length := by omega
   rw [drop_at hlt, ixF] at hr
   simp -implicitDefEqProofs only [h1, map_at hlt, Int.natCast_nonneg, vmp,↓vmd,seval]
   refine onC_fr (ismark_c g l[j]) [0] (by simp) (by simp -implicitDefEqProofs only [kpp,seval]) rfl rfl (by simp) ?_
   (first | apply envO | apply envQ); simp -implicitDefEqProofs only [vmp,↓vmd,seval]; rfl
   simp -implicitDefEqProofs only [vmp,↓vmd,seval]
   refine onB_intro (fun h2 => ?_) (fun h2 => ?_)
   ·rw [if_pos h2] at hr
    simp -implicitDefEqProofs only [h2, vmp,↓vmd,seval]
    rw [hr]
    exact ⟨rfl, _, rfl⟩
   ·rw [if_neg (by rw [h2]; simp)] at hr
    simp -implicitDefEqProofs only [h2, vmp,↓vmd,seval]
    refine onBk_to (j + 1) [0] (by simp) rfl (by omega) ⟨hlt, hr⟩ (by simp -implicitDefEqProofs only [next_at hlt (by omega), kpp,seval]) (by simp -implicitDefEqProofs only [kpp,seval])
  ·rw [List.drop_of_length_le (by omega), ixF] at hr
   simp -implicitDefEqProofs only [h1, vmp,↓vmd,seval]
   unfold c112_0
   simp -implicitDefEqProofs only [vmp,↓vmd,seval]
   rw [← hr]
   exact ⟨rfl, _, rfl⟩
 ·rintro r H' ⟨rfl, R, rfl⟩
  exact ⟨[0], _, _, by simp, rfl, (by simp -implicitDefEqProofs only [kpp,seval]), (by simp -implicitDefEqProofs only [kpp,seval]), rfl, rfl⟩
end Go.Proofs.Ytcjmkpkhjhjepaa.W
