/-
  Marks: the first of a list that is so: the program's functions. No condition but on sizes.
-/
import Derived.Test.YtcjmkpkhjhjepaaGreatPMk1
namespace Go.Proofs.YtcjmkpkhjhjepaaGreat.W
open Go Go.Vm Go.Proofs
set_option maxRecDepth 100000
set_option linter.unusedSimpArgs false
set_option maxHeartbeats 4000000
/-! typecase/marks.Anchor$1 -/
def c112 : AC :=
 (.seq (.reg [oo 2 (.box (.s 0)),
 oo 3 (.mov (nB false))])
 (.seq (.reg [oo 4 (.fldA 0 (.s 2)),
 oo 5 (.load false 1 (.s 4)),
 oo 6 (.load false 1 (.s 1)),
 oo 7 (.bin .eql (.s 5) (.s 6)),
 oo 3 (.mov (.s 7))])
 .ret))
theorem k112 : OkF 112 Tryz.f112 c112 [.t 3] 8 := ⟨Tryz.func112, by kernel_rfl, by kernel_rfl, by kernel_rfl, Tryz.ntmps112⟩
/-! typecase/marks.Apply$1 -/
def c84 : AC :=
 (.seq (.reg [oo 2 (.box (.s 0)),
 oo 3 (.mov (nB false))])
 (.seq (.reg [oo 4 (.fldA 0 (.s 2)),
 oo 5 (.load false 1 (.s 4)),
 oo 6 (.fldA 0 (.s 1)),
 oo 7 (.load false 1 (.s 6)),
 oo 8 (.bin .eql (.s 5) (.s 7)),
 oo 3 (.mov (.s 8))])
 .ret))
theorem k84 : OkF 84 Tryz.f84 c84 [.t 3] 9 := ⟨Tryz.func84, by kernel_rfl, by kernel_rfl, by kernel_rfl, Tryz.ntmps84⟩
/-! slices.IndexFunc[[]typecase/api.Host,typecase/api.Host] -/
def c111_0 : AC :=
 (.seq (.reg [oo 4 (.mov (nI (-1)))])
 .ret)
def c111_1 : AC :=
 (.seq (.reg [oo 9 (.bin .lss (.s 8) (.s 7))])
 (.seq (.cond (.s 9)
 .skip
 (.exit 0))
 (.seq (.block 1
 (.seq (.reg [oo 10 (.mov (.s 8)),
 oo 5 (.mov (.s 10))])
 (.seq (.reg [oo 11 (.mov (.s 1)),
 oo 12 (.mov (.s 0)),
 oo 13 (.mov (.s 5)),
 oo 14 (.idxA 2 (.s 12) (.s 13)),
 oo 15 (.load true 2 (.s 14)),
 oo 16 (.callv (.s 11) [(.s 15)])])
 (.cond (.s 16)
 (.seq (.reg [oo 17 (.mov (.s 5)),
 oo 4 (.mov (.s 17))])
 .ret)
 .skip))))
 (.reg [oo 18 (.bin .add (.s 8) (nI 1)),
 oo 8 (.mov (.s 18))]))))
def c111 : AC :=
 (.seq (.reg [oo 4 (.mov (nI 0))])
 (.seq (.seq (.reg [oo 6 (.mov (.s 0)),
 oo 7 (.len (.s 6)),
 oo 8 (.mov (nI 0))])
 (.block 0
 (.loop c111_1)))
 c111_0))
theorem k111 : OkF 111 Tryz.f111 c111 [.t 4] 19 := ⟨Tryz.func111, by kernel_rfl, by kernel_rfl, by kernel_rfl, Tryz.ntmps111⟩
/-! slices.IndexFunc[[]typecase/api.MarkAt,typecase/api.MarkAt] -/
def c83_0 : AC :=
 (.seq (.reg [oo 4 (.mov (nI (-1)))])
 .ret)
def c83_1 : AC :=
 (.seq (.reg [oo 9 (.bin .lss (.s 8) (.s 7))])
 (.seq (.cond (.s 9)
 .skip
 (.exit 0))
 (.seq (.block 1
 (.seq (.reg [oo 10 (.mov (.s 8)),
 oo 5 (.mov (.s 10))])
 (.seq (.reg [oo 11 (.mov (.s 1)),
 oo 12 (.mov (.s 0)),
 oo 13 (.mov (.s 5)),
 oo 14 (.idxA 4 (.s 12) (.s 13)),
 oo 15 (.load true 4 (.s 14)),
 oo 16 (.callv (.s 11) [(.s 15)])])
 (.cond (.s 16)
 (.seq (.reg [oo 17 (.mov (.s 5)),
 oo 4 (.mov (.s 17))])
 .ret)
 .skip))))
 (.reg [oo 18 (.bin .add (.s 8) (nI 1)),
 oo 8 (.mov (.s 18))]))))
def c83 : AC :=
 (.seq (.reg [oo 4 (.mov (nI 0))])
 (.seq (.seq (.reg [oo 6 (.mov (.s 0)),
 oo 7 (.len (.s 6)),
 oo 8 (.mov (nI 0))])
 (.block 0
 (.loop c83_1)))
 c83_0))
theorem k83 : OkF 83 Tryz.f83 c83 [.t 4] 19 := ⟨Tryz.func83, by kernel_rfl, by kernel_rfl, by kernel_rfl, Tryz.ntmps83⟩
def ixF {α : Type} (p : α → Bool) : List α → Nat → Int
 | [], _ => -1
 | a :: r, n => if p a = true then (n : Int) else ixF p r (n + 1)
def isHo (g : Int) (h : Ho) : Bool := decide (h.glyph = g)
def isMk (g : Int) (m : Mk) : Bool := decide (m.glyph = g)
theorem ix_ho (g : Int) : ∀ (l : List Ho) (n : Nat), (ixF (isHo g) l n = -1 ∧ findHo l g = none) ∨ ∃ i, ∃ h : i < l.length, ixF (isHo g) l n = ((n + i : Nat) : Int) ∧ findHo l g = some l[i]
 | [], n => .inl ⟨rfl, rfl⟩
 | a :: r, n => by
  rw [ixF, findHo]
  by_cases h : a.glyph = g
  ·rw [if_pos (by simp [isHo, h]), if_pos h]
   exact .inr ⟨0, by simp, rfl, rfl⟩
  ·rw [if_neg (by simp [isHo, h]), if_neg h]
   rcases ix_ho g r (n + 1) with h1 | ⟨i, hi, h1, h2⟩
   ·exact .inl h1
   ·exact .inr ⟨i + 1, by simpa using hi, by rw [h1]; congr 1; omega, by simpa using h2⟩
theorem ix_mk (g : Int) : ∀ (l : List Mk) (n : Nat), (ixF (isMk g) l n = -1 ∧ findMk l g = none) ∨ ∃ i, ∃ h : i < l.length, ixF (isMk g) l n = ((n + i : Nat) : Int) ∧ findMk l g = some l[i]
 | [], n => .inl ⟨rfl, rfl⟩
 | a :: r, n => by
  rw [ixF, findMk]
  by_cases h : a.glyph = g
  ·rw [if_pos (by simp [isMk, h]), if_pos h]
   exact .inr ⟨0, by simp, rfl, rfl⟩
  ·rw [if_neg (by simp [isMk, h]), if_neg h]
   rcases ix_mk g r (n + 1) with h1 | ⟨i, hi, h1, h2⟩
   ·exact .inl h1
   ·exact .inr ⟨i + 1, by simpa using hi, by rw [h1]; congr 1; omega, by simpa using h2⟩
theorem ishost_c (g : Int) (h : Ho) : CallA Tryz.prog 112 [.pure (ho h), .ptr 0 0 0] [⟨[.pure (I g)], 1, .live⟩] fun r H' => r = .pure (.bool (isHo g h)) ∧ H' = [⟨[.pure (I g)], 1, .live⟩] := by
 refine CallA.weak (K := fun r H' => r = .pure (.bool (isHo g h)) ∧ ∃ R, H' = ⟨[.pure (I g)], 1, .live⟩ :: R) ?_ ?_
 ·refine k112.a (by simp) ?_
  unfold c112
  simp only [*, vmp,↓vmd,seval]
  exact ⟨rfl, _, rfl⟩
 ·rintro r H' ⟨rfl, R, rfl⟩
  exact ⟨[0], _, _, by simp, rfl, (by simp only [kpp,seval]), (by simp only [kpp,seval]), rfl, rfl⟩
theorem ismark_c (g : Gl) (m : Mk) : CallA Tryz.prog 84 [.pure (mk m), .ptr 0 0 0] [⟨[.pure (gl g)], 10, .live⟩] fun r H' => r = .pure (.bool (isMk g.id m)) ∧ H' = [⟨[.pure (gl g)], 10, .live⟩] := by
 refine CallA.weak (K := fun r H' => r = .pure (.bool (isMk g.id m)) ∧ ∃ R, H' = ⟨[.pure (gl g)], 10, .live⟩ :: R) ?_ ?_
 ·refine k84.a (by simp) ?_
  unfold c84
  simp only [*, vmp,↓vmd,seval]
  exact ⟨rfl, _, rfl⟩
 ·rintro r H' ⟨rfl, R, rfl⟩
  exact ⟨[0], _, _, by simp, rfl, (by simp only [kpp,seval]), (by simp only [kpp,seval]), rfl, rfl⟩
theorem ixho_c (g : Int) (l : List Ho) (_hl : l.length ≤ 5000) : CallA Tryz.prog 111 [.pure (.sl (l.map ho)), .func (.func 112) [] [.ptr 0 0 0]] [⟨[.pure (I g)], 1, .live⟩]
  fun r H' => r = .pure (I (ixF (isHo g) l 0)) ∧ H' = [⟨[.pure (I g)], 1, .live⟩] := by
 refine CallA.weak (K := fun r H' => r = .pure (I (ixF (isHo g) l 0)) ∧ ∃ R, H' = ⟨[.pure (I g)], 1, .live⟩ :: R) ?_ ?_
 ·refine k111.a (by simp) ?_
  unfold c111
  simp only [*, vmp,↓vmd,seval]
  refine onIf_intro fun _ => ?_
  simp only [*, vmp,↓vmd,seval]
  refine loop_at (T := Nat) (fun j => [(8, .pure (I j)), (7, .pure (I l.length)), (0, .pure (.sl (l.map ho))), (1, .func (.func 112) [] [.ptr 0 0 0])]) (fun _ => [⟨[.pure (I g)], 1, .live⟩])
   (fun j => j ≤ l.length ∧ ixF (isHo g) (l.drop j) j = ixF (isHo g) l 0) (fun j => l.length - j)
   0 [0] (by simp) rfl ⟨by simp, by simp⟩ (by simp only [kpp,seval]) (by simp only [kpp,seval]) ?_
  rintro j ⟨hj, hr⟩
  unfold c111_1
  simp only [vmp,↓vmd,seval]
  refine onB_dec (fun h1 => ?_) (fun h1 => ?_)
  ·have hlt : j < l.length := by omega
   rw [drop_at hlt, ixF] at hr
   simp only [h1, map_at hlt, Int.natCast_nonneg, vmp,↓vmd,seval]
   refine onC_fr (ishost_c g l[j]) [0] (by simp) (by simp only [kpp,seval]) rfl rfl (by simp) ?_
   (first | apply envO | apply envQ); simp only [vmp,↓vmd,seval]; rfl
   simp only [vmp,↓vmd,seval]
   refine onB_intro (fun h2 => ?_) (fun h2 => ?_)
   ·rw [if_pos h2] at hr
    simp only [h2, vmp,↓vmd,seval]
    rw [hr]
    exact ⟨rfl, _, rfl⟩
   ·rw [if_neg (by rw [h2]; simp)] at hr
    simp only [h2, vmp,↓vmd,seval]
    refine onBk_to (j + 1) [0] (by simp) rfl (by omega) ⟨hlt, hr⟩ (by simp only [next_at hlt (by omega), kpp,seval]) (by simp only [kpp,seval])
  ·rw [List.drop_of_length_le (by omega), ixF] at hr
   simp only [h1, vmp,↓vmd,seval]
   unfold c111_0
   simp only [vmp,↓vmd,seval]
   rw [← hr]
   exact ⟨rfl, _, rfl⟩
 ·rintro r H' ⟨rfl, R, rfl⟩
  exact ⟨[0], _, _, by simp, rfl, (by simp only [kpp,seval]), (by simp only [kpp,seval]), rfl, rfl⟩
theorem ixmk_c (g : Gl) (l : List Mk) (_hl : l.length ≤ 5000) : CallA Tryz.prog 83 [.pure (.sl (l.map mk)), .func (.func 84) [] [.ptr 0 0 0]] [⟨[.pure (gl g)], 10, .live⟩]
  fun r H' => r = .pure (I (ixF (isMk g.id) l 0)) ∧ H' = [⟨[.pure (gl g)], 10, .live⟩] := by
 refine CallA.weak (K := fun r H' => r = .pure (I (ixF (isMk g.id) l 0)) ∧ ∃ R, H' = ⟨[.pure (gl g)], 10, .live⟩ :: R) ?_ ?_
 ·refine k83.a (by simp) ?_
  unfold c83
  simp only [*, vmp,↓vmd,seval]
  refine onIf_intro fun _ => ?_
  simp only [*, vmp,↓vmd,seval]
  refine loop_at (T := Nat) (fun j => [(8, .pure (I j)), (7, .pure (I l.length)), (0, .pure (.sl (l.map mk))), (1, .func (.func 84) [] [.ptr 0 0 0])]) (fun _ => [⟨[.pure (gl g)], 10, .live⟩])
   (fun j => j ≤ l.length ∧ ixF (isMk g.id) (l.drop j) j = ixF (isMk g.id) l 0) (fun j => l.length - j)
   0 [0] (by simp) rfl ⟨by simp, by simp⟩ (by simp only [kpp,seval]) (by simp only [kpp,seval]) ?_
  rintro j ⟨hj, hr⟩
  unfold c83_1
  simp only [vmp,↓vmd,seval]
  refine onB_dec (fun h1 => ?_) (fun h1 => ?_)
  ·have hlt : j < l.length := by omega
   rw [drop_at hlt, ixF] at hr
   simp only [h1, map_at hlt, Int.natCast_nonneg, vmp,↓vmd,seval]
   refine onC_fr (ismark_c g l[j]) [0] (by simp) (by simp only [kpp,seval]) rfl rfl (by simp) ?_
   (first | apply envO | apply envQ); simp only [vmp,↓vmd,seval]; rfl
   simp only [vmp,↓vmd,seval]
   refine onB_intro (fun h2 => ?_) (fun h2 => ?_)
   ·rw [if_pos h2] at hr
    simp only [h2, vmp,↓vmd,seval]
    rw [hr]
    exact ⟨rfl, _, rfl⟩
   ·rw [if_neg (by rw [h2]; simp)] at hr
    simp only [h2, vmp,↓vmd,seval]
    refine onBk_to (j + 1) [0] (by simp) rfl (by omega) ⟨hlt, hr⟩ (by simp only [next_at hlt (by omega), kpp,seval]) (by simp only [kpp,seval])
  ·rw [List.drop_of_length_le (by omega), ixF] at hr
   simp only [h1, vmp,↓vmd,seval]
   unfold c83_0
   simp only [vmp,↓vmd,seval]
   rw [← hr]
   exact ⟨rfl, _, rfl⟩
 ·rintro r H' ⟨rfl, R, rfl⟩
  exact ⟨[0], _, _, by simp, rfl, (by simp only [kpp,seval]), (by simp only [kpp,seval]), rfl, rfl⟩
end Go.Proofs.YtcjmkpkhjhjepaaGreat.W
