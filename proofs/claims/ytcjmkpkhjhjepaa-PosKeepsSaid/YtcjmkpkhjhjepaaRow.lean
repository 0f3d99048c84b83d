/-
  Glyphs behind a place, or ahead of it, held against sets: what each function does. No condition.
-/
import Derived.Test.YtcjmkpkhjhjepaaGls
namespace Go.Proofs.Ytcjmkpkhjhjepaa.W
open Go Go.Vm Go.Proofs
set_option maxRecDepth 100000
set_option linter.unusedSimpArgs false
set_option maxHeartbeats 1000000
/-! typecase/skip.stands -/
def c62_0 : AC :=
 (.seq (.reg [⟨some 39, none, .mov (.s 10)⟩,
⟨some 8, none, .mov (.s 39)⟩,
⟨some 9, none, .mov (.c (.pure (.bool true)))⟩])
 .ret)
def c62_1 : AC :=
 (.seq (.reg [⟨some 16, none, .bin .lss (.s 15) (.s 14)⟩])
 (.seq (.cond (.s 16)
 .skip
 (.exit 0))
 (.seq (.block 1
 (.seq (.reg [⟨some 17, none, .idxA 1 (.s 13) (.s 15)⟩,
⟨some 18, none, .load false 1 (.s 17)⟩,
⟨some 12, none, .mov (.s 18)⟩])
 (.seq (.reg [⟨some 19, none, .mov (.s 0)⟩,
⟨some 20, none, .mov (.s 2)⟩,
⟨some 21, none, .callv (.s 19) [(.s 20)]⟩,
⟨some 2, none, .mov (.s 21)⟩])
 (.seq (.seq (.reg [⟨some 22, none, .mov (.s 2)⟩,
⟨some 23, none, .bin .eql (.s 22) (.c (.pure (.int .i64 (-1))))⟩,
⟨some 24, none, .mov (.s 23)⟩,
⟨some 25, some (24, false), .mov (.s 12)⟩,
⟨some 26, some (24, false), .mov (.s 1)⟩,
⟨some 27, some (24, false), .mov (.s 2)⟩,
⟨some 28, some (24, false), .idxA 10 (.s 26) (.s 27)⟩,
⟨some 29, some (24, false), .fldA 0 (.s 28)⟩,
⟨some 30, some (24, false), .load false 1 (.s 29)⟩,
⟨some 31, some (24, false), .call 84 [(.s 25), (.s 30)]⟩,
⟨some 32, some (24, false), .un .not (.s 31)⟩,
⟨some 33, none, .pick (.s 24) (.c (.pure (.bool true))) (.s 32)⟩])
 (.cond (.s 33)
 (.seq (.reg [⟨some 8, none, .mov (.c .empty)⟩,
⟨some 9, none, .mov (.c (.pure (.bool false)))⟩])
 .ret)
 .skip))
 (.reg [⟨some 34, none, .mov (.s 10)⟩,
⟨some 35, none, .mov (.s 2)⟩,
⟨some 36, none, .bslice 1 [(.s 35)]⟩,
⟨some 37, none, .app 1 8 (.s 34) (.s 36)⟩,
⟨some 10, none, .mov (.s 37)⟩])))))
 (.reg [⟨some 38, none, .bin .add (.s 15) (.c (.pure (.int .i64 1)))⟩,
⟨some 15, none, .mov (.s 38)⟩]))))
def c62 : AC :=
 (.seq (.reg [⟨some 8, none, .mov (.c .empty)⟩,
⟨some 9, none, .mov (.c (.pure (.bool false)))⟩])
 (.seq (.reg [⟨some 10, none, .mov (.c .empty)⟩])
 (.seq (.seq (.reg [⟨some 13, none, .mov (.s 3)⟩,
⟨some 14, none, .len (.s 13)⟩,
⟨some 15, none, .mov (.c (.pure (.int .i64 0)))⟩])
 (.block 0
 (.loop c62_1)))
 c62_0)))
theorem k62 : OkF 62 Try.f62 c62 [.t 8, .t 9] 40 := ⟨Try.func62, by kernel_rfl, by kernel_rfl, by kernel_rfl, Try.ntmps62⟩
/-! typecase/skip.Row$1 -/
def c65 : AC :=
 (.seq (.reg [⟨some 5, none, .mov (.c (.pure (.int .i64 0)))⟩])
 (.seq (.reg [⟨some 6, none, .load true 6 (.s 1)⟩,
⟨some 7, none, .load true 4 (.s 2)⟩,
⟨some 8, none, .load false 1 (.s 3)⟩,
⟨some 9, none, .mov (.s 0)⟩,
⟨some 10, none, .call 59 [(.s 6), (.s 7), (.s 8), (.s 9)]⟩,
⟨some 5, none, .mov (.s 10)⟩])
 .ret))
theorem k65 : OkF 65 Try.f65 c65 [.t 5] 11 := ⟨Try.func65, by kernel_rfl, by kernel_rfl, by kernel_rfl, Try.ntmps65⟩
/-! typecase/skip.Back$1 -/
def c63 : AC :=
 (.seq (.reg [⟨some 5, none, .mov (.c (.pure (.int .i64 0)))⟩])
 (.seq (.reg [⟨some 6, none, .load true 6 (.s 1)⟩,
⟨some 7, none, .load true 4 (.s 2)⟩,
⟨some 8, none, .load false 1 (.s 3)⟩,
⟨some 9, none, .mov (.s 0)⟩,
⟨some 10, none, .call 64 [(.s 6), (.s 7), (.s 8), (.s 9)]⟩,
⟨some 5, none, .mov (.s 10)⟩])
 .ret))
theorem k63 : OkF 63 Try.f63 c63 [.t 5] 11 := ⟨Try.func63, by kernel_rfl, by kernel_rfl, by kernel_rfl, Try.ntmps63⟩
/-! typecase/skip.Row -/
def c45 : AC :=
 (.seq (.reg [⟨some 5, none, .box (.s 0)⟩,
⟨some 6, none, .box (.s 1)⟩,
⟨some 7, none, .box (.s 2)⟩,
⟨some 10, none, .mov (.c .empty)⟩,
⟨some 11, none, .mov (.c (.pure (.bool false)))⟩])
 (.seq (.reg [⟨some 12, none, .mkfn (.func 65) [] [(.s 5), (.s 6), (.s 7)]⟩,
⟨some 13, none, .load false 1 (.s 7)⟩,
⟨some 14, none, .mov (.s 3)⟩,
⟨some 15, none, .mov (.s 4)⟩,
⟨some 16, none, .call 62 [(.s 12), (.s 13), (.s 14), (.s 15)]⟩,
⟨some 17, none, .ext 0 (.s 16)⟩,
⟨some 18, none, .ext 1 (.s 16)⟩,
⟨some 10, none, .mov (.s 17)⟩,
⟨some 11, none, .mov (.s 18)⟩])
 .ret))
theorem k45 : OkF 45 Try.f45 c45 [.t 10, .t 11] 19 := ⟨Try.func45, by kernel_rfl, by kernel_rfl, by kernel_rfl, Try.ntmps45⟩
/-! typecase/skip.Back -/
def c44 : AC :=
 (.seq (.reg [⟨some 5, none, .box (.s 0)⟩,
⟨some 6, none, .box (.s 1)⟩,
⟨some 7, none, .box (.s 2)⟩,
⟨some 10, none, .mov (.c .empty)⟩,
⟨some 11, none, .mov (.c (.pure (.bool false)))⟩])
 (.seq (.reg [⟨some 12, none, .mkfn (.func 63) [] [(.s 5), (.s 6), (.s 7)]⟩,
⟨some 13, none, .load false 1 (.s 7)⟩,
⟨some 14, none, .mov (.s 3)⟩,
⟨some 15, none, .mov (.s 4)⟩,
⟨some 16, none, .call 62 [(.s 12), (.s 13), (.s 14), (.s 15)]⟩,
⟨some 17, none, .ext 0 (.s 16)⟩,
⟨some 18, none, .ext 1 (.s 16)⟩,
⟨some 10, none, .mov (.s 17)⟩,
⟨some 11, none, .mov (.s 18)⟩])
 .ret))
theorem k44 : OkF 44 Try.f44 c44 [.t 10, .t 11] 19 := ⟨Try.func44, by kernel_rfl, by kernel_rfl, by kernel_rfl, Try.ntmps44⟩
/-! typecase/typecaseref26.row -/
def c66_0 : AC :=
 (.seq (.reg [⟨some 52, none, .mov (.s 14)⟩,
⟨some 12, none, .mov (.s 52)⟩,
⟨some 13, none, .mov (.c (.pure (.bool true)))⟩])
 .ret)
def c66_1 : AC :=
 (.seq (.seq (.reg [⟨some 16, none, .mov (.s 15)⟩,
⟨some 17, none, .mov (.s 4)⟩,
⟨some 18, none, .len (.s 17)⟩,
⟨some 19, none, .bin .lss (.s 16) (.s 18)⟩])
 (.cond (.s 19)
 .skip
 (.exit 0)))
 (.seq (.block 1
 (.seq (.seq (.reg [⟨some 22, none, .mov (.s 5)⟩])
 (.cond (.s 22)
 (.reg [⟨some 23, none, .load true 6 (.s 6)⟩,
⟨some 24, none, .load true 4 (.s 7)⟩,
⟨some 25, none, .mov (.s 2)⟩,
⟨some 26, none, .mov (.s 3)⟩,
⟨some 27, none, .call 85 [(.s 23), (.s 24), (.s 25), (.s 26)]⟩,
⟨some 3, none, .mov (.s 27)⟩])
 (.reg [⟨some 28, none, .load true 6 (.s 6)⟩,
⟨some 29, none, .load true 4 (.s 7)⟩,
⟨some 30, none, .mov (.s 2)⟩,
⟨some 31, none, .mov (.s 3)⟩,
⟨some 32, none, .call 60 [(.s 28), (.s 29), (.s 30), (.s 31)]⟩,
⟨some 3, none, .mov (.s 32)⟩])))
 (.seq (.seq (.regq [⟨some 33, none, .mov (.s 3)⟩,
⟨some 34, none, .bin .eql (.s 33) (.c (.pure (.int .i64 (-1))))⟩,
⟨some 35, none, .mov (.s 34)⟩,
⟨some 36, some (35, false), .mov (.s 4)⟩,
⟨some 37, some (35, false), .mov (.s 15)⟩,
⟨some 38, some (35, false), .idxA 1 (.s 36) (.s 37)⟩,
⟨some 39, some (35, false), .load false 1 (.s 38)⟩,
⟨some 40, some (35, false), .mov (.s 2)⟩,
⟨some 41, some (35, false), .mov (.s 3)⟩,
⟨some 42, some (35, false), .idxA 10 (.s 40) (.s 41)⟩,
⟨some 43, some (35, false), .fldA 0 (.s 42)⟩,
⟨some 44, some (35, false), .load false 1 (.s 43)⟩]
[⟨some 45, some (35, false), .call 70 [(.s 39), (.s 44)]⟩,
⟨some 46, some (35, false), .un .not (.s 45)⟩,
⟨some 47, none, .pick (.s 35) (.c (.pure (.bool true))) (.s 46)⟩])
 (.cond (.s 47)
 (.seq (.reg [⟨some 12, none, .mov (.c .empty)⟩,
⟨some 13, none, .mov (.c (.pure (.bool false)))⟩])
 .ret)
 .skip))
 (.reg [⟨some 48, none, .mov (.s 14)⟩,
⟨some 49, none, .mov (.s 3)⟩,
⟨some 50, none, .bslice 1 [(.s 49)]⟩,
⟨some 51, none, .app 1 8 (.s 48) (.s 50)⟩,
⟨some 14, none, .mov (.s 51)⟩]))))
 (.reg [⟨some 20, none, .mov (.s 15)⟩,
⟨some 21, none, .bin .add (.s 20) (.c (.pure (.int .i64 1)))⟩,
⟨some 15, none, .mov (.s 21)⟩])))
def c66 : AC :=
 (.seq (.reg [⟨some 6, none, .box (.s 0)⟩,
⟨some 7, none, .box (.s 1)⟩,
⟨some 12, none, .mov (.c .empty)⟩,
⟨some 13, none, .mov (.c (.pure (.bool false)))⟩])
 (.seq (.reg [⟨some 14, none, .mov (.c .empty)⟩])
 (.seq (.seq (.reg [⟨some 15, none, .mov (.c (.pure (.int .i64 0)))⟩])
 (.block 0
 (.loop c66_1)))
 c66_0)))
/-! typecase/typecaseref26.Row -/
def c47 : AC :=
 (.seq (.reg [⟨some 5, none, .box (.s 0)⟩,
⟨some 6, none, .box (.s 1)⟩,
⟨some 10, none, .mov (.c .empty)⟩,
⟨some 11, none, .mov (.c (.pure (.bool false)))⟩])
 (.seq (.reg [⟨some 12, none, .load true 6 (.s 5)⟩,
⟨some 13, none, .load true 4 (.s 6)⟩,
⟨some 14, none, .mov (.s 2)⟩,
⟨some 15, none, .mov (.s 3)⟩,
⟨some 16, none, .mov (.s 4)⟩,
⟨some 17, none, .call 66 [(.s 12), (.s 13), (.s 14), (.s 15), (.s 16), (.c (.pure (.bool false)))]⟩,
⟨some 18, none, .ext 0 (.s 17)⟩,
⟨some 19, none, .ext 1 (.s 17)⟩,
⟨some 10, none, .mov (.s 18)⟩,
⟨some 11, none, .mov (.s 19)⟩])
 .ret))
/-! typecase/typecaseref26.Back -/
def c46 : AC :=
 (.seq (.reg [⟨some 5, none, .box (.s 0)⟩,
⟨some 6, none, .box (.s 1)⟩,
⟨some 10, none, .mov (.c .empty)⟩,
⟨some 11, none, .mov (.c (.pure (.bool false)))⟩])
 (.seq (.reg [⟨some 12, none, .load true 6 (.s 5)⟩,
⟨some 13, none, .load true 4 (.s 6)⟩,
⟨some 14, none, .mov (.s 2)⟩,
⟨some 15, none, .mov (.s 3)⟩,
⟨some 16, none, .mov (.s 4)⟩,
⟨some 17, none, .call 66 [(.s 12), (.s 13), (.s 14), (.s 15), (.s 16), (.c (.pure (.bool true)))]⟩,
⟨some 18, none, .ext 0 (.s 17)⟩,
⟨some 19, none, .ext 1 (.s 17)⟩,
⟨some 10, none, .mov (.s 18)⟩,
⟨some 11, none, .mov (.s 19)⟩])
 .ret))
def idAt (ls : List Gl) (y : Int) : Int := ((ls[y.toNat]?).map (·.id)).getD 0
/-- places one behind the other, each in its set -/
def rowF (g : Int → Int) (ls : List Gl) : List (List Int) → Int → Option (List Int)
 | [], _ => some []
 | st :: r, x => if g x = -1 ∨ idAt ls (g x) ∉ st then none else (rowF g ls r (g x)).map (g x :: ·)
def rowB (f : Fo) (k : V) (ls : List Gl) : Heap := [⟨[.pure (fo f)], 6, .live⟩, ⟨[.pure k], 4, .live⟩, ⟨[.pure (.sl (ls.map gl))], 1, .live⟩]
theorem rowB_eq {f : Fo} {k : V} {ls : List Gl} : rowB f k ls = [⟨[.pure (fo f)], 6, .live⟩, ⟨[.pure k], 4, .live⟩, ⟨[.pure (.sl (ls.map gl))], 1, .live⟩] := rfl
theorem row1_c (f : Fo) (a b n : Int) (s : V) (ls : List Gl) (hl : ls.length ≤ 1000) (x : Int) : CallA Try.prog 65 [.pure (I x), .ptr 0 0 0, .ptr 1 0 0, .ptr 2 0 0] (rowB f (lkV a b n s) ls)
  fun r H' => r = .pure (I (nextF (seesF f b n ls) ls.length x)) ∧ H' = rowB f (lkV a b n s) ls := by
 refine k65.a (by simp) ?_
 rw [rowB_eq]
 unfold c65
 simp -implicitDefEqProofs only [*, vmp,↓vmd,seval]
 refine onC_q (next_q f a b n s ls x hl) rfl ?_
 simp -implicitDefEqProofs only [*, vmp,↓vmd,seval]
theorem back1_c (f : Fo) (a b n : Int) (s : V) (ls : List Gl) (hl : ls.length ≤ 1000) (x : Int) : CallA Try.prog 63 [.pure (I x), .ptr 0 0 0, .ptr 1 0 0, .ptr 2 0 0] (rowB f (lkV a b n s) ls)
  fun r H' => r = .pure (I (prevF (seesF f b n ls) ls.length x)) ∧ H' = rowB f (lkV a b n s) ls := by
 refine k63.a (by simp) ?_
 rw [rowB_eq]
 unfold c63
 simp -implicitDefEqProofs only [*, vmp,↓vmd,seval]
 refine onC_q (prev_q f a b n s ls x hl) rfl ?_
 simp -implicitDefEqProofs only [*, vmp,↓vmd,seval]
def resS : Option (List Int) → S
 | some l => .tup [.rsl 3 0 l.length, .pure (.bool true)]
 | none => .tup [.empty, .pure (.bool false)]
def resH (B : Heap) : Option (List Int) → Heap
 | some l => B ++ [⟨(l.map I).map .pure, 1, .live⟩]
 | none => B
theorem at_id {ls : List Gl} {y : Int} (h1 : 0 ≤ y) (h2 : y < ls.length) : ∃ g : Gl, (ls.map gl)[y.toNat]? = some (gl g) ∧ g.id = idAt ls y := by
 refine ⟨ls[y.toNat], ?_, ?_⟩
 ·rw [List.getElem?_map, List.getElem?_eq_getElem (by omega)]; rfl
 ·rw [idAt, List.getElem?_eq_getElem (by omega)]; rfl
theorem stands_c (F : Nat) (g : Int → Int) (f : Fo) (k : V) (ls : List Gl) (hg : ∀ x, g x = -1 ∨ (0 ≤ g x ∧ g x < ls.length)) (sets : List (List Int)) (x : Int) (hs : sets.length ≤ 1000)
  (hstep : ∀ y, CallA Try.prog F [.pure (I y), .ptr 0 0 0, .ptr 1 0 0, .ptr 2 0 0] (rowB f k ls) fun r H' => r = .pure (I (g y)) ∧ H' = rowB f k ls) :
  CallA Try.prog 62 [.func (.func F) [] [.ptr 0 0 0, .ptr 1 0 0, .ptr 2 0 0], .pure (.sl (ls.map gl)), .pure (I x), .pure (LL sets)] (rowB f k ls)
   fun r H' => r = resS (rowF g ls sets x) ∧ H' = resH (rowB f k ls) (rowF g ls sets x) := by
 refine CallA.weak (K := fun r H' => r = resS (rowF g ls sets x) ∧ (H' = resH (rowB f k ls) (rowF g ls sets x) ∨ (rowF g ls sets x = none ∧ ∃ R, H' = rowB f k ls ++ R))) ?_ ?_
 ·refine k62.a (by simp) ?_
  rw [rowB_eq]
  unfold c62
  simp -implicitDefEqProofs only [*, vmp,↓vmd,seval]
  refine onIf_intro fun hlen => ?_
  simp -implicitDefEqProofs only [*, vmp,↓vmd,seval]
  refine loop_virt 10 1 rfl (by simp) ?_
  refine loop_at (T := Nat × Int × List Int) (fun y => [(15, .pure (I (y.1 : Int))), (14, .pure (I sets.length)), (13, .pure (LL sets)), (0, .func (.func F) [] [.ptr 0 0 0, .ptr 1 0 0, .ptr 2 0 0]), (1, .pure (.sl (ls.map gl))), (2, .pure (I y.2.1)), (10, .rsl 3 0 y.2.2.length)])
   (fun y => rowB f k ls ++ [⟨(y.2.2.map I).map .pure, 1, .live⟩]) (fun y => y.1 ≤ sets.length ∧ y.2.2.length = y.1 ∧ (rowF g ls (sets.drop y.1) y.2.1).map (y.2.2 ++ ·) = rowF g ls sets x) (fun y => sets.length - y.1)
   (0, x, []) [0, 1, 2, 3] (by simp) rfl ⟨by simp, rfl, by cases h : rowF g ls sets x <;> simp [h]⟩ (by simp -implicitDefEqProofs only [kpp,seval]) (by simp -implicitDefEqProofs only [rowB_eq, kpp,seval]) ?_
  rintro ⟨j, y, out⟩ ⟨hj, ho, hr⟩
  simp only at hj ho hr ⊢
  unfold c62_1
  rw [rowB_eq]
  by_cases h1 : (j : Int) < (sets.length : Int)
  ·have hlt : j < sets.length := by omega
   rw [drop_at hlt, rowF] at hr
   simp -implicitDefEqProofs only [h1, map_at hlt, Int.natCast_nonneg, vmp,↓vmd,seval]
   refine onC_fr (hstep y) [0, 1, 2] (by simp) (by simp -implicitDefEqProofs only [rowB_eq, kpp,seval]) rfl rfl (by simp [rowB]) ?_
   rw [rowB_eq]
   have no : rowF g ls sets x = none → ∀ R : Heap, (S.tup [.empty, .pure (.bool false)] = resS (rowF g ls sets x) ∧ ((rowB f k ls ++ R) = resH (rowB f k ls) (rowF g ls sets x) ∨ (rowF g ls sets x = none ∧ ∃ R', rowB f k ls ++ R = rowB f k ls ++ R'))) := by
    intro h R
    rw [h]
    exact ⟨rfl, .inr ⟨rfl, R, rfl⟩⟩
   rcases hg y with h2 | ⟨h2, h3⟩
   ·rw [if_pos (.inl h2)] at hr
    simp -implicitDefEqProofs only [h2, vmp,↓vmd,seval]
    exact no hr.symm [⟨(out.map I).map .pure, 1, .live⟩]
   ·have h4 : ¬ g y = -1 := by omega
    obtain ⟨q, hq1, hq2⟩ := at_id h2 h3
    simp -implicitDefEqProofs only [h2, h3, h4, hq1, vmp,↓vmd,seval]
    refine onC_q (contains_q _ _) rfl ?_
    rw [hq2]
    by_cases h5 : idAt ls (g y) ∈ sets[j]
    ·rw [if_neg (by simp [h4, h5]), Option.map_map] at hr
     simp -implicitDefEqProofs only [h4, h5, vmp,↓vmd,seval]
     refine onIf'_intro (appOk_one rfl rfl (by simp) (by omega) (by simp [maxLen]; omega)) ?_
     simp -implicitDefEqProofs only [vmp,↓vmd,seval]
     refine onBk_to (j + 1, g y, out ++ [g y]) [0, 1, 2, 5] (by simp) rfl (by simp only; omega) ⟨hlt, by simp [ho], by rw [← hr]; congr 1; funext l; simp⟩ (by simp -implicitDefEqProofs only [next_at hlt hlen, kpp,seval]) (by simp -implicitDefEqProofs only [rowB_eq, kpp,seval])
    ·rw [if_pos (.inr h5)] at hr
     simp -implicitDefEqProofs only [h4, h5, vmp,↓vmd,seval]
     exact no hr.symm [⟨(out.map I).map .pure, 1, .live⟩]
  ·rw [List.drop_of_length_le (by omega), rowF] at hr
   simp only [Option.map_some, List.append_nil] at hr
   simp -implicitDefEqProofs only [h1, vmp,↓vmd,seval]
   unfold c62_0
   simp -implicitDefEqProofs only [vmp,↓vmd,seval]
   rw [← hr]
   exact ⟨rfl, .inl rfl⟩
 ·rintro r H' ⟨rfl, rfl | ⟨h, R, rfl⟩⟩
  ·cases h : rowF g ls sets x with
   | some l => exact ⟨[0, 1, 2, 3], _, _, by simp, rfl, (by simp -implicitDefEqProofs only [resS, kpp,seval]), (by simp -implicitDefEqProofs only [resH, rowB_eq, kpp,seval]), rfl, rfl⟩
   | none => exact ⟨[0, 1, 2], _, _, by simp, rfl, (by simp -implicitDefEqProofs only [resS, kpp,seval]), (by simp -implicitDefEqProofs only [resH, rowB_eq, kpp,seval]), rfl, rfl⟩
  ·rw [h]
   exact ⟨[0, 1, 2], _, _, by simp, rfl, (by simp -implicitDefEqProofs only [resS, kpp,seval]), (by simp -implicitDefEqProofs only [resH, rowB_eq, kpp,seval]), rfl, rfl⟩
def rowR (o : Option (List Int)) : List V := [LI (o.getD []), .bool o.isSome]
theorem row_q (f : Fo) (a b n : Int) (s : V) (ls : List Gl) (hl : ls.length ≤ 1000) (x : Int) (sets : List (List Int)) (hs : sets.length ≤ 1000) : FnQ Try.prog 45 [fo f, lkV a b n s, .sl (ls.map gl), I x, LL sets] (rowR (rowF (nextF (seesF f b n ls) ls.length) ls sets x)) := by
 refine k45.q (by simp) ?_
 unfold c45
 simp -implicitDefEqProofs only [*, vmp,↓vmd,seval]
 refine onC_fr (stands_c 65 _ f (lkV a b n s) ls (fun _ => nextF_in) sets x hs (row1_c f a b n s ls hl)) [0, 1, 2] (by simp) (by simp -implicitDefEqProofs only [rowB_eq, kpp,seval]) rfl rfl (by cases rowF (nextF (seesF f b n ls) ls.length) ls sets x <;> simp [resH, rowB]) ?_
 cases rowF (nextF (seesF f b n ls) ls.length) ls sets x with
 | some l =>
  simp -implicitDefEqProofs only [resS, resH, rowB_eq, vmp,↓vmd,seval]
  exact gives_tup (toVs_of (toV_row rfl (.inr ⟨rfl, rfl⟩)) rfl) (by simp)
 | none =>
  simp -implicitDefEqProofs only [resS, resH, rowB_eq, vmp,↓vmd,seval]
  exact gives_tup rfl (by simp)
theorem back_q (f : Fo) (a b n : Int) (s : V) (ls : List Gl) (hl : ls.length ≤ 1000) (x : Int) (sets : List (List Int)) (hs : sets.length ≤ 1000) : FnQ Try.prog 44 [fo f, lkV a b n s, .sl (ls.map gl), I x, LL sets] (rowR (rowF (prevF (seesF f b n ls) ls.length) ls sets x)) := by
 refine k44.q (by simp) ?_
 unfold c44
 simp -implicitDefEqProofs only [*, vmp,↓vmd,seval]
 refine onC_fr (stands_c 63 _ f (lkV a b n s) ls (fun _ => prevF_in) sets x hs (back1_c f a b n s ls hl)) [0, 1, 2] (by simp) (by simp -implicitDefEqProofs only [rowB_eq, kpp,seval]) rfl rfl (by cases rowF (prevF (seesF f b n ls) ls.length) ls sets x <;> simp [resH, rowB]) ?_
 cases rowF (prevF (seesF f b n ls) ls.length) ls sets x with
 | some l =>
  simp -implicitDefEqProofs only [resS, resH, rowB_eq, vmp,↓vmd,seval]
  exact gives_tup (toVs_of (toV_row rfl (.inr ⟨rfl, rfl⟩)) rfl) (by simp)
 | none =>
  simp -implicitDefEqProofs only [resS, resH, rowB_eq, vmp,↓vmd,seval]
  exact gives_tup rfl (by simp)
def dirF (f : Fo) (b n : Int) (ls : List Gl) (bk : Bool) : Int → Int := if bk = true then prevF (seesF f b n ls) ls.length else nextF (seesF f b n ls) ls.length
end Go.Proofs.Ytcjmkpkhjhjepaa.W
