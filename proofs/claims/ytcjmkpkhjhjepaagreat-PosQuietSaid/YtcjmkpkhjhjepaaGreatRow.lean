/-
  Glyphs behind a place, or ahead of it, held against sets: what each function does. No condition.
-/
import Derived.Test.YtcjmkpkhjhjepaaGreatGls
namespace Go.Proofs.YtcjmkpkhjhjepaaGreat.W
open Go Go.Vm Go.Proofs
set_option maxRecDepth 100000
set_option linter.unusedSimpArgs false
set_option maxHeartbeats 1000000
/-! typecase/skip.stands -/
def c102_0 : AC :=
 (.seq (.reg [oo 39 (.mov (.s 10)),
 oo 8 (.mov (.s 39)),
 oo 9 (.mov (nB true))])
 .ret)
def c102_1 : AC :=
 (.seq (.reg [oo 16 (.bin .lss (.s 15) (.s 14))])
 (.seq (.cond (.s 16)
 .skip
 (.exit 0))
 (.seq (.block 1
 (.seq (.reg [oo 17 (.idxA 1 (.s 13) (.s 15)),
 oo 18 (.load false 1 (.s 17)),
 oo 12 (.mov (.s 18))])
 (.seq (.reg [oo 19 (.mov (.s 0)),
 oo 20 (.mov (.s 2)),
 oo 21 (.callv (.s 19) [(.s 20)]),
 oo 2 (.mov (.s 21))])
 (.seq (.seq (.reg [oo 22 (.mov (.s 2)),
 oo 23 (.bin .eql (.s 22) (nI (-1))),
 oo 24 (.mov (.s 23)),
 og 25 24 false (.mov (.s 12)),
 og 26 24 false (.mov (.s 1)),
 og 27 24 false (.mov (.s 2)),
 og 28 24 false (.idxA 10 (.s 26) (.s 27)),
 og 29 24 false (.fldA 0 (.s 28)),
 og 30 24 false (.load false 1 (.s 29)),
 og 31 24 false (.call 73 [(.s 25), (.s 30)]),
 og 32 24 false (.un .not (.s 31)),
 oo 33 (.pick (.s 24) (nB true) (.s 32))])
 (.cond (.s 33)
 (.seq (.reg [oo 8 (.mov (.c .empty)),
 oo 9 (.mov (nB false))])
 .ret)
 .skip))
 (.reg [oo 34 (.mov (.s 10)),
 oo 35 (.mov (.s 2)),
 oo 36 (.bslice 1 [(.s 35)]),
 oo 37 (.app 1 8 (.s 34) (.s 36)),
 oo 10 (.mov (.s 37))])))))
 (.reg [oo 38 (.bin .add (.s 15) (nI 1)),
 oo 15 (.mov (.s 38))]))))
def c102 : AC :=
 (.seq (.reg [oo 8 (.mov (.c .empty)),
 oo 9 (.mov (nB false))])
 (.seq (.reg [oo 10 (.mov (.c .empty))])
 (.seq (.seq (.reg [oo 13 (.mov (.s 3)),
 oo 14 (.len (.s 13)),
 oo 15 (.mov (nI 0))])
 (.block 0
 (.loop c102_1)))
 c102_0)))
theorem k102 : OkF 102 Tryz.f102 c102 [.t 8, .t 9] 40 := ⟨Tryz.func102, by kernel_rfl, by kernel_rfl, by kernel_rfl, Tryz.ntmps102⟩
/-! typecase/skip.Row$1 -/
def c103 : AC :=
 (.seq (.reg [oo 5 (.mov (nI 0))])
 (.seq (.reg [oo 6 (.load true 6 (.s 1)),
 oo 7 (.load true 4 (.s 2)),
 oo 8 (.load false 1 (.s 3)),
 oo 9 (.mov (.s 0)),
 oo 10 (.call 79 [(.s 6), (.s 7), (.s 8), (.s 9)]),
 oo 5 (.mov (.s 10))])
 .ret))
theorem k103 : OkF 103 Tryz.f103 c103 [.t 5] 11 := ⟨Tryz.func103, by kernel_rfl, by kernel_rfl, by kernel_rfl, Tryz.ntmps103⟩
/-! typecase/skip.Back$1 -/
def c104 : AC :=
 (.seq (.reg [oo 5 (.mov (nI 0))])
 (.seq (.reg [oo 6 (.load true 6 (.s 1)),
 oo 7 (.load true 4 (.s 2)),
 oo 8 (.load false 1 (.s 3)),
 oo 9 (.mov (.s 0)),
 oo 10 (.call 105 [(.s 6), (.s 7), (.s 8), (.s 9)]),
 oo 5 (.mov (.s 10))])
 .ret))
theorem k104 : OkF 104 Tryz.f104 c104 [.t 5] 11 := ⟨Tryz.func104, by kernel_rfl, by kernel_rfl, by kernel_rfl, Tryz.ntmps104⟩
/-! typecase/skip.Row -/
def c75 : AC :=
 (.seq (.reg [oo 5 (.box (.s 0)),
 oo 6 (.box (.s 1)),
 oo 7 (.box (.s 2)),
 oo 10 (.mov (.c .empty)),
 oo 11 (.mov (nB false))])
 (.seq (.reg [oo 12 (.mkfn (.func 103) [] [(.s 5), (.s 6), (.s 7)]),
 oo 13 (.load false 1 (.s 7)),
 oo 14 (.mov (.s 3)),
 oo 15 (.mov (.s 4)),
 oo 16 (.call 102 [(.s 12), (.s 13), (.s 14), (.s 15)]),
 oo 17 (.ext 0 (.s 16)),
 oo 18 (.ext 1 (.s 16)),
 oo 10 (.mov (.s 17)),
 oo 11 (.mov (.s 18))])
 .ret))
theorem k75 : OkF 75 Tryz.f75 c75 [.t 10, .t 11] 19 := ⟨Tryz.func75, by kernel_rfl, by kernel_rfl, by kernel_rfl, Tryz.ntmps75⟩
/-! typecase/skip.Back -/
def c76 : AC :=
 (.seq (.reg [oo 5 (.box (.s 0)),
 oo 6 (.box (.s 1)),
 oo 7 (.box (.s 2)),
 oo 10 (.mov (.c .empty)),
 oo 11 (.mov (nB false))])
 (.seq (.reg [oo 12 (.mkfn (.func 104) [] [(.s 5), (.s 6), (.s 7)]),
 oo 13 (.load false 1 (.s 7)),
 oo 14 (.mov (.s 3)),
 oo 15 (.mov (.s 4)),
 oo 16 (.call 102 [(.s 12), (.s 13), (.s 14), (.s 15)]),
 oo 17 (.ext 0 (.s 16)),
 oo 18 (.ext 1 (.s 16)),
 oo 10 (.mov (.s 17)),
 oo 11 (.mov (.s 18))])
 .ret))
theorem k76 : OkF 76 Tryz.f76 c76 [.t 10, .t 11] 19 := ⟨Tryz.func76, by kernel_rfl, by kernel_rfl, by kernel_rfl, Tryz.ntmps76⟩
/-! typecase/typecaseref26.row -/
def c114_0 : AC :=
 (.seq (.reg [oo 52 (.mov (.s 14)),
 oo 12 (.mov (.s 52)),
 oo 13 (.mov (nB true))])
 .ret)
def c114_1 : AC :=
 (.seq (.seq (.reg [oo 16 (.mov (.s 15)),
 oo 17 (.mov (.s 4)),
 oo 18 (.len (.s 17)),
 oo 19 (.bin .lss (.s 16) (.s 18))])
 (.cond (.s 19)
 .skip
 (.exit 0)))
 (.seq (.block 1
 (.seq (.seq (.reg [oo 22 (.mov (.s 5))])
 (.cond (.s 22)
 (.reg [oo 23 (.load true 6 (.s 6)),
 oo 24 (.load true 4 (.s 7)),
 oo 25 (.mov (.s 2)),
 oo 26 (.mov (.s 3)),
 oo 27 (.call 116 [(.s 23), (.s 24), (.s 25), (.s 26)]),
 oo 3 (.mov (.s 27))])
 (.reg [oo 28 (.load true 6 (.s 6)),
 oo 29 (.load true 4 (.s 7)),
 oo 30 (.mov (.s 2)),
 oo 31 (.mov (.s 3)),
 oo 32 (.call 92 [(.s 28), (.s 29), (.s 30), (.s 31)]),
 oo 3 (.mov (.s 32))])))
 (.seq (.seq (.regq [oo 33 (.mov (.s 3)),
 oo 34 (.bin .eql (.s 33) (nI (-1))),
 oo 35 (.mov (.s 34)),
 og 36 35 false (.mov (.s 4)),
 og 37 35 false (.mov (.s 15)),
 og 38 35 false (.idxA 1 (.s 36) (.s 37)),
 og 39 35 false (.load false 1 (.s 38)),
 og 40 35 false (.mov (.s 2)),
 og 41 35 false (.mov (.s 3)),
 og 42 35 false (.idxA 10 (.s 40) (.s 41)),
 og 43 35 false (.fldA 0 (.s 42)),
 og 44 35 false (.load false 1 (.s 43))]
[og 45 35 false (.call 55 [(.s 39), (.s 44)]),
 og 46 35 false (.un .not (.s 45)),
 oo 47 (.pick (.s 35) (nB true) (.s 46))])
 (.cond (.s 47)
 (.seq (.reg [oo 12 (.mov (.c .empty)),
 oo 13 (.mov (nB false))])
 .ret)
 .skip))
 (.reg [oo 48 (.mov (.s 14)),
 oo 49 (.mov (.s 3)),
 oo 50 (.bslice 1 [(.s 49)]),
 oo 51 (.app 1 8 (.s 48) (.s 50)),
 oo 14 (.mov (.s 51))]))))
 (.reg [oo 20 (.mov (.s 15)),
 oo 21 (.bin .add (.s 20) (nI 1)),
 oo 15 (.mov (.s 21))])))
def c114 : AC :=
 (.seq (.reg [oo 6 (.box (.s 0)),
 oo 7 (.box (.s 1)),
 oo 12 (.mov (.c .empty)),
 oo 13 (.mov (nB false))])
 (.seq (.reg [oo 14 (.mov (.c .empty))])
 (.seq (.seq (.reg [oo 15 (.mov (nI 0))])
 (.block 0
 (.loop c114_1)))
 c114_0)))
theorem k114 : OkF 114 Tryz.f114 c114 [.t 12, .t 13] 53 := ⟨Tryz.func114, by kernel_rfl, by kernel_rfl, by kernel_rfl, Tryz.ntmps114⟩
/-! typecase/typecaseref26.Row -/
def c88 : AC :=
 (.seq (.reg [oo 5 (.box (.s 0)),
 oo 6 (.box (.s 1)),
 oo 10 (.mov (.c .empty)),
 oo 11 (.mov (nB false))])
 (.seq (.reg [oo 12 (.load true 6 (.s 5)),
 oo 13 (.load true 4 (.s 6)),
 oo 14 (.mov (.s 2)),
 oo 15 (.mov (.s 3)),
 oo 16 (.mov (.s 4)),
 oo 17 (.call 114 [(.s 12), (.s 13), (.s 14), (.s 15), (.s 16), (nB false)]),
 oo 18 (.ext 0 (.s 17)),
 oo 19 (.ext 1 (.s 17)),
 oo 10 (.mov (.s 18)),
 oo 11 (.mov (.s 19))])
 .ret))
theorem k88 : OkF 88 Tryz.f88 c88 [.t 10, .t 11] 20 := ⟨Tryz.func88, by kernel_rfl, by kernel_rfl, by kernel_rfl, Tryz.ntmps88⟩
/-! typecase/typecaseref26.Back -/
def c89 : AC :=
 (.seq (.reg [oo 5 (.box (.s 0)),
 oo 6 (.box (.s 1)),
 oo 10 (.mov (.c .empty)),
 oo 11 (.mov (nB false))])
 (.seq (.reg [oo 12 (.load true 6 (.s 5)),
 oo 13 (.load true 4 (.s 6)),
 oo 14 (.mov (.s 2)),
 oo 15 (.mov (.s 3)),
 oo 16 (.mov (.s 4)),
 oo 17 (.call 114 [(.s 12), (.s 13), (.s 14), (.s 15), (.s 16), (nB true)]),
 oo 18 (.ext 0 (.s 17)),
 oo 19 (.ext 1 (.s 17)),
 oo 10 (.mov (.s 18)),
 oo 11 (.mov (.s 19))])
 .ret))
theorem k89 : OkF 89 Tryz.f89 c89 [.t 10, .t 11] 20 := ⟨Tryz.func89, by kernel_rfl, by kernel_rfl, by kernel_rfl, Tryz.ntmps89⟩
def idAt (ls : List Gl) (y : Int) : Int := ((ls[y.toNat]?).map (·.id)).getD 0
/-- places one behind the other, each in its set -/
def rowF (g : Int → Int) (ls : List Gl) : List (List Int) → Int → Option (List Int)
 | [], _ => some []
 | st :: r, x => if g x = -1 ∨ idAt ls (g x) ∉ st then none else (rowF g ls r (g x)).map (g x :: ·)
def rowB (f : Fo) (k : V) (ls : List Gl) : Heap := [⟨[.pure (fo f)], 6, .live⟩, ⟨[.pure k], 4, .live⟩, ⟨[.pure (.sl (ls.map gl))], 1, .live⟩]
theorem rowB_eq {f : Fo} {k : V} {ls : List Gl} : rowB f k ls = [⟨[.pure (fo f)], 6, .live⟩, ⟨[.pure k], 4, .live⟩, ⟨[.pure (.sl (ls.map gl))], 1, .live⟩] := rfl
theorem row1_c (f : Fo) (a b n : Int) (s : V) (ls : List Gl) (hl : ls.length ≤ 1000) (x : Int) : CallA Tryz.prog 103 [.pure (I x), .ptr 0 0 0, .ptr 1 0 0, .ptr 2 0 0] (rowB f (lkV a b n s) ls)
  fun r H' => r = .pure (I (nextF (seesF f b n ls) ls.length x)) ∧ H' = rowB f (lkV a b n s) ls := by
 refine k103.a (by simp) ?_
 rw [rowB_eq]
 unfold c103
 simp only [*, vmp,↓vmd,seval]
 refine onC_q (next_q f a b n s ls x hl) rfl ?_
 simp only [*, vmp,↓vmd,seval]
theorem back1_c (f : Fo) (a b n : Int) (s : V) (ls : List Gl) (hl : ls.length ≤ 1000) (x : Int) : CallA Tryz.prog 104 [.pure (I x), .ptr 0 0 0, .ptr 1 0 0, .ptr 2 0 0] (rowB f (lkV a b n s) ls)
  fun r H' => r = .pure (I (prevF (seesF f b n ls) ls.length x)) ∧ H' = rowB f (lkV a b n s) ls := by
 refine k104.a (by simp) ?_
 rw [rowB_eq]
 unfold c104
 simp only [*, vmp,↓vmd,seval]
 refine onC_q (prev_q f a b n s ls x hl) rfl ?_
 simp only [*, vmp,↓vmd,seval]
def resS : Option (List Int) → S
 | some l => .tup [.rsl 3 0 l.length, .pure (.bool true)]
 | none => .tup [.empty, .pure (.bool false)]
def resH (B : Heap) : Option (List Int) → Heap
 | some l => B ++ [⟨(l.map I).map .pure, 1, .live⟩]
 | none => B
theorem at_id {ls : List Gl} {y : Int} (h1 : 0 ≤ y) (h2 : y < ls.length) : ∃ g : Gl, (ls.map gl)[y.toNat]? = some (gl g) ∧ g.id = idAt ls y := by
 refine ⟨ls[y.toNat], ?_, ?_⟩
 ·rw [List.getElem?_map, List.getElem?_eq_getElem (by omega)]; rfl
 ·rw [idAt, List.getElem?_eq_getElem (by omega)]; rfl
theorem stands_c (F : Nat) (g : Int → Int) (f : Fo) (k : V) (ls : List Gl) (hg : ∀ x, g x = -1 ∨ (0 ≤ g x ∧ g x < ls.length)) (sets : List (List Int)) (x : Int) (hs : sets.length ≤ 1000)
  (hstep : ∀ y, CallA Tryz.prog F [.pure (I y), .ptr 0 0 0, .ptr 1 0 0, .ptr 2 0 0] (rowB f k ls) fun r H' => r = .pure (I (g y)) ∧ H' = rowB f k ls) :
  CallA Tryz.prog 102 [.func (.func F) [] [.ptr 0 0 0, .ptr 1 0 0, .ptr 2 0 0], .pure (.sl (ls.map gl)), .pure (I x), .pure (LL sets)] (rowB f k ls)
   fun r H' => r = resS (rowF g ls sets x) ∧ H' = resH (rowB f k ls) (rowF g ls sets x) := by
 refine CallA.weak (K := fun r H' => r = resS (rowF g ls sets x) ∧ (H' = resH (rowB f k ls) (rowF g ls sets x) ∨ (rowF g ls sets x = none ∧ ∃ R, H' = rowB f k ls ++ R))) ?_ ?_
 ·refine k102.a (by simp) ?_
  rw [rowB_eq]
  unfold c102
  simp only [*, vmp,↓vmd,seval]
  refine onIf_intro fun hlen => ?_
  simp only [*, vmp,↓vmd,seval]
  refine loop_virt 10 1 rfl (by simp) ?_
  refine loop_at (T := Nat × Int × List Int) (fun y => [(15, .pure (I (y.1 : Int))), (14, .pure (I sets.length)), (13, .pure (LL sets)), (0, .func (.func F) [] [.ptr 0 0 0, .ptr 1 0 0, .ptr 2 0 0]), (1, .pure (.sl (ls.map gl))), (2, .pure (I y.2.1)), (10, .rsl 3 0 y.2.2.length)])
   (fun y => rowB f k ls ++ [⟨(y.2.2.map I).map .pure, 1, .live⟩]) (fun y => y.1 ≤ sets.length ∧ y.2.2.length = y.1 ∧ (rowF g ls (sets.drop y.1) y.2.1).map (y.2.2 ++ ·) = rowF g ls sets x) (fun y => sets.length - y.1)
   (0, x, []) [0, 1, 2, 3] (by simp) rfl ⟨by simp, rfl, by cases h : rowF g ls sets x <;> simp [h]⟩ (by simp only [kpp,seval]) (by simp only [rowB_eq, kpp,seval]) ?_
  rintro ⟨j, y, out⟩ ⟨hj, ho, hr⟩
  simp only at hj ho hr ⊢
  unfold c102_1
  rw [rowB_eq]
  by_cases h1 : (j : Int) < (sets.length : Int)
  ·have hlt : j < sets.length := by omega
   rw [drop_at hlt, rowF] at hr
   simp only [h1, map_at hlt, Int.natCast_nonneg, vmp,↓vmd,seval]
   refine onC_fr (hstep y) [0, 1, 2] (by simp) (by simp only [rowB_eq, kpp,seval]) rfl rfl (by simp [rowB]) ?_
   rw [rowB_eq]
   have no : rowF g ls sets x = none → ∀ R : Heap, (S.tup [.empty, .pure (.bool false)] = resS (rowF g ls sets x) ∧ ((rowB f k ls ++ R) = resH (rowB f k ls) (rowF g ls sets x) ∨ (rowF g ls sets x = none ∧ ∃ R', rowB f k ls ++ R = rowB f k ls ++ R'))) := by
    intro h R
    rw [h]
    exact ⟨rfl, .inr ⟨rfl, R, rfl⟩⟩
   rcases hg y with h2 | ⟨h2, h3⟩
   ·rw [if_pos (.inl h2)] at hr
    simp only [h2, vmp,↓vmd,seval]
    exact no hr.symm [⟨(out.map I).map .pure, 1, .live⟩]
   ·have h4 : ¬ g y = -1 := by omega
    obtain ⟨q, hq1, hq2⟩ := at_id h2 h3
    simp only [h2, h3, h4, hq1, vmp,↓vmd,seval]
    refine onC_q (contains_q _ _) rfl ?_
    rw [hq2]
    by_cases h5 : idAt ls (g y) ∈ sets[j]
    ·rw [if_neg (by simp [h4, h5]), Option.map_map] at hr
     simp only [h4, h5, vmp,↓vmd,seval]
     refine onIf'_intro (appOk_one rfl rfl (by simp) (by omega) (by simp [maxLen]; omega)) ?_
     simp only [vmp,↓vmd,seval]
     refine onBk_to (j + 1, g y, out ++ [g y]) [0, 1, 2, 5] (by simp) rfl (by simp only; omega) ⟨hlt, by simp [ho], by rw [← hr]; congr 1; funext l; simp⟩ (by simp only [next_at hlt hlen, kpp,seval]) (by simp only [rowB_eq, kpp,seval])
    ·rw [if_pos (.inr h5)] at hr
     simp only [h4, h5, vmp,↓vmd,seval]
     exact no hr.symm [⟨(out.map I).map .pure, 1, .live⟩]
  ·rw [List.drop_of_length_le (by omega), rowF] at hr
   simp only [Option.map_some, List.append_nil] at hr
   simp only [h1, vmp,↓vmd,seval]
   unfold c102_0
   simp only [vmp,↓vmd,seval]
   rw [← hr]
   exact ⟨rfl, .inl rfl⟩
 ·rintro r H' ⟨rfl, rfl | ⟨h, R, rfl⟩⟩
  ·cases h : rowF g ls sets x with
   | some l => exact ⟨[0, 1, 2, 3], _, _, by simp, rfl, (by simp only [resS, kpp,seval]), (by simp only [resH, rowB_eq, kpp,seval]), rfl, rfl⟩
   | none => exact ⟨[0, 1, 2], _, _, by simp, rfl, (by simp only [resS, kpp,seval]), (by simp only [resH, rowB_eq, kpp,seval]), rfl, rfl⟩
  ·rw [h]
   exact ⟨[0, 1, 2], _, _, by simp, rfl, (by simp only [resS, kpp,seval]), (by simp only [resH, rowB_eq, kpp,seval]), rfl, rfl⟩
def rowR (o : Option (List Int)) : List V := [LI (o.getD []), .bool o.isSome]
theorem row_q (f : Fo) (a b n : Int) (s : V) (ls : List Gl) (hl : ls.length ≤ 1000) (x : Int) (sets : List (List Int)) (hs : sets.length ≤ 1000) : FnQ Tryz.prog 75 [fo f, lkV a b n s, .sl (ls.map gl), I x, LL sets] (rowR (rowF (nextF (seesF f b n ls) ls.length) ls sets x)) := by
 refine k75.q (by simp) ?_
 unfold c75
 simp only [*, vmp,↓vmd,seval]
 refine onC_fr (stands_c 103 _ f (lkV a b n s) ls (fun _ => nextF_in) sets x hs (row1_c f a b n s ls hl)) [0, 1, 2] (by simp) (by simp only [rowB_eq, kpp,seval]) rfl rfl (by cases rowF (nextF (seesF f b n ls) ls.length) ls sets x <;> simp [resH, rowB]) ?_
 cases rowF (nextF (seesF f b n ls) ls.length) ls sets x with
 | some l =>
  simp only [resS, resH, rowB_eq, vmp,↓vmd,seval]
  exact gives_tup (toVs_of (toV_row rfl (.inr ⟨rfl, rfl⟩)) rfl) (by simp)
 | none =>
  simp only [resS, resH, rowB_eq, vmp,↓vmd,seval]
  exact gives_tup rfl (by simp)
theorem back_q (f : Fo) (a b n : Int) (s : V) (ls : List Gl) (hl : ls.length ≤ 1000) (x : Int) (sets : List (List Int)) (hs : sets.length ≤ 1000) : FnQ Tryz.prog 76 [fo f, lkV a b n s, .sl (ls.map gl), I x, LL sets] (rowR (rowF (prevF (seesF f b n ls) ls.length) ls sets x)) := by
 refine k76.q (by simp) ?_
 unfold c76
 simp only [*, vmp,↓vmd,seval]
 refine onC_fr (stands_c 104 _ f (lkV a b n s) ls (fun _ => prevF_in) sets x hs (back1_c f a b n s ls hl)) [0, 1, 2] (by simp) (by simp only [rowB_eq, kpp,seval]) rfl rfl (by cases rowF (prevF (seesF f b n ls) ls.length) ls sets x <;> simp [resH, rowB]) ?_
 cases rowF (prevF (seesF f b n ls) ls.length) ls sets x with
 | some l =>
  simp only [resS, resH, rowB_eq, vmp,↓vmd,seval]
  exact gives_tup (toVs_of (toV_row rfl (.inr ⟨rfl, rfl⟩)) rfl) (by simp)
 | none =>
  simp only [resS, resH, rowB_eq, vmp,↓vmd,seval]
  exact gives_tup rfl (by simp)
def dirF (f : Fo) (b n : Int) (ls : List Gl) (bk : Bool) : Int → Int := if bk = true then prevF (seesF f b n ls) ls.length else nextF (seesF f b n ls) ls.length
theorem rrow_q (f : Fo) (a b n : Int) (s : V) (ls : List Gl) (hl : ls.length ≤ 1000) (x : Int) (sets : List (List Int)) (hs : sets.length ≤ 1000) (bk : Bool) : FnQ Tryz.prog 114 [fo f, lkV a b n s, .sl (ls.map gl), I x, LL sets, .bool bk] (rowR (rowF (dirF f b n ls bk) ls sets x)) := by
 have hg : ∀ x, dirF f b n ls bk x = -1 ∨ (0 ≤ dirF f b n ls bk x ∧ dirF f b n ls bk x < ls.length) := fun x => by cases bk <;> first | exact nextF_in | exact prevF_in
 refine k114.q (by simp) ?_
 unfold c114
 simp only [*, vmp,↓vmd,seval]
 refine loop_virt 14 1 rfl (by simp) ?_
 refine loop_at (T := Nat × Int × List Int) (fun y => [(15, .pure (I (y.1 : Int))), (4, .pure (LL sets)), (2, .pure (.sl (ls.map gl))), (3, .pure (I y.2.1)), (5, .pure (.bool bk)), (6, .ptr 0 0 0), (7, .ptr 1 0 0), (14, .rsl 2 0 y.2.2.length)])
  (fun y => [⟨[.pure (fo f)], 6, .live⟩, ⟨[.pure (lkV a b n s)], 4, .live⟩, ⟨(y.2.2.map I).map .pure, 1, .live⟩]) (fun y => y.1 ≤ sets.length ∧ y.2.2.length = y.1 ∧ (rowF (dirF f b n ls bk) ls (sets.drop y.1) y.2.1).map (y.2.2 ++ ·) = rowF (dirF f b n ls bk) ls sets x) (fun y => sets.length - y.1)
  (0, x, []) [0, 1, 2] (by simp) rfl ⟨by simp, rfl, by cases h : rowF (dirF f b n ls bk) ls sets x <;> simp [h]⟩ (by simp only [kpp,seval]) (by simp only [kpp,seval]) ?_
 rintro ⟨j, y, out⟩ ⟨hj, ho, hr⟩
 simp only at hj ho hr ⊢
 unfold c114_1
 simp only [vmp,↓vmd,seval]
 refine onIf_intro fun hlen => ?_
 simp only [vmp,↓vmd,seval]
 by_cases h1 : (j : Int) < (sets.length : Int)
 ·have hlt : j < sets.length := by omega
  rw [drop_at hlt, rowF] at hr
  have no : rowF (dirF f b n ls bk) ls sets x = none → ∀ H : Heap, Gives (rowR (rowF (dirF f b n ls bk) ls sets x)) (.tup [.empty, .pure (.bool false)]) H := by
   intro h H
   rw [h]
   exact gives_tup rfl (by simp)
  cases bk
  all_goals
   simp only [h1, map_at hlt, Int.natCast_nonneg, vmp,↓vmd,seval]
   first
    | refine onC_q (rnext_q f a b n s ls y hl) rfl ?_
    | refine onC_q (rprev_q f a b n s ls y hl) rfl ?_
  ·rw [show nextF (seesF f b n ls) ls.length y = dirF f b n ls false y from rfl]
   rcases hg y with h2 | ⟨h2, h3⟩
   ·rw [if_pos (.inl h2)] at hr
    simp only [h1, h2, map_at hlt, Int.natCast_nonneg, vmp,↓vmd,seval]
    exact no hr.symm _
   ·have h4 : ¬ dirF f b n ls false y = -1 := by omega
    obtain ⟨q, hq1, hq2⟩ := at_id h2 h3
    simp only [h1, h2, h3, h4, hq1, map_at hlt, Int.natCast_nonneg, vmp,↓vmd,seval]
    refine onC_q (in_q _ _) rfl ?_
    rw [hq2]
    by_cases h5 : idAt ls (dirF f b n ls false y) ∈ sets[j]
    ·rw [if_neg (by simp [h4, h5]), Option.map_map] at hr
     simp only [h4, h5, vmp,↓vmd,seval]
     refine onIf'_intro (appOk_one rfl rfl (by simp) (by omega) (by simp [maxLen]; omega)) ?_
     simp only [vmp,↓vmd,seval]
     refine onBk_to (j + 1, dirF f b n ls false y, out ++ [dirF f b n ls false y]) [0, 1, 4] (by simp) rfl (by simp only; omega) ⟨hlt, by simp [ho], by rw [← hr]; congr 1; funext l; simp⟩ (by simp only [next_at hlt (by omega), kpp,seval]) (by simp only [kpp,seval])
    ·rw [if_pos (.inr h5)] at hr
     simp only [h4, h5, vmp,↓vmd,seval]
     exact no hr.symm _
  ·rw [show prevF (seesF f b n ls) ls.length y = dirF f b n ls true y from rfl]
   rcases hg y with h2 | ⟨h2, h3⟩
   ·rw [if_pos (.inl h2)] at hr
    simp only [h1, h2, map_at hlt, Int.natCast_nonneg, vmp,↓vmd,seval]
    exact no hr.symm _
   ·have h4 : ¬ dirF f b n ls true y = -1 := by omega
    obtain ⟨q, hq1, hq2⟩ := at_id h2 h3
    simp only [h1, h2, h3, h4, hq1, map_at hlt, Int.natCast_nonneg, vmp,↓vmd,seval]
    refine onC_q (in_q _ _) rfl ?_
    rw [hq2]
    by_cases h5 : idAt ls (dirF f b n ls true y) ∈ sets[j]
    ·rw [if_neg (by simp [h4, h5]), Option.map_map] at hr
     simp only [h4, h5, vmp,↓vmd,seval]
     refine onIf'_intro (appOk_one rfl rfl (by simp) (by omega) (by simp [maxLen]; omega)) ?_
     simp only [vmp,↓vmd,seval]
     refine onBk_to (j + 1, dirF f b n ls true y, out ++ [dirF f b n ls true y]) [0, 1, 4] (by simp) rfl (by simp only; omega) ⟨hlt, by simp [ho], by rw [← hr]; congr 1; funext l; simp⟩ (by simp only [next_at hlt (by omega), kpp,seval]) (by simp only [kpp,seval])
    ·rw [if_pos (.inr h5)] at hr
     simp only [h4, h5, vmp,↓vmd,seval]
     exact no hr.symm _
 ·rw [List.drop_of_length_le (by omega), rowF] at hr
  simp only [Option.map_some, List.append_nil] at hr
  simp only [h1, vmp,↓vmd,seval]
  unfold c114_0
  simp only [vmp,↓vmd,seval]
  rw [← hr]
  exact gives_tup (toVs_of (toV_row rfl (.inr ⟨rfl, rfl⟩)) rfl) (by simp)
theorem rrowf_q (f : Fo) (a b n : Int) (s : V) (ls : List Gl) (hl : ls.length ≤ 1000) (x : Int) (sets : List (List Int)) (hs : sets.length ≤ 1000) : FnQ Tryz.prog 88 [fo f, lkV a b n s, .sl (ls.map gl), I x, LL sets] (rowR (rowF (nextF (seesF f b n ls) ls.length) ls sets x)) := by
 refine k88.q (by simp) ?_
 unfold c88
 simp only [*, vmp,↓vmd,seval]
 refine onC_q (rrow_q f a b n s ls hl x sets hs false) rfl ?_
 simp only [rowR, vmp,↓vmd,seval]
 exact gives_tup rfl (by simp)
theorem rrowb_q (f : Fo) (a b n : Int) (s : V) (ls : List Gl) (hl : ls.length ≤ 1000) (x : Int) (sets : List (List Int)) (hs : sets.length ≤ 1000) : FnQ Tryz.prog 89 [fo f, lkV a b n s, .sl (ls.map gl), I x, LL sets] (rowR (rowF (prevF (seesF f b n ls) ls.length) ls sets x)) := by
 refine k89.q (by simp) ?_
 unfold c89
 simp only [*, vmp,↓vmd,seval]
 refine onC_q (rrow_q f a b n s ls hl x sets hs true) rfl ?_
 simp only [rowR, vmp,↓vmd,seval]
 exact gives_tup rfl (by simp)
end Go.Proofs.YtcjmkpkhjhjepaaGreat.W
