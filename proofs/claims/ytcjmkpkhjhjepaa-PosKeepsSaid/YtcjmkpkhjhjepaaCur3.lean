/-
  Glyphs that hang on one another, at one place: two functions, one answer. No condition but on sizes.
-/
import Derived.Test.YtcjmkpkhjhjepaaCur2
import Derived.Test.YtcjmkpkhjhjepaaCopyG
namespace Go.Proofs.Ytcjmkpkhjhjepaa.W
open Go Go.Vm Go.Proofs
set_option maxRecDepth 100000
set_option linter.unusedSimpArgs false
set_option maxHeartbeats 4000000
/-! typecase/typecaseref33.Next -/
def c39 : AC :=
 (.seq (.reg [⟨some 4, none, .box (.s 0)⟩,
⟨some 5, none, .box (.s 1)⟩,
⟨some 8, none, .mov (.c (.pure (.int .i64 0)))⟩])
 (.seq (.seq (.reg [⟨some 14, none, .mov (.s 3)⟩,
⟨some 15, none, .bin .lss (.s 14) (.c (.pure (.int .i64 0)))⟩,
⟨some 16, none, .mov (.s 15)⟩,
⟨some 17, some (16, false), .mov (.s 3)⟩,
⟨some 18, some (16, false), .mov (.s 2)⟩,
⟨some 19, some (16, false), .len (.s 18)⟩,
⟨some 20, some (16, false), .bin .geq (.s 17) (.s 19)⟩,
⟨some 21, none, .pick (.s 16) (.c (.pure (.bool true))) (.s 20)⟩])
 (.cond (.s 21)
 (.seq (.reg [⟨some 8, none, .mov (.c (.pure (.int .i64 (-1))))⟩])
 .ret)
 .skip))
 (.seq (.regq [⟨some 23, none, .load true 4 (.s 5)⟩,
⟨some 24, none, .mov (.s 2)⟩,
⟨some 25, none, .mov (.s 3)⟩,
⟨some 26, none, .idxA 10 (.s 24) (.s 25)⟩,
⟨some 27, none, .fldA 0 (.s 26)⟩,
⟨some 28, none, .load false 1 (.s 27)⟩,
⟨some 29, none, .call 14 [(.s 23), (.s 28)]⟩,
⟨some 22, none, .mov (.s 29)⟩,
⟨some 30, none, .ext 0 (.s 22)⟩,
⟨some 31, none, .ext 1 (.s 22)⟩,
⟨some 9, none, .box (.c (.pure (.agg [(.int .i64 0), (.bool false), (.bool false), (.int .i64 0), (.int .i64 0), (.int .i64 0), (.int .i64 0)])))⟩]
[⟨none, none, .store 7 (.s 9) (.s 30)⟩,
⟨some 10, none, .mov (.s 31)⟩])
 (.seq (.reg [⟨some 32, none, .load true 6 (.s 4)⟩,
⟨some 33, none, .load true 4 (.s 5)⟩,
⟨some 34, none, .mov (.s 2)⟩,
⟨some 35, none, .mov (.s 3)⟩,
⟨some 36, none, .call 60 [(.s 32), (.s 33), (.s 34), (.s 35)]⟩,
⟨some 11, none, .mov (.s 36)⟩])
 (.seq (.seq (.reg [⟨some 37, none, .mov (.s 10)⟩,
⟨some 38, none, .un .not (.s 37)⟩,
⟨some 39, none, .mov (.s 38)⟩,
⟨some 40, some (39, false), .fldA 2 (.s 9)⟩,
⟨some 41, some (39, false), .load false 1 (.s 40)⟩,
⟨some 42, some (39, false), .un .not (.s 41)⟩,
⟨some 43, none, .pick (.s 39) (.c (.pure (.bool true))) (.s 42)⟩,
⟨some 44, none, .mov (.s 43)⟩,
⟨some 45, some (44, false), .mov (.s 11)⟩,
⟨some 46, some (44, false), .bin .eql (.s 45) (.c (.pure (.int .i64 (-1))))⟩,
⟨some 47, none, .pick (.s 44) (.c (.pure (.bool true))) (.s 46)⟩])
 (.cond (.s 47)
 (.seq (.reg [⟨some 8, none, .mov (.c (.pure (.int .i64 (-1))))⟩])
 .ret)
 .skip))
 (.seq (.regq [⟨some 49, none, .load true 4 (.s 5)⟩,
⟨some 50, none, .mov (.s 2)⟩,
⟨some 51, none, .mov (.s 11)⟩,
⟨some 52, none, .idxA 10 (.s 50) (.s 51)⟩,
⟨some 53, none, .fldA 0 (.s 52)⟩,
⟨some 54, none, .load false 1 (.s 53)⟩,
⟨some 55, none, .call 14 [(.s 49), (.s 54)]⟩,
⟨some 48, none, .mov (.s 55)⟩,
⟨some 56, none, .ext 0 (.s 48)⟩,
⟨some 57, none, .ext 1 (.s 48)⟩,
⟨some 12, none, .box (.c (.pure (.agg [(.int .i64 0), (.bool false), (.bool false), (.int .i64 0), (.int .i64 0), (.int .i64 0), (.int .i64 0)])))⟩]
[⟨none, none, .store 7 (.s 12) (.s 56)⟩,
⟨some 13, none, .mov (.s 57)⟩])
 (.seq (.seq (.reg [⟨some 58, none, .mov (.s 13)⟩,
⟨some 59, none, .un .not (.s 58)⟩,
⟨some 60, none, .mov (.s 59)⟩,
⟨some 61, some (60, false), .fldA 1 (.s 12)⟩,
⟨some 62, some (60, false), .load false 1 (.s 61)⟩,
⟨some 63, some (60, false), .un .not (.s 62)⟩,
⟨some 64, none, .pick (.s 60) (.c (.pure (.bool true))) (.s 63)⟩])
 (.cond (.s 64)
 (.seq (.reg [⟨some 8, none, .mov (.c (.pure (.int .i64 (-1))))⟩])
 .ret)
 .skip))
 (.seq (.reg [⟨some 65, none, .mov (.s 11)⟩,
⟨some 8, none, .mov (.s 65)⟩])
 .ret))))))))
/-! typecase/cursive.Apply -/
def c16 : AC :=
 (.seq (.reg [⟨some 4, none, .box (.s 0)⟩,
⟨some 5, none, .box (.s 1)⟩,
⟨some 8, none, .mov (.c .empty)⟩,
⟨some 9, none, .mov (.c (.pure (.int .i64 0)))⟩,
⟨some 10, none, .mov (.c (.pure (.bool false)))⟩])
 (.seq (.reg [⟨some 17, none, .mov (.s 2)⟩,
⟨some 18, none, .call 36 [(.s 17)]⟩,
⟨some 11, none, .mov (.s 18)⟩])
 (.seq (.reg [⟨some 20, none, .load true 6 (.s 4)⟩,
⟨some 21, none, .load true 4 (.s 5)⟩,
⟨some 22, none, .mov (.s 2)⟩,
⟨some 23, none, .mov (.s 3)⟩,
⟨some 24, none, .call 37 [(.s 20), (.s 21), (.s 22), (.s 23)]⟩,
⟨some 19, none, .mov (.s 24)⟩,
⟨some 25, none, .ext 0 (.s 19)⟩,
⟨some 26, none, .ext 1 (.s 19)⟩,
⟨some 27, none, .ext 2 (.s 19)⟩,
⟨some 28, none, .ext 3 (.s 19)⟩,
⟨some 13, none, .box (.c (.pure (.agg [(.int .i64 0), (.int .i64 0)])))⟩,
⟨some 14, none, .box (.c (.pure (.agg [(.int .i64 0), (.int .i64 0)])))⟩,
⟨some 12, none, .mov (.s 25)⟩,
⟨none, none, .store 2 (.s 13) (.s 26)⟩,
⟨none, none, .store 2 (.s 14) (.s 27)⟩,
⟨some 15, none, .mov (.s 28)⟩])
 (.seq (.seq (.reg [⟨some 29, none, .mov (.s 15)⟩,
⟨some 30, none, .un .not (.s 29)⟩])
 (.cond (.s 30)
 (.seq (.reg [⟨some 31, none, .mov (.s 11)⟩,
⟨some 32, none, .mov (.s 3)⟩,
⟨some 8, none, .mov (.s 31)⟩,
⟨some 9, none, .mov (.s 32)⟩,
⟨some 10, none, .mov (.c (.pure (.bool false)))⟩])
 .ret)
 .skip))
 (.seq (.regq [⟨some 33, none, .mov (.s 11)⟩,
⟨some 34, none, .mov (.s 3)⟩,
⟨some 35, none, .fldA 0 (.s 13)⟩,
⟨some 36, none, .load false 1 (.s 35)⟩,
⟨some 37, none, .mov (.s 11)⟩,
⟨some 38, none, .mov (.s 3)⟩,
⟨some 39, none, .idxA 10 (.s 37) (.s 38)⟩,
⟨some 40, none, .fldA 3 (.s 39)⟩,
⟨some 41, none, .load false 1 (.s 40)⟩,
⟨some 42, none, .bin .add (.s 36) (.s 41)⟩]
[⟨some 43, none, .idxA 10 (.s 33) (.s 34)⟩,
⟨some 44, none, .fldA 2 (.s 43)⟩,
⟨none, none, .store 1 (.s 44) (.s 42)⟩])
 (.seq (.reg [⟨some 45, none, .mov (.s 11)⟩,
⟨some 46, none, .mov (.s 12)⟩,
⟨some 47, none, .idxA 10 (.s 45) (.s 46)⟩,
⟨some 16, none, .mov (.s 47)⟩])
 (.seq (.regq [⟨some 48, none, .mov (.s 16)⟩,
⟨some 49, none, .nilck (.s 48)⟩,
⟨some 50, none, .fldA 2 (.s 49)⟩,
⟨some 51, none, .load false 1 (.s 50)⟩,
⟨some 52, none, .fldA 0 (.s 14)⟩,
⟨some 53, none, .load false 1 (.s 52)⟩]
[⟨some 54, none, .bin .sub (.s 51) (.s 53)⟩,
⟨some 55, none, .nilck (.s 48)⟩,
⟨some 56, none, .fldA 2 (.s 55)⟩,
⟨none, none, .store 1 (.s 56) (.s 54)⟩])
 (.seq (.regq [⟨some 57, none, .mov (.s 16)⟩,
⟨some 58, none, .nilck (.s 57)⟩,
⟨some 59, none, .fldA 3 (.s 58)⟩,
⟨some 60, none, .load false 1 (.s 59)⟩,
⟨some 61, none, .fldA 0 (.s 14)⟩,
⟨some 62, none, .load false 1 (.s 61)⟩]
[⟨some 63, none, .bin .sub (.s 60) (.s 62)⟩,
⟨some 64, none, .nilck (.s 57)⟩,
⟨some 65, none, .fldA 3 (.s 64)⟩,
⟨none, none, .store 1 (.s 65) (.s 63)⟩])
 (.seq (.reg [⟨some 66, none, .mov (.s 16)⟩,
⟨some 67, none, .fldA 1 (.s 13)⟩,
⟨some 68, none, .load false 1 (.s 67)⟩,
⟨some 69, none, .fldA 1 (.s 14)⟩,
⟨some 70, none, .load false 1 (.s 69)⟩,
⟨some 71, none, .bin .sub (.s 68) (.s 70)⟩,
⟨some 72, none, .nilck (.s 66)⟩,
⟨some 73, none, .fldA 4 (.s 72)⟩,
⟨none, none, .store 1 (.s 73) (.s 71)⟩])
 (.seq (.reg [⟨some 74, none, .mov (.s 16)⟩,
⟨some 75, none, .mov (.s 3)⟩,
⟨some 76, none, .nilck (.s 74)⟩,
⟨some 77, none, .fldA 6 (.s 76)⟩,
⟨none, none, .store 1 (.s 77) (.s 75)⟩])
 (.seq (.reg [⟨some 78, none, .mov (.s 11)⟩,
⟨some 79, none, .mov (.s 12)⟩,
⟨some 8, none, .mov (.s 78)⟩,
⟨some 9, none, .mov (.s 79)⟩,
⟨some 10, none, .mov (.c (.pure (.bool true)))⟩])
 .ret)))))))))))
theorem k16 : OkF 16 Try.f16 c16 [.t 8, .t 9, .t 10] 80 := ⟨Try.func16, by kernel_rfl, by kernel_rfl, by kernel_rfl, Try.ntmps16⟩
/-! typecase/typecaseref33.Apply -/
def c17 : AC :=
 (.seq (.reg [⟨some 4, none, .box (.s 0)⟩,
⟨some 5, none, .box (.s 1)⟩,
⟨some 8, none, .mov (.c .empty)⟩,
⟨some 9, none, .mov (.c (.pure (.int .i64 0)))⟩,
⟨some 10, none, .mov (.c (.pure (.bool false)))⟩])
 (.seq (.reg [⟨some 17, none, .mov (.s 2)⟩,
⟨some 18, none, .call 38 [(.s 17)]⟩,
⟨some 11, none, .mov (.s 18)⟩])
 (.seq (.reg [⟨some 19, none, .load true 6 (.s 4)⟩,
⟨some 20, none, .load true 4 (.s 5)⟩,
⟨some 21, none, .mov (.s 2)⟩,
⟨some 22, none, .mov (.s 3)⟩,
⟨some 23, none, .call 39 [(.s 19), (.s 20), (.s 21), (.s 22)]⟩,
⟨some 12, none, .mov (.s 23)⟩])
 (.seq (.seq (.reg [⟨some 24, none, .mov (.s 12)⟩,
⟨some 25, none, .bin .eql (.s 24) (.c (.pure (.int .i64 (-1))))⟩])
 (.cond (.s 25)
 (.seq (.reg [⟨some 26, none, .mov (.s 11)⟩,
⟨some 27, none, .mov (.s 3)⟩,
⟨some 8, none, .mov (.s 26)⟩,
⟨some 9, none, .mov (.s 27)⟩,
⟨some 10, none, .mov (.c (.pure (.bool false)))⟩])
 .ret)
 .skip))
 (.seq (.regq [⟨some 29, none, .load true 4 (.s 5)⟩,
⟨some 30, none, .mov (.s 2)⟩,
⟨some 31, none, .mov (.s 3)⟩,
⟨some 32, none, .idxA 10 (.s 30) (.s 31)⟩,
⟨some 33, none, .fldA 0 (.s 32)⟩,
⟨some 34, none, .load false 1 (.s 33)⟩,
⟨some 35, none, .call 14 [(.s 29), (.s 34)]⟩,
⟨some 28, none, .mov (.s 35)⟩,
⟨some 36, none, .ext 0 (.s 28)⟩,
⟨some 37, none, .ext 1 (.s 28)⟩,
⟨some 13, none, .box (.c (.pure (.agg [(.int .i64 0), (.bool false), (.bool false), (.int .i64 0), (.int .i64 0), (.int .i64 0), (.int .i64 0)])))⟩]
[⟨none, none, .store 7 (.s 13) (.s 36)⟩,
⟨some 14, none, .mov (.s 37)⟩])
 (.seq (.regq [⟨some 39, none, .load true 4 (.s 5)⟩,
⟨some 40, none, .mov (.s 2)⟩,
⟨some 41, none, .mov (.s 12)⟩,
⟨some 42, none, .idxA 10 (.s 40) (.s 41)⟩,
⟨some 43, none, .fldA 0 (.s 42)⟩,
⟨some 44, none, .load false 1 (.s 43)⟩,
⟨some 45, none, .call 14 [(.s 39), (.s 44)]⟩,
⟨some 38, none, .mov (.s 45)⟩,
⟨some 46, none, .ext 0 (.s 38)⟩,
⟨some 47, none, .ext 1 (.s 38)⟩,
⟨some 15, none, .box (.c (.pure (.agg [(.int .i64 0), (.bool false), (.bool false), (.int .i64 0), (.int .i64 0), (.int .i64 0), (.int .i64 0)])))⟩]
[⟨none, none, .store 7 (.s 15) (.s 46)⟩,
⟨some 16, none, .mov (.s 47)⟩])
 (.seq (.regq [⟨some 48, none, .mov (.s 11)⟩,
⟨some 49, none, .mov (.s 3)⟩,
⟨some 50, none, .fldA 5 (.s 13)⟩,
⟨some 51, none, .fldA 0 (.s 50)⟩,
⟨some 52, none, .load false 1 (.s 51)⟩,
⟨some 53, none, .mov (.s 11)⟩,
⟨some 54, none, .mov (.s 3)⟩,
⟨some 55, none, .idxA 10 (.s 53) (.s 54)⟩,
⟨some 56, none, .fldA 3 (.s 55)⟩,
⟨some 57, none, .load false 1 (.s 56)⟩,
⟨some 58, none, .bin .add (.s 52) (.s 57)⟩]
[⟨some 59, none, .idxA 10 (.s 48) (.s 49)⟩,
⟨some 60, none, .fldA 2 (.s 59)⟩,
⟨none, none, .store 1 (.s 60) (.s 58)⟩])
 (.seq (.regq [⟨some 61, none, .mov (.s 11)⟩,
⟨some 62, none, .mov (.s 12)⟩,
⟨some 63, none, .mov (.s 11)⟩,
⟨some 64, none, .mov (.s 12)⟩,
⟨some 65, none, .idxA 10 (.s 63) (.s 64)⟩,
⟨some 66, none, .fldA 2 (.s 65)⟩,
⟨some 67, none, .load false 1 (.s 66)⟩,
⟨some 68, none, .fldA 3 (.s 15)⟩,
⟨some 69, none, .fldA 0 (.s 68)⟩,
⟨some 70, none, .load false 1 (.s 69)⟩,
⟨some 71, none, .bin .sub (.s 67) (.s 70)⟩]
[⟨some 72, none, .idxA 10 (.s 61) (.s 62)⟩,
⟨some 73, none, .fldA 2 (.s 72)⟩,
⟨none, none, .store 1 (.s 73) (.s 71)⟩])
 (.seq (.regq [⟨some 74, none, .mov (.s 11)⟩,
⟨some 75, none, .mov (.s 12)⟩,
⟨some 76, none, .mov (.s 11)⟩,
⟨some 77, none, .mov (.s 12)⟩,
⟨some 78, none, .idxA 10 (.s 76) (.s 77)⟩,
⟨some 79, none, .fldA 3 (.s 78)⟩,
⟨some 80, none, .load false 1 (.s 79)⟩,
⟨some 81, none, .fldA 3 (.s 15)⟩,
⟨some 82, none, .fldA 0 (.s 81)⟩,
⟨some 83, none, .load false 1 (.s 82)⟩,
⟨some 84, none, .bin .sub (.s 80) (.s 83)⟩]
[⟨some 85, none, .idxA 10 (.s 74) (.s 75)⟩,
⟨some 86, none, .fldA 3 (.s 85)⟩,
⟨none, none, .store 1 (.s 86) (.s 84)⟩])
 (.seq (.reg [⟨some 87, none, .mov (.s 11)⟩,
⟨some 88, none, .mov (.s 12)⟩,
⟨some 89, none, .fldA 5 (.s 13)⟩,
⟨some 90, none, .fldA 1 (.s 89)⟩,
⟨some 91, none, .load false 1 (.s 90)⟩,
⟨some 92, none, .fldA 3 (.s 15)⟩,
⟨some 93, none, .fldA 1 (.s 92)⟩,
⟨some 94, none, .load false 1 (.s 93)⟩,
⟨some 95, none, .bin .sub (.s 91) (.s 94)⟩,
⟨some 96, none, .idxA 10 (.s 87) (.s 88)⟩,
⟨some 97, none, .fldA 4 (.s 96)⟩,
⟨none, none, .store 1 (.s 97) (.s 95)⟩])
 (.seq (.reg [⟨some 98, none, .mov (.s 11)⟩,
⟨some 99, none, .mov (.s 12)⟩,
⟨some 100, none, .mov (.s 3)⟩,
⟨some 101, none, .idxA 10 (.s 98) (.s 99)⟩,
⟨some 102, none, .fldA 6 (.s 101)⟩,
⟨none, none, .store 1 (.s 102) (.s 100)⟩])
 (.seq (.reg [⟨some 103, none, .mov (.s 11)⟩,
⟨some 104, none, .mov (.s 12)⟩,
⟨some 8, none, .mov (.s 103)⟩,
⟨some 9, none, .mov (.s 104)⟩,
⟨some 10, none, .mov (.c (.pure (.bool true)))⟩])
 .ret))))))))))))
def nxR (o : Option (Int × Cu × Cu)) : Int := match o with
 | some z => z.1
 | none => -1
theorem set_row {X : List Gl} {i : Nat} {c0 c1 c2 c3 c4 c5 c6 c7 c8 c9 : Int} : ((X.map gl).map S.pure).set i (.pure (.agg [I c0, I c1, I c2, I c3, I c4, I c5, I c6, I c7, I c8, I c9])) = ((X.set i ⟨c0, c1, c2, c3, c4, c5, c6, c7, c8, c9⟩).map gl).map S.pure := by
 rw [List.map_set, List.map_set]
theorem capply_q (f : Fo) (k : Lk) (ls : List Gl) (hl : ls.length ≤ 1000) (x : Int) : FnQ Try.prog 16 [fo f, lk k, .sl (ls.map gl), I x] (curA f k ls x) := by
 obtain ⟨r, hq, hr⟩ := hang_q f k ls hl x
 have hin := @hangF_some f k ls x
 have ho : curA f k ls x = [.sl ((((hangF f k ls x).map fun z => (z.1, doC ls x z.1 z.2.1 z.2.2)).getD (x, ls)).2.map gl), I ((((hangF f k ls x).map fun z => (z.1, doC ls x z.1 z.2.1 z.2.2)).getD (x, ls)).1), .bool ((hangF f k ls x).map fun z => (z.1, doC ls x z.1 z.2.1 z.2.2)).isSome] := rfl
 refine k16.q (by simp) ?_
 unfold c16
 generalize curA f k ls x = out at *
 generalize hangF f k ls x = o at *
 simp -implicitDefEqProofs only [vmp,↓vmd,seval]
 refine onC_fr (cloneG_c ls hl) [] (by simp) trivial rfl rfl (by simp) ?_
 (first | apply envO | apply envQ); simp -implicitDefEqProofs only [vmp,↓vmd,seval]; rfl
 simp -implicitDefEqProofs only [vmp,↓vmd,seval]
 cases o with
 | none =>
  obtain ⟨n, a, b, c, d, rfl⟩ := hr
  refine onC_q hq rfl ?_
  subst ho
  (first | apply envO | apply envQ); simp -implicitDefEqProofs only [vmp,↓vmd,seval]; rfl
  simp -implicitDefEqProofs only [vmp,↓vmd,seval]
  exact gives_tup (toVs_of (toV_rowN rfl (.inr ⟨rfl, rfl⟩) (by simp)) rfl) (by simp)
 | some z =>
  obtain ⟨n, a, b⟩ := z
  obtain ⟨x0, x1, _, xn, n1, _⟩ := hin rfl
  have hr : r = [I n, .agg [I a.xx, I a.xy], .agg [I b.ex, I b.ey], .bool true] := hr
  subst hr
  have n0 : 0 ≤ n := by omega
  refine onC_q hq rfl ?_
  simp only [Option.map_some, Option.getD_some, Option.isSome_some] at ho
  have hgx := glAt_row x0 x1
  have hgn := glAt_row n0 n1
  have g1 : ∀ A : Gl, (((ls.set x.toNat A).map gl).map S.pure)[n.toNat]? = some (.pure (gl (glAt ls n))) := fun A => by
   rw [← hgn, List.getElem?_map, List.getElem?_map, List.getElem?_map, List.getElem?_map, set_ne (by omega)]
  have g2 : ∀ A B : Gl, ((((ls.set x.toNat A).set n.toNat B).map gl).map S.pure)[n.toNat]? = some (.pure (gl B)) := fun A B => by
   rw [List.getElem?_map, List.getElem?_map, set_i (by rw [List.length_set]; omega)]; rfl
  (first | apply envO | apply envQ); simp -implicitDefEqProofs only [vmp,↓vmd,seval]; rfl
  simp -implicitDefEqProofs only [hgx, hgn, x0, x1, n0, n1, set_row, g1, g2, List.set_set, vmp,↓vmd,seval]
  subst ho
  exact gives_tup (toVs_of (toV_rowN (f := gl) (X := doC ls x n a b) rfl (.inr ⟨rfl, rfl⟩) (by simp [doC_len])) rfl) (by simp)
end Go.Proofs.Ytcjmkpkhjhjepaa.W
