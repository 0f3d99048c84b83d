/-
  Which glyphs a lookup does not see: the program's function and the document's: what each does. No condition.
-/
import Derived.Test.YtcjmkpkhjhjepaaGreatData
namespace Go.Proofs.YtcjmkpkhjhjepaaGreat.W
open Go Go.Vm Go.Proofs
set_option maxRecDepth 100000
set_option linter.unusedSimpArgs false
set_option maxHeartbeats 1000000
/-! slices.Index[[]int,int] -/
def c101_0 : AC :=
 (.seq (.reg [oo 4 (.mov (nI (-1)))])
 .ret)
def c101_1 : AC :=
 (.seq (.reg [oo 9 (.bin .lss (.s 8) (.s 7))])
 (.seq (.cond (.s 9)
 .skip
 (.exit 0))
 (.seq (.block 1
 (.seq (.reg [oo 10 (.mov (.s 8)),
 oo 5 (.mov (.s 10))])
 (.seq (.reg [oo 11 (.mov (.s 1)),
 oo 12 (.mov (.s 0)),
 oo 13 (.mov (.s 5)),
 oo 14 (.idxA 1 (.s 12) (.s 13)),
 oo 15 (.load false 1 (.s 14)),
 oo 16 (.bin .eql (.s 11) (.s 15))])
 (.cond (.s 16)
 (.seq (.reg [oo 17 (.mov (.s 5)),
 oo 4 (.mov (.s 17))])
 .ret)
 .skip))))
 (.reg [oo 18 (.bin .add (.s 8) (nI 1)),
 oo 8 (.mov (.s 18))]))))
def c101 : AC :=
 (.seq (.reg [oo 4 (.mov (nI 0))])
 (.seq (.seq (.reg [oo 6 (.mov (.s 0)),
 oo 7 (.len (.s 6)),
 oo 8 (.mov (nI 0))])
 (.block 0
 (.loop c101_1)))
 c101_0))
theorem k101 : OkF 101 Tryz.f101 c101 [.t 4] 19 := ⟨Tryz.func101, by kernel_rfl, by kernel_rfl, by kernel_rfl, Tryz.ntmps101⟩
/-! slices.Contains[[]int,int] -/
def c73 : AC :=
 (.seq (.reg [oo 4 (.mov (nB false))])
 (.seq (.reg [oo 5 (.mov (.s 0)),
 oo 6 (.mov (.s 1)),
 oo 7 (.call 101 [(.s 5), (.s 6)]),
 oo 8 (.bin .geq (.s 7) (nI 0)),
 oo 4 (.mov (.s 8))])
 .ret))
theorem k73 : OkF 73 Tryz.f73 c73 [.t 4] 9 := ⟨Tryz.func73, by kernel_rfl, by kernel_rfl, by kernel_rfl, Tryz.ntmps73⟩
/-! typecase/cover.info -/
def c72 : AC :=
 (.seq (.reg [oo 2 (.box (.s 0)),
 oo 4 (.box (.c (.agg [(pI 0), (pI 0), (pI 0), .empty])))])
 (.seq (.seq (.reg [oo 5 (.mov (.s 1)),
 oo 6 (.bin .lss (.s 5) (nI 0)),
 oo 7 (.mov (.s 6)),
 og 8 7 false (.mov (.s 1)),
 og 9 7 false (.fldA 1 (.s 2)),
 og 10 7 false (.load false 1 (.s 9)),
 og 11 7 false (.len (.s 10)),
 og 12 7 false (.bin .geq (.s 8) (.s 11)),
 oo 13 (.pick (.s 7) (nB true) (.s 12))])
 (.cond (.s 13)
 (.seq (.reg [oo 14 (.build [(pI 0), (pI 0), (pI 0), .empty] []),
⟨none, none, .store 4 (.s 4) (.s 14)⟩])
 .ret)
 .skip))
 (.seq (.reg [oo 15 (.fldA 1 (.s 2)),
 oo 16 (.load false 1 (.s 15)),
 oo 17 (.mov (.s 1)),
 oo 18 (.idxA 4 (.s 16) (.s 17)),
 oo 19 (.load true 4 (.s 18)),
⟨none, none, .store 4 (.s 4) (.s 19)⟩])
 .ret)))
theorem k72 : OkF 72 Tryz.f72 c72 [.c 4 true 4] 20 := ⟨Tryz.func72, by kernel_rfl, by kernel_rfl, by kernel_rfl, Tryz.ntmps72⟩
/-! typecase/cover.Kind -/
def c46 : AC :=
 (.seq (.reg [oo 2 (.box (.s 0)),
 oo 4 (.mov (nI 0))])
 (.seq (.reg [oo 5 (.load true 6 (.s 2)),
 oo 6 (.mov (.s 1)),
 oo 7 (.call 72 [(.s 5), (.s 6)]),
 oo 8 (.fld false 1 1 (.s 7)),
 oo 4 (.mov (.s 8))])
 .ret))
theorem k46 : OkF 46 Tryz.f46 c46 [.t 4] 9 := ⟨Tryz.func46, by kernel_rfl, by kernel_rfl, by kernel_rfl, Tryz.ntmps46⟩
/-! typecase/cover.Attach -/
def c74 : AC :=
 (.seq (.reg [oo 2 (.box (.s 0)),
 oo 4 (.mov (nI 0))])
 (.seq (.reg [oo 5 (.load true 6 (.s 2)),
 oo 6 (.mov (.s 1)),
 oo 7 (.call 72 [(.s 5), (.s 6)]),
 oo 8 (.fld false 2 1 (.s 7)),
 oo 4 (.mov (.s 8))])
 .ret))
theorem k74 : OkF 74 Tryz.f74 c74 [.t 4] 9 := ⟨Tryz.func74, by kernel_rfl, by kernel_rfl, by kernel_rfl, Tryz.ntmps74⟩
/-! typecase/typecaseref26.In -/
def c55_0 : AC :=
 (.seq (.reg [oo 4 (.mov (nB false))])
 .ret)
def c55_1 : AC :=
 (.seq (.seq (.reg [oo 6 (.mov (.s 5)),
 oo 7 (.mov (.s 0)),
 oo 8 (.len (.s 7)),
 oo 9 (.bin .lss (.s 6) (.s 8))])
 (.cond (.s 9)
 .skip
 (.exit 0)))
 (.seq (.block 1
 (.seq (.reg [oo 12 (.mov (.s 0)),
 oo 13 (.mov (.s 5)),
 oo 14 (.idxA 1 (.s 12) (.s 13)),
 oo 15 (.load false 1 (.s 14)),
 oo 16 (.mov (.s 1)),
 oo 17 (.bin .eql (.s 15) (.s 16))])
 (.cond (.s 17)
 (.seq (.reg [oo 4 (.mov (nB true))])
 .ret)
 .skip)))
 (.reg [oo 10 (.mov (.s 5)),
 oo 11 (.bin .add (.s 10) (nI 1)),
 oo 5 (.mov (.s 11))])))
def c55 : AC :=
 (.seq (.reg [oo 4 (.mov (nB false))])
 (.seq (.seq (.reg [oo 5 (.mov (nI 0))])
 (.block 0
 (.loop c55_1)))
 c55_0))
theorem k55 : OkF 55 Tryz.f55 c55 [.t 4] 18 := ⟨Tryz.func55, by kernel_rfl, by kernel_rfl, by kernel_rfl, Tryz.ntmps55⟩
/-! typecase/typecaseref22.info -/
def c87 : AC :=
 (.seq (.reg [oo 2 (.box (.s 0)),
 oo 4 (.box (.c (.agg [(pI 0), (pI 0), (pI 0), .empty])))])
 (.seq (.seq (.reg [oo 5 (.mov (.s 1)),
 oo 6 (.bin .lss (.s 5) (nI 0)),
 oo 7 (.mov (.s 6)),
 og 8 7 false (.mov (.s 1)),
 og 9 7 false (.fldA 1 (.s 2)),
 og 10 7 false (.load false 1 (.s 9)),
 og 11 7 false (.len (.s 10)),
 og 12 7 false (.bin .geq (.s 8) (.s 11)),
 oo 13 (.pick (.s 7) (nB true) (.s 12))])
 (.cond (.s 13)
 (.seq (.reg [oo 14 (.build [(pI 0), (pI 0), (pI 0), .empty] []),
⟨none, none, .store 4 (.s 4) (.s 14)⟩])
 .ret)
 .skip))
 (.seq (.reg [oo 15 (.fldA 1 (.s 2)),
 oo 16 (.load false 1 (.s 15)),
 oo 17 (.mov (.s 1)),
 oo 18 (.idxA 4 (.s 16) (.s 17)),
 oo 19 (.load true 4 (.s 18)),
⟨none, none, .store 4 (.s 4) (.s 19)⟩])
 .ret)))
theorem k87 : OkF 87 Tryz.f87 c87 [.c 4 true 4] 20 := ⟨Tryz.func87, by kernel_rfl, by kernel_rfl, by kernel_rfl, Tryz.ntmps87⟩
/-! typecase/typecaseref22.Kind -/
def c54 : AC :=
 (.seq (.reg [oo 2 (.box (.s 0)),
 oo 4 (.mov (nI 0))])
 (.seq (.reg [oo 5 (.load true 6 (.s 2)),
 oo 6 (.mov (.s 1)),
 oo 7 (.call 87 [(.s 5), (.s 6)]),
 oo 8 (.fld false 1 1 (.s 7)),
 oo 4 (.mov (.s 8))])
 .ret))
theorem k54 : OkF 54 Tryz.f54 c54 [.t 4] 9 := ⟨Tryz.func54, by kernel_rfl, by kernel_rfl, by kernel_rfl, Tryz.ntmps54⟩
/-! typecase/typecaseref22.Attach -/
def c57 : AC :=
 (.seq (.reg [oo 2 (.box (.s 0)),
 oo 4 (.mov (nI 0))])
 (.seq (.reg [oo 5 (.load true 6 (.s 2)),
 oo 6 (.mov (.s 1)),
 oo 7 (.call 87 [(.s 5), (.s 6)]),
 oo 8 (.fld false 2 1 (.s 7)),
 oo 4 (.mov (.s 8))])
 .ret))
theorem k57 : OkF 57 Tryz.f57 c57 [.t 4] 9 := ⟨Tryz.func57, by kernel_rfl, by kernel_rfl, by kernel_rfl, Tryz.ntmps57⟩
/-! typecase/typecaseref26.set -/
def c56 : AC :=
 (.seq (.reg [oo 2 (.box (.s 0)),
 oo 3 (.box (.s 1)),
 oo 4 (.mov (.c .empty))])
 (.seq (.seq (.reg [oo 5 (.fldA 2 (.s 3)),
 oo 6 (.load false 1 (.s 5)),
 oo 7 (.bin .lss (.s 6) (nI 0)),
 oo 8 (.mov (.s 7)),
 og 9 8 false (.fldA 2 (.s 3)),
 og 10 8 false (.load false 1 (.s 9)),
 og 11 8 false (.fldA 5 (.s 2)),
 og 12 8 false (.load false 1 (.s 11)),
 og 13 8 false (.len (.s 12)),
 og 14 8 false (.bin .geq (.s 10) (.s 13)),
 oo 15 (.pick (.s 8) (nB true) (.s 14))])
 (.cond (.s 15)
 (.seq (.reg [oo 4 (.mov (.c .empty))])
 .ret)
 .skip))
 (.seq (.reg [oo 16 (.fldA 5 (.s 2)),
 oo 17 (.load false 1 (.s 16)),
 oo 18 (.fldA 2 (.s 3)),
 oo 19 (.load false 1 (.s 18)),
 oo 20 (.idxA 1 (.s 17) (.s 19)),
 oo 21 (.load false 1 (.s 20)),
 oo 4 (.mov (.s 21))])
 .ret)))
theorem k56 : OkF 56 Tryz.f56 c56 [.t 4] 22 := ⟨Tryz.func56, by kernel_rfl, by kernel_rfl, by kernel_rfl, Tryz.ntmps56⟩
/-! typecase/skip.marks -/
def c47 : AC :=
 (.seq (.reg [oo 4 (.box (.s 0)),
 oo 5 (.box (.s 1)),
 oo 8 (.mov (nB false))])
 (.seq (.seq (.reg [oo 11 (.mov (.s 2)),
 oo 12 (.bin .and (.s 11) (nI 8)),
 oo 13 (.bin .neq (.s 12) (nI 0))])
 (.cond (.s 13)
 (.seq (.reg [oo 8 (.mov (nB true))])
 .ret)
 .skip))
 (.seq (.seq (.reg [oo 14 (.mov (.s 2)),
 oo 15 (.bin .and (.s 14) (nI 16)),
 oo 16 (.bin .neq (.s 15) (nI 0))])
 (.cond (.s 16)
 (.seq (.reg [oo 17 (.fldA 2 (.s 5)),
 oo 18 (.load false 1 (.s 17)),
 oo 19 (.bin .geq (.s 18) (nI 0)),
 oo 20 (.mov (.s 19)),
 og 21 20 true (.fldA 2 (.s 5)),
 og 22 20 true (.load false 1 (.s 21)),
 og 23 20 true (.fldA 5 (.s 4)),
 og 24 20 true (.load false 1 (.s 23)),
 og 25 20 true (.len (.s 24)),
 og 26 20 true (.bin .lss (.s 22) (.s 25)),
 oo 27 (.pick (.s 20) (.s 26) (nB false)),
 oo 28 (.mov (.s 27)),
 og 29 28 true (.fldA 5 (.s 4)),
 og 30 28 true (.load false 1 (.s 29)),
 og 31 28 true (.fldA 2 (.s 5)),
 og 32 28 true (.load false 1 (.s 31)),
 og 33 28 true (.idxA 1 (.s 30) (.s 32)),
 og 34 28 true (.load false 1 (.s 33)),
 og 35 28 true (.mov (.s 3)),
 og 36 28 true (.call 73 [(.s 34), (.s 35)]),
 oo 37 (.pick (.s 28) (.s 36) (nB false)),
 oo 9 (.mov (.s 37))])
 (.seq (.reg [oo 38 (.mov (.s 9)),
 oo 39 (.un .not (.s 38))])
 (.cond (.s 39)
 (.seq (.reg [oo 8 (.mov (nB true))])
 .ret)
 .skip)))
 .skip))
 (.seq (.reg [oo 40 (.mov (.s 2)),
 oo 41 (.bin .quo (.s 40) (nI 256)),
 oo 10 (.mov (.s 41))])
 (.seq (.reg [oo 42 (.mov (.s 10)),
 oo 43 (.bin .neq (.s 42) (nI 0)),
 oo 44 (.mov (.s 43)),
 og 45 44 true (.mov (.s 10)),
 og 46 44 true (.load true 6 (.s 4)),
 og 47 44 true (.mov (.s 3)),
 og 48 44 true (.call 74 [(.s 46), (.s 47)]),
 og 49 44 true (.bin .neq (.s 45) (.s 48)),
 oo 50 (.pick (.s 44) (.s 49) (nB false)),
 oo 8 (.mov (.s 50))])
 .ret)))))
theorem k47 : OkF 47 Tryz.f47 c47 [.t 8] 51 := ⟨Tryz.func47, by kernel_rfl, by kernel_rfl, by kernel_rfl, Tryz.ntmps47⟩
/-! typecase/skip.Skips -/
def c31 : AC :=
 (.seq (.reg [oo 3 (.box (.s 0)),
 oo 4 (.box (.s 1)),
 oo 6 (.mov (nB false))])
 (.seq (.reg [oo 8 (.fldA 1 (.s 4)),
 oo 9 (.load false 1 (.s 8)),
 oo 10 (.mx (.s 9) (nI 0)),
 oo 7 (.mov (.s 10))])
 (.seq (.seq (.reg [oo 11 (.load true 6 (.s 3)),
 oo 12 (.mov (.s 2)),
 oo 13 (.call 46 [(.s 11), (.s 12)])])
 (.block 0
 (.seq (.reg [oo 15 (.bin .eql (.s 13) (nI 1)),
 oo 14 (.mov (.s 15))])
 (.cond (.s 14)
 (.seq (.reg [oo 16 (.mov (.s 7)),
 oo 17 (.bin .and (.s 16) (nI 2)),
 oo 18 (.bin .neq (.s 17) (nI 0)),
 oo 6 (.mov (.s 18))])
 .ret)
 (.seq (.reg [oo 20 (.bin .eql (.s 13) (nI 2)),
 oo 19 (.mov (.s 20))])
 (.cond (.s 19)
 (.seq (.reg [oo 21 (.mov (.s 7)),
 oo 22 (.bin .and (.s 21) (nI 4)),
 oo 23 (.bin .neq (.s 22) (nI 0)),
 oo 6 (.mov (.s 23))])
 .ret)
 (.seq (.reg [oo 25 (.bin .eql (.s 13) (nI 3)),
 oo 24 (.mov (.s 25))])
 (.cond (.s 24)
 (.seq (.reg [oo 26 (.load true 6 (.s 3)),
 oo 27 (.load true 4 (.s 4)),
 oo 28 (.mov (.s 7)),
 oo 29 (.mov (.s 2)),
 oo 30 (.call 47 [(.s 26), (.s 27), (.s 28), (.s 29)]),
 oo 6 (.mov (.s 30))])
 .ret)
 .skip))))))))
 (.seq (.reg [oo 6 (.mov (nB false))])
 .ret))))
theorem k31 : OkF 31 Tryz.f31 c31 [.t 6] 31 := ⟨Tryz.func31, by kernel_rfl, by kernel_rfl, by kernel_rfl, Tryz.ntmps31⟩
/-! typecase/typecaseref26.Skips -/
def c34 : AC :=
 (.seq (.reg [oo 3 (.box (.s 0)),
 oo 4 (.box (.s 1)),
 oo 6 (.mov (nB false))])
 (.seq (.reg [oo 8 (.fldA 1 (.s 4)),
 oo 9 (.load false 1 (.s 8)),
 oo 10 (.mx (nI 0) (.s 9)),
 oo 7 (.mov (.s 10))])
 (.seq (.seq (.reg [oo 11 (.load true 6 (.s 3)),
 oo 12 (.mov (.s 2)),
 oo 13 (.call 54 [(.s 11), (.s 12)])])
 (.block 0
 (.seq (.reg [oo 15 (.bin .eql (.s 13) (nI 1)),
 oo 14 (.mov (.s 15))])
 (.cond (.s 14)
 (.seq (.reg [oo 16 (.mov (.s 7)),
 oo 17 (.bin .and (.s 16) (nI 2)),
 oo 18 (.bin .neq (.s 17) (nI 0)),
 oo 6 (.mov (.s 18))])
 .ret)
 (.seq (.reg [oo 20 (.bin .eql (.s 13) (nI 2)),
 oo 19 (.mov (.s 20))])
 (.cond (.s 19)
 (.seq (.reg [oo 21 (.mov (.s 7)),
 oo 22 (.bin .and (.s 21) (nI 4)),
 oo 23 (.bin .neq (.s 22) (nI 0)),
 oo 6 (.mov (.s 23))])
 .ret)
 (.seq (.reg [oo 25 (.bin .eql (.s 13) (nI 3)),
 oo 24 (.mov (.s 25))])
 (.cond (.s 24)
 (.seq (.seq (.reg [oo 26 (.mov (.s 7)),
 oo 27 (.bin .and (.s 26) (nI 8)),
 oo 28 (.bin .neq (.s 27) (nI 0)),
 oo 29 (.mov (.s 28)),
 og 30 29 false (.mov (.s 7)),
 og 31 29 false (.bin .and (.s 30) (nI 16)),
 og 32 29 false (.bin .neq (.s 31) (nI 0)),
 og 33 29 false (.mov (.s 32)),
 og 34 33 true (.load true 6 (.s 3)),
 og 35 33 true (.load true 4 (.s 4)),
 og 36 33 true (.call 56 [(.s 34), (.s 35)]),
 og 37 33 true (.mov (.s 2)),
 og 38 33 true (.call 55 [(.s 36), (.s 37)]),
 og 39 33 true (.un .not (.s 38)),
 og 40 29 false (.pick (.s 33) (.s 39) (nB false)),
 oo 41 (.pick (.s 29) (nB true) (.s 40))])
 (.cond (.s 41)
 (.seq (.reg [oo 6 (.mov (nB true))])
 .ret)
 .skip))
 (.seq (.reg [oo 42 (.mov (.s 7)),
 oo 43 (.bin .quo (.s 42) (nI 256)),
 oo 44 (.bin .neq (.s 43) (nI 0)),
 oo 45 (.mov (.s 44)),
 og 46 45 true (.load true 6 (.s 3)),
 og 47 45 true (.mov (.s 2)),
 og 48 45 true (.call 57 [(.s 46), (.s 47)]),
 og 49 45 true (.mov (.s 7)),
 og 50 45 true (.bin .quo (.s 49) (nI 256)),
 og 51 45 true (.bin .neq (.s 48) (.s 50)),
 oo 52 (.pick (.s 45) (.s 51) (nB false)),
 oo 6 (.mov (.s 52))])
 .ret))
 .skip))))))))
 (.seq (.reg [oo 6 (.mov (nB false))])
 .ret))))
theorem k34 : OkF 34 Tryz.f34 c34 [.t 6] 53 := ⟨Tryz.func34, by kernel_rfl, by kernel_rfl, by kernel_rfl, Tryz.ntmps34⟩
/-- what a font tells of a glyph -/
structure Inf where
 adv : Int
 kind : Int
 att : Int
 car : V
abbrev inf (x : Inf) : V := .agg [I x.adv, I x.kind, I x.att, x.car]
/-- a font: what is not looked at stays as it is -/
structure Fo where
 em : V
 gs : List Inf
 maps : V
 lks : V
 feats : V
 sets : List (List Int)
abbrev fo (f : Fo) : V := .agg [f.em, .sl (f.gs.map inf), f.maps, f.lks, f.feats, LL f.sets]
/-- a lookup, of whose subtables nothing is said -/
abbrev lkV (a b c : Int) (s : V) : V := .agg [I a, I b, I c, s]
/-- where a number stands in a list -/
def idxF (x : Int) : Int → List Int → Int
 | _, [] => -1
 | k, y :: r => if x = y then k else idxF x (k + 1) r
theorem idxF_mem {x : Int} : ∀ {l : List Int} {k : Int}, 0 ≤ k → (0 ≤ idxF x k l ↔ x ∈ l)
 | [], k, _ => by simp [idxF]
 | y :: r, k, h => by
  rw [idxF]
  by_cases hc : x = y
  ·simp [hc, h]
  ·rw [if_neg hc, idxF_mem (by omega)]
   simp [hc]
theorem index_q (l : List Int) (x : Int) : FnQ Tryz.prog 101 [LI l, I x] [I (idxF x 0 l)] := by
 refine k101.q (by simp) ?_
 unfold c101
 simp only [*, vmp,↓vmd,seval]
 refine onIf_intro fun hlen => ?_
 simp only [*, vmp,↓vmd,seval]
 refine loop_at (T := Nat) (fun k => [(8, .pure (I k)), (7, .pure (I l.length)), (0, .pure (LI l)), (1, .pure (I x))]) (fun _ => []) (fun k => k ≤ l.length ∧ idxF x k (l.drop k) = idxF x 0 l) (fun k => l.length - k)
  0 [] (by simp) rfl ⟨by simp, by simp⟩ (by simp only [kpp,seval]) (by simp only [kpp,seval]) ?_
 rintro k ⟨hk, hr⟩
 unfold c101_1
 simp only [vmp,↓vmd,seval]
 refine onB_dec (fun h1 => ?_) (fun h1 => ?_)
 ·have hlt : k < l.length := by omega
  rw [drop_at hlt, idxF] at hr
  simp only [h1, map_at hlt, Int.natCast_nonneg, vmp,↓vmd,seval]
  refine onB_dec (fun h2 => ?_) (fun h2 => ?_)
  ·rw [if_pos h2] at hr
   simp only [h2, vmp,↓vmd,seval]
   rw [← h2, ← hr]
   exact gives_pure
  ·simp only [h2, vmp,↓vmd,seval]
   refine onBk_to (k + 1) [] (by simp) rfl (by omega) ⟨hlt, by rw [← hr, if_neg h2]; rfl⟩ (by simp only [next_at hlt hlen, kpp,seval]) (by simp only [kpp,seval])
 ·simp only [h1, vmp,↓vmd,seval]
  unfold c101_0
  simp only [vmp,↓vmd,seval]
  rw [← hr, List.drop_of_length_le (by omega)]
  exact gives_pure
theorem contains_q (l : List Int) (x : Int) : FnQ Tryz.prog 73 [LI l, I x] [.bool (decide (x ∈ l))] := by
 refine k73.q (by simp) ?_
 unfold c73
 simp only [*, vmp,↓vmd,seval]
 refine onC_q (index_q l x) rfl ?_
 simp only [*, vmp,↓vmd,seval]
 rw [show decide (0 ≤ idxF x 0 l) = decide (x ∈ l) by rw [decide_eq_decide]; exact idxF_mem (Int.le_refl 0)]
 exact gives_pure
theorem in_q (l : List Int) (x : Int) : FnQ Tryz.prog 55 [LI l, I x] [.bool (decide (x ∈ l))] := by
 refine k55.q (by simp) ?_
 unfold c55
 simp only [*, vmp,↓vmd,seval]
 refine loop_at (T := Nat) (fun k => [(5, .pure (I k)), (0, .pure (LI l)), (1, .pure (I x))]) (fun _ => []) (fun k => k ≤ l.length ∧ (x ∈ l.drop k ↔ x ∈ l)) (fun k => l.length - k)
  0 [] (by simp) rfl ⟨by simp, by simp⟩ (by simp only [kpp,seval]) (by simp only [kpp,seval]) ?_
 rintro k ⟨hk, hr⟩
 unfold c55_1
 simp only [vmp,↓vmd,seval]
 refine onIf_intro fun _ => ?_
 simp only [vmp,↓vmd,seval]
 refine onB_dec (fun h1 => ?_) (fun h1 => ?_)
 ·have hlt : k < l.length := by omega
  rw [drop_at hlt] at hr
  simp only [h1, map_at hlt, Int.natCast_nonneg, vmp,↓vmd,seval]
  refine onB_dec (fun h2 => ?_) (fun h2 => ?_)
  ·simp only [h2, vmp,↓vmd,seval]
   rw [show decide (x ∈ l) = true by rw [decide_eq_true_eq, ← hr, h2]; exact List.mem_cons_self]
   exact gives_pure
  ·simp only [h2, vmp,↓vmd,seval]
   refine onBk_to (k + 1) [] (by simp) rfl (by omega) ⟨hlt, by rw [← hr, List.mem_cons]; exact ⟨.inr, fun h => h.resolve_left fun e => h2 e.symm⟩⟩ (by simp only [next_at hlt (by omega), kpp,seval]) (by simp only [kpp,seval])
 ·simp only [h1, vmp,↓vmd,seval]
  unfold c55_0
  simp only [vmp,↓vmd,seval]
  rw [List.drop_of_length_le (by omega)] at hr
  rw [show decide (x ∈ l) = false by rw [decide_eq_false_iff_not, ← hr]; simp]
  exact gives_pure
def infoF (f : Fo) (g : Int) : Inf := if g < 0 ∨ (f.gs.length : Int) ≤ g then ⟨0, 0, 0, .sl []⟩ else f.gs.getD g.toNat ⟨0, 0, 0, .sl []⟩
theorem info_at {f : Fo} {g : Int} (h1 : ¬ g < 0) (h2 : ¬ (f.gs.length : Int) ≤ g) : (f.gs.map inf)[g.toNat]? = some (inf (infoF f g)) := by
 rw [infoF, if_neg (by omega), List.getD_eq_getElem?_getD, List.getElem?_map, List.getElem?_eq_getElem (by omega)]
 rfl
theorem info_q (f : Fo) (g : Int) : FnQ Tryz.prog 72 [fo f, I g] [inf (infoF f g)] := by
 refine k72.q (by simp) ?_
 unfold c72
 simp only [*, vmp,↓vmd,seval]
 refine onB_dec (fun h1 => ?_) (fun h1 => ?_)
 ·simp only [*, vmp,↓vmd,seval]
  rw [infoF, if_pos (.inl h1)]
  exact gives_one rfl
 simp only [*, vmp,↓vmd,seval]
 refine onIf_intro fun _ => ?_
 simp only [*, vmp,↓vmd,seval]
 refine onB_dec (fun h2 => ?_) (fun h2 => ?_)
 ·simp only [*, vmp,↓vmd,seval]
  rw [infoF, if_pos (.inr h2)]
  exact gives_one rfl
 simp only [info_at h1 h2, show 0 ≤ g by omega, *, vmp,↓vmd,seval]
 exact gives_one rfl
theorem rinfo_q (f : Fo) (g : Int) : FnQ Tryz.prog 87 [fo f, I g] [inf (infoF f g)] := by
 refine k87.q (by simp) ?_
 unfold c87
 simp only [*, vmp,↓vmd,seval]
 refine onB_dec (fun h1 => ?_) (fun h1 => ?_)
 ·simp only [*, vmp,↓vmd,seval]
  rw [infoF, if_pos (.inl h1)]
  exact gives_one rfl
 simp only [*, vmp,↓vmd,seval]
 refine onIf_intro fun _ => ?_
 simp only [*, vmp,↓vmd,seval]
 refine onB_dec (fun h2 => ?_) (fun h2 => ?_)
 ·simp only [*, vmp,↓vmd,seval]
  rw [infoF, if_pos (.inr h2)]
  exact gives_one rfl
 simp only [info_at h1 h2, show 0 ≤ g by omega, *, vmp,↓vmd,seval]
 exact gives_one rfl
theorem kind_q (f : Fo) (g : Int) : FnQ Tryz.prog 46 [fo f, I g] [I (infoF f g).kind] := by
 refine k46.q (by simp) ?_
 unfold c46
 simp only [*, vmp,↓vmd,seval]
 refine onC_q (info_q f g) rfl ?_
 simp only [*, vmp,↓vmd,seval]
 exact gives_pure
theorem attach_q (f : Fo) (g : Int) : FnQ Tryz.prog 74 [fo f, I g] [I (infoF f g).att] := by
 refine k74.q (by simp) ?_
 unfold c74
 simp only [*, vmp,↓vmd,seval]
 refine onC_q (info_q f g) rfl ?_
 simp only [*, vmp,↓vmd,seval]
 exact gives_pure
theorem rkind_q (f : Fo) (g : Int) : FnQ Tryz.prog 54 [fo f, I g] [I (infoF f g).kind] := by
 refine k54.q (by simp) ?_
 unfold c54
 simp only [*, vmp,↓vmd,seval]
 refine onC_q (rinfo_q f g) rfl ?_
 simp only [*, vmp,↓vmd,seval]
 exact gives_pure
theorem rattach_q (f : Fo) (g : Int) : FnQ Tryz.prog 57 [fo f, I g] [I (infoF f g).att] := by
 refine k57.q (by simp) ?_
 unfold c57
 simp only [*, vmp,↓vmd,seval]
 refine onC_q (rinfo_q f g) rfl ?_
 simp only [*, vmp,↓vmd,seval]
 exact gives_pure
def setF (f : Fo) (n : Int) : List Int := if n < 0 ∨ (f.sets.length : Int) ≤ n then [] else f.sets.getD n.toNat []
theorem set_at {f : Fo} {n : Int} (h1 : ¬ n < 0) (h2 : ¬ (f.sets.length : Int) ≤ n) : (f.sets.map LI)[n.toNat]? = some (LI (setF f n)) := by
 rw [setF, if_neg (by omega), List.getD_eq_getElem?_getD, List.getElem?_map, List.getElem?_eq_getElem (by omega)]
 rfl
theorem rset_q (f : Fo) (a b n : Int) (s : V) : FnQ Tryz.prog 56 [fo f, lkV a b n s] [LI (setF f n)] := by
 refine k56.q (by simp) ?_
 unfold c56
 simp only [*, vmp,↓vmd,seval]
 refine onB_dec (fun h1 => ?_) (fun h1 => ?_)
 ·simp only [*, vmp,↓vmd,seval]
  rw [setF, if_pos (.inl h1)]
  exact gives_empty
 simp only [*, vmp,↓vmd,seval]
 refine onIf_intro fun _ => ?_
 simp only [*, vmp,↓vmd,seval]
 refine onB_dec (fun h2 => ?_) (fun h2 => ?_)
 ·simp only [*, vmp,↓vmd,seval]
  rw [setF, if_pos (.inr h2)]
  exact gives_empty
 simp only [set_at h1 h2, show 0 ≤ n by omega, *, vmp,↓vmd,seval]
 exact gives_pure
/-- the bits that two numbers share -/
abbrev andE (a b : Int) : Int := IntKind.wrap .i64 ((BitVec.ofInt (IntKind.bits .i64) a &&& BitVec.ofInt (IntKind.bits .i64) b).toNat : Int)
abbrev clsE (a : Int) : Int := IntKind.wrap .i64 (a.tdiv 256)
def marksF (f : Fo) (n fl g : Int) : Bool :=
 if andE fl 8 ≠ 0 then true else if andE fl 16 ≠ 0 ∧ g ∉ setF f n then true else decide (clsE fl ≠ 0) && decide (clsE fl ≠ (infoF f g).att)
theorem marks_q (f : Fo) (a b n fl g : Int) (s : V) : FnQ Tryz.prog 47 [fo f, lkV a b n s, I fl, I g] [.bool (marksF f n fl g)] := by
 refine k47.q (by simp) ?_
 unfold c47
 simp only [*, vmp,↓vmd,seval]
 by_cases h8 : andE fl 8 = 0
 ·simp only [h8, vmp,↓vmd,seval]
  -- the end of the function, behind the question of the set
  by_cases h16 : andE fl 16 = 0
  ·have tail : marksF f n fl g = (decide (clsE fl ≠ 0) && decide (clsE fl ≠ (infoF f g).att)) := by simp [marksF, h8, h16]
   rw [tail]
   by_cases hc : clsE fl = 0
   ·simp only [h16, hc, vmp,↓vmd,seval]
    exact gives_pure
   ·simp only [h16, hc, vmp,↓vmd,seval]
    refine onC_q (attach_q f g) rfl ?_
    simp only [h16, hc, vmp,↓vmd,seval]
    exact gives_pure
  ·simp only [h16, vmp,↓vmd,seval]
   have yes : g ∉ setF f n → marksF f n fl g = true := fun h => by simp [marksF, h8, h16, h]
   have tail : g ∈ setF f n → marksF f n fl g = (decide (clsE fl ≠ 0) && decide (clsE fl ≠ (infoF f g).att)) := fun h => by simp [marksF, h8, h]
   refine onB_dec (fun h1 => ?_) (fun h1 => ?_)
   ·simp only [h1, vmp,↓vmd,seval]
    refine onIf_intro fun _ => ?_
    simp only [h1, vmp,↓vmd,seval]
    refine onB_dec (fun h2 => ?_) (fun h2 => ?_)
    ·simp only [h2, h1, set_at (f := f) (n := n) (by omega) (by omega), vmp,↓vmd,seval]
     refine onC_q (contains_q _ _) rfl ?_
     by_cases hm : g ∈ setF f n
     ·rw [tail hm]
      by_cases hc : clsE fl = 0
      ·simp only [hm, hc, h1, h2, vmp,↓vmd,seval]
       exact gives_pure
      ·simp only [hm, hc, h1, h2, vmp,↓vmd,seval]
       refine onC_q (attach_q f g) rfl ?_
       simp only [hc, vmp,↓vmd,seval]
       exact gives_pure
     ·rw [yes hm]
      simp only [hm, h1, h2, vmp,↓vmd,seval]
      exact gives_pure
    ·rw [yes (by rw [setF, if_pos (.inr (by omega))]; simp)]
     simp only [h2, vmp,↓vmd,seval]
     exact gives_pure
   ·rw [yes (by rw [setF, if_pos (.inl (by omega))]; simp)]
    simp only [h1, vmp,↓vmd,seval]
    exact gives_pure
 ·simp only [h8, vmp,↓vmd,seval]
  rw [show marksF f n fl g = true by simp [marksF, h8]]
  exact gives_pure
def skipsF (f : Fo) (b n g : Int) : Bool :=
 if (infoF f g).kind = 1 then decide (andE (max b 0) 2 ≠ 0) else if (infoF f g).kind = 2 then decide (andE (max b 0) 4 ≠ 0) else if (infoF f g).kind = 3 then marksF f n (max b 0) g else false
theorem skips_q (f : Fo) (a b n g : Int) (s : V) : FnQ Tryz.prog 31 [fo f, lkV a b n s, I g] [.bool (skipsF f b n g)] := by
 refine k31.q (by simp) ?_
 unfold c31
 simp only [*, vmp,↓vmd,seval]
 refine onC_q (kind_q f g) rfl ?_
 by_cases h1 : (infoF f g).kind = 1
 ·rw [show skipsF f b n g = decide (andE (max b 0) 2 ≠ 0) by simp [skipsF, h1]]
  simp only [h1, vmp,↓vmd,seval]
  exact gives_pure
 by_cases h2 : (infoF f g).kind = 2
 ·rw [show skipsF f b n g = decide (andE (max b 0) 4 ≠ 0) by simp [skipsF, h2]]
  simp only [h2, vmp,↓vmd,seval]
  exact gives_pure
 by_cases h3 : (infoF f g).kind = 3
 ·rw [show skipsF f b n g = marksF f n (max b 0) g by simp [skipsF, h3]]
  simp only [h3, vmp,↓vmd,seval]
  refine onC_q (marks_q f a b n _ g s) rfl ?_
  simp only [vmp,↓vmd,seval]
  exact gives_pure
 ·rw [show skipsF f b n g = false by simp [skipsF, h1, h2, h3]]
  simp only [h1, h2, h3, vmp,↓vmd,seval]
  exact gives_pure
theorem rskips_q (f : Fo) (a b n g : Int) (s : V) : FnQ Tryz.prog 34 [fo f, lkV a b n s, I g] [.bool (skipsF f b n g)] := by
 refine k34.q (by simp) ?_
 unfold c34
 simp only [Int.max_comm 0 b, *, vmp,↓vmd,seval]
 refine onC_q (rkind_q f g) rfl ?_
 by_cases h1 : (infoF f g).kind = 1
 ·rw [show skipsF f b n g = decide (andE (max b 0) 2 ≠ 0) by simp [skipsF, h1]]
  simp only [h1, vmp,↓vmd,seval]
  exact gives_pure
 by_cases h2 : (infoF f g).kind = 2
 ·rw [show skipsF f b n g = decide (andE (max b 0) 4 ≠ 0) by simp [skipsF, h2]]
  simp only [h2, vmp,↓vmd,seval]
  exact gives_pure
 by_cases h3 : (infoF f g).kind = 3
 ·rw [show skipsF f b n g = marksF f n (max b 0) g by simp [skipsF, h3]]
  generalize max b 0 = fl
  simp only [h3, vmp,↓vmd,seval]
  by_cases h8 : andE fl 8 = 0
  ·by_cases h16 : andE fl 16 = 0
   ·have tail : marksF f n fl g = (decide (clsE fl ≠ 0) && decide (clsE fl ≠ (infoF f g).att)) := by simp [marksF, h8, h16]
    rw [tail]
    by_cases hc : clsE fl = 0
    ·simp only [h8, h16, hc, vmp,↓vmd,seval]
     exact gives_pure
    ·simp only [h8, h16, hc, vmp,↓vmd,seval]
     refine onC_q (rattach_q f g) rfl ?_
     rw [show decide (clsE fl ≠ (infoF f g).att) = decide ((infoF f g).att ≠ clsE fl) by rw [decide_eq_decide]; exact ne_comm]
     simp only [h8, h16, hc, vmp,↓vmd,seval]
     exact gives_pure
   ·simp only [h8, h16, vmp,↓vmd,seval]
    refine onC_q (rset_q f a b n s) rfl ?_
    simp only [h8, h16, vmp,↓vmd,seval]
    refine onC_q (in_q _ _) rfl ?_
    by_cases hm : g ∈ setF f n
    ·have tail : marksF f n fl g = (decide (clsE fl ≠ 0) && decide (clsE fl ≠ (infoF f g).att)) := by simp [marksF, h8, hm]
     rw [tail]
     by_cases hc : clsE fl = 0
     ·simp only [h8, h16, hm, hc, vmp,↓vmd,seval]
      exact gives_pure
     ·simp only [h8, h16, hm, hc, vmp,↓vmd,seval]
      refine onC_q (rattach_q f g) rfl ?_
      rw [show decide (clsE fl ≠ (infoF f g).att) = decide ((infoF f g).att ≠ clsE fl) by rw [decide_eq_decide]; exact ne_comm]
      simp only [hc, vmp,↓vmd,seval]
      exact gives_pure
    ·rw [show marksF f n fl g = true by simp [marksF, h8, h16, hm]]
     simp only [hm, h8, h16, vmp,↓vmd,seval]
     exact gives_pure
  ·rw [show marksF f n fl g = true by simp [marksF, h8]]
   simp only [h8, vmp,↓vmd,seval]
   exact gives_pure
 ·rw [show skipsF f b n g = false by simp [skipsF, h1, h2, h3]]
  simp only [h1, h2, h3, vmp,↓vmd,seval]
  exact gives_pure
end Go.Proofs.YtcjmkpkhjhjepaaGreat.W
