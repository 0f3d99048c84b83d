/-
  Spans: the values that they stand for, the spans of values, laying and taking: what each function does. No condition.
-/
import Derived.Test.YtalhohfhjniapaaLay
namespace Go.Proofs.Ytalhohfhjniapaa.W
open Go Go.Vm Go.Proofs
set_option maxRecDepth 100000
set_option linter.unusedSimpArgs false
/-! typecase/typecaselaw05.many -/
def c6 : AC :=
 (.seq (.reg [oo 2 (.mov (nB false))])
 (.seq (.reg [oo 3 (.mov (.s 0)),
 oo 4 (.len (.s 3)),
 oo 5 (.bin .gtr (.s 4) (nI 20)),
 oo 2 (.mov (.s 5))])
 .ret))
theorem k6 : OkF 6 Try.f6 c6 [.t 2] 6 := ⟨Try.func6, by kernel_rfl, by kernel_rfl, by kernel_rfl, Try.ntmps6⟩
/-! typecase/typecaseref05.Vals -/
def c19_0 : AC :=
 (.seq (.reg [oo 45 (.mov (.s 5)),
 oo 4 (.mov (.s 45))])
 .ret)
def c19_1 : AC :=
 (.reg [oo 12 (.mov (.s 6)),
 oo 13 (.bin .add (.s 12) (nI 1)),
 oo 6 (.mov (.s 13))])
def c19_2 : AC :=
 (.reg [oo 41 (.mov (.s 5)),
 oo 42 (.mov (.s 7)),
 oo 43 (.bslice 1 [(.s 42)]),
 oo 44 (.app 1 8 (.s 41) (.s 43)),
 oo 5 (.mov (.s 44))])
def c19_3 : AC :=
 (.seq (.seq (.reg [oo 14 (.mov (.s 8)),
 oo 15 (.mov (.s 0)),
 oo 16 (.len (.s 15)),
 oo 17 (.bin .lss (.s 14) (.s 16))])
 (.cond (.s 17)
 .skip
 (.exit 2)))
 (.seq (.block 3
 (.seq (.reg [oo 20 (.mov (.s 0)),
 oo 21 (.mov (.s 8)),
 oo 22 (.idxA 3 (.s 20) (.s 21)),
 oo 23 (.fldA 0 (.s 22)),
 oo 24 (.load false 1 (.s 23)),
 oo 25 (.mov (.s 6)),
 oo 26 (.bin .leq (.s 24) (.s 25)),
 oo 27 (.mov (.s 26)),
 og 28 27 true (.mov (.s 6)),
 og 29 27 true (.mov (.s 0)),
 og 30 27 true (.mov (.s 8)),
 og 31 27 true (.idxA 3 (.s 29) (.s 30)),
 og 32 27 true (.fldA 1 (.s 31)),
 og 33 27 true (.load false 1 (.s 32)),
 og 34 27 true (.bin .lss (.s 28) (.s 33)),
 oo 35 (.pick (.s 27) (.s 34) (nB false))])
 (.cond (.s 35)
 (.reg [oo 36 (.mov (.s 0)),
 oo 37 (.mov (.s 8)),
 oo 38 (.idxA 3 (.s 36) (.s 37)),
 oo 39 (.fldA 2 (.s 38)),
 oo 40 (.load false 1 (.s 39)),
 oo 7 (.mov (.s 40))])
 .skip)))
 (.reg [oo 18 (.mov (.s 8)),
 oo 19 (.bin .add (.s 18) (nI 1)),
 oo 8 (.mov (.s 19))])))
def c19_4 : AC :=
 (.seq (.seq (.reg [oo 9 (.mov (.s 6)),
 oo 10 (.mov (.s 1)),
 oo 11 (.bin .lss (.s 9) (.s 10))])
 (.cond (.s 11)
 .skip
 (.exit 0)))
 (.seq (.block 1
 (.seq (.reg [oo 7 (.mov (nI 0))])
 (.seq (.seq (.reg [oo 8 (.mov (nI 0))])
 (.block 2
 (.loop c19_3)))
 c19_2)))
 c19_1))
def c19 : AC :=
 (.seq (.reg [oo 4 (.mov (.c .empty))])
 (.seq (.reg [oo 5 (.mov (.c .empty))])
 (.seq (.seq (.reg [oo 6 (.mov (nI 0))])
 (.block 0
 (.loop c19_4)))
 c19_0)))
/-! typecase/typecaseref05.Same -/
def c7_0 : AC :=
 (.seq (.reg [oo 4 (.mov (nB true))])
 .ret)
def c7_1 : AC :=
 (.seq (.seq (.reg [oo 11 (.mov (.s 5)),
 oo 12 (.mov (.s 0)),
 oo 13 (.len (.s 12)),
 oo 14 (.bin .lss (.s 11) (.s 13))])
 (.cond (.s 14)
 .skip
 (.exit 0)))
 (.seq (.block 1
 (.seq (.regq [oo 17 (.mov (.s 0)),
 oo 18 (.mov (.s 5)),
 oo 19 (.idxA 3 (.s 17) (.s 18)),
 oo 20 (.load true 3 (.s 19)),
 oo 21 (.mov (.s 1)),
 oo 22 (.mov (.s 5)),
 oo 23 (.idxA 3 (.s 21) (.s 22)),
 oo 24 (.load true 3 (.s 23))]
[oo 25 (.eqv true [.i, .i, .i] (.s 20) (.s 24))])
 (.cond (.s 25)
 (.seq (.reg [oo 4 (.mov (nB false))])
 .ret)
 .skip)))
 (.reg [oo 15 (.mov (.s 5)),
 oo 16 (.bin .add (.s 15) (nI 1)),
 oo 5 (.mov (.s 16))])))
def c7 : AC :=
 (.seq (.reg [oo 4 (.mov (nB false))])
 (.seq (.seq (.reg [oo 6 (.mov (.s 0)),
 oo 7 (.len (.s 6)),
 oo 8 (.mov (.s 1)),
 oo 9 (.len (.s 8)),
 oo 10 (.bin .neq (.s 7) (.s 9))])
 (.cond (.s 10)
 (.seq (.reg [oo 4 (.mov (nB false))])
 .ret)
 .skip))
 (.seq (.seq (.reg [oo 5 (.mov (nI 0))])
 (.block 0
 (.loop c7_1)))
 c7_0)))
theorem k7 : OkF 7 Try.f7 c7 [.t 4] 26 := ⟨Try.func7, by kernel_rfl, by kernel_rfl, by kernel_rfl, Try.ntmps7⟩
/-! typecase/typecaseref05.Of -/
def c18_0 : AC :=
 (.seq (.reg [oo 44 (.mov (.s 3)),
 oo 2 (.mov (.s 44))])
 .ret)
def c18_1 : AC :=
 (.seq (.seq (.reg [oo 5 (.mov (.s 4)),
 oo 6 (.mov (.s 0)),
 oo 7 (.len (.s 6)),
 oo 8 (.bin .lss (.s 5) (.s 7))])
 (.cond (.s 8)
 .skip
 (.exit 0)))
 (.seq (.block 1
 (.seq (.regq [oo 11 (.mov (.s 4)),
 oo 12 (.bin .gtr (.s 11) (nI 0)),
 oo 13 (.mov (.s 12)),
 og 14 13 true (.mov (.s 0)),
 og 15 13 true (.mov (.s 4)),
 og 16 13 true (.idxA 1 (.s 14) (.s 15)),
 og 17 13 true (.load false 1 (.s 16)),
 og 18 13 true (.mov (.s 0)),
 og 19 13 true (.mov (.s 4)),
 og 20 13 true (.bin .sub (.s 19) (nI 1)),
 og 21 13 true (.idxA 1 (.s 18) (.s 20)),
 og 22 13 true (.load false 1 (.s 21))]
[og 23 13 true (.bin .eql (.s 17) (.s 22)),
 oo 24 (.pick (.s 13) (.s 23) (nB false))])
 (.cond (.s 24)
 (.reg [oo 25 (.mov (.s 3)),
 oo 26 (.mov (.s 3)),
 oo 27 (.len (.s 26)),
 oo 28 (.bin .sub (.s 27) (nI 1)),
 oo 29 (.mov (.s 4)),
 oo 30 (.bin .add (.s 29) (nI 1)),
 oo 31 (.idxA 3 (.s 25) (.s 28)),
 oo 32 (.fldA 1 (.s 31)),
⟨none, none, .store 1 (.s 32) (.s 30)⟩])
 (.reg [oo 33 (.mov (.s 3)),
 oo 34 (.mov (.s 4)),
 oo 35 (.mov (.s 4)),
 oo 36 (.bin .add (.s 35) (nI 1)),
 oo 37 (.mov (.s 0)),
 oo 38 (.mov (.s 4)),
 oo 39 (.idxA 1 (.s 37) (.s 38)),
 oo 40 (.load false 1 (.s 39)),
 oo 41 (.build [(pI 0), (pI 0), (pI 0)] [(0, 1, (.s 34)), (1, 1, (.s 36)), (2, 1, (.s 40))]),
 oo 42 (.bslice 3 [(.s 41)]),
 oo 43 (.app 3 24 (.s 33) (.s 42)),
 oo 3 (.mov (.s 43))]))))
 (.reg [oo 9 (.mov (.s 4)),
 oo 10 (.bin .add (.s 9) (nI 1)),
 oo 4 (.mov (.s 10))])))
def c18 : AC :=
 (.seq (.reg [oo 2 (.mov (.c .empty))])
 (.seq (.reg [oo 3 (.mov (.c .empty))])
 (.seq (.seq (.reg [oo 4 (.mov (nI 0))])
 (.block 0
 (.loop c18_1)))
 c18_0)))
/-! typecase/typecaseref05.Norm -/
def c9 : AC :=
 (.seq (.reg [oo 4 (.mov (.c .empty))])
 (.seq (.reg [oo 5 (.mov (.s 0)),
 oo 6 (.mov (.s 1)),
 oo 7 (.call 19 [(.s 5), (.s 6)]),
 oo 8 (.call 18 [(.s 7)]),
 oo 4 (.mov (.s 8))])
 .ret))
/-! (*typecase/spans.roll).lay -/
def c17 : AC :=
 (.seq (.seq (.reg [oo 8 (.mov (.s 1)),
 oo 9 (.bin .lss (.s 8) (nI 1))])
 (.cond (.s 9)
 .ret
 .skip))
 (.seq (.reg [oo 6 (.mov (nI 0))])
 (.seq (.seq (.reg [oo 10 (.mov (.s 0)),
 oo 11 (.nilck (.s 10)),
 oo 12 (.fldA 0 (.s 11)),
 oo 13 (.load false 1 (.s 12)),
 oo 14 (.len (.s 13)),
 oo 7 (.mov (.s 14))])
 (.seq (.reg [oo 15 (.mov (.s 7)),
 oo 16 (.bin .gtr (.s 15) (nI 0))])
 (.cond (.s 16)
 (.seq (.seq (.reg [oo 17 (.mov (.s 0)),
 oo 18 (.nilck (.s 17)),
 oo 19 (.fldA 0 (.s 18)),
 oo 20 (.load false 1 (.s 19)),
 oo 21 (.mov (.s 7)),
 oo 22 (.bin .sub (.s 21) (nI 1)),
 oo 23 (.idxA 3 (.s 20) (.s 22)),
 oo 24 (.fldA 2 (.s 23)),
 oo 25 (.load false 1 (.s 24)),
 oo 26 (.mov (.s 2)),
 oo 27 (.bin .eql (.s 25) (.s 26))])
 (.cond (.s 27)
 (.seq (.reg [oo 28 (.mov (.s 0)),
 oo 29 (.nilck (.s 28)),
 oo 30 (.fldA 0 (.s 29)),
 oo 31 (.load false 1 (.s 30)),
 oo 32 (.mov (.s 7)),
 oo 33 (.bin .sub (.s 32) (nI 1)),
 oo 34 (.idxA 3 (.s 31) (.s 33)),
 oo 35 (.fldA 1 (.s 34)),
 oo 36 (.load false 1 (.s 35)),
 oo 37 (.mov (.s 1)),
 oo 38 (.bin .add (.s 36) (.s 37)),
 oo 39 (.idxA 3 (.s 31) (.s 33)),
 oo 40 (.fldA 1 (.s 39)),
⟨none, none, .store 1 (.s 40) (.s 38)⟩])
 .ret)
 .skip))
 (.reg [oo 41 (.mov (.s 0)),
 oo 42 (.nilck (.s 41)),
 oo 43 (.fldA 0 (.s 42)),
 oo 44 (.load false 1 (.s 43)),
 oo 45 (.mov (.s 7)),
 oo 46 (.bin .sub (.s 45) (nI 1)),
 oo 47 (.idxA 3 (.s 44) (.s 46)),
 oo 48 (.fldA 1 (.s 47)),
 oo 49 (.load false 1 (.s 48)),
 oo 6 (.mov (.s 49))]))
 .skip)))
 (.reg [oo 50 (.mov (.s 0)),
 oo 51 (.mov (.s 0)),
 oo 52 (.nilck (.s 51)),
 oo 53 (.fldA 0 (.s 52)),
 oo 54 (.load false 1 (.s 53)),
 oo 55 (.mov (.s 6)),
 oo 56 (.mov (.s 6)),
 oo 57 (.mov (.s 1)),
 oo 58 (.bin .add (.s 56) (.s 57)),
 oo 59 (.mov (.s 2)),
 oo 60 (.build [(pI 0), (pI 0), (pI 0)] [(0, 1, (.s 55)), (1, 1, (.s 58)), (2, 1, (.s 59))]),
 oo 61 (.bslice 3 [(.s 60)]),
 oo 62 (.app 3 24 (.s 54) (.s 61)),
 oo 63 (.nilck (.s 50)),
 oo 64 (.fldA 0 (.s 63)),
⟨none, none, .store 1 (.s 64) (.s 62)⟩]))))
theorem k17 : OkF 17 Try.f17 c17 [] 65 := ⟨Try.func17, by kernel_rfl, by kernel_rfl, by kernel_rfl, Try.ntmps17⟩
/-! (*typecase/spans.roll).take -/
def c21_0 : AC :=
 (.seq (.reg [oo 15 (.bin .lss (.s 14) (.s 13))])
 (.seq (.cond (.s 15)
 .skip
 (.exit 0))
 (.seq (.block 1
 (.seq (.reg [oo 16 (.idxA 3 (.s 12) (.s 14)),
 oo 17 (.load true 3 (.s 16)),
 oo 9 (.box (.c (.pure (.agg [(.int .i64 0), (.int .i64 0), (.int .i64 0)])))),
⟨none, none, .store 3 (.s 9) (.s 17)⟩])
 (.seq (.regq [oo 18 (.fldA 0 (.s 9)),
 oo 19 (.load false 1 (.s 18)),
 oo 20 (.mov (.s 2)),
 oo 21 (.mx (.s 19) (.s 20)),
 oo 22 (.fldA 1 (.s 9)),
 oo 23 (.load false 1 (.s 22)),
 oo 24 (.mov (.s 3)),
 oo 25 (.mn (.s 23) (.s 24)),
 oo 10 (.mov (.s 21))]
[oo 11 (.mov (.s 25))])
 (.seq (.reg [oo 26 (.mov (.s 10)),
 oo 27 (.mov (.s 11)),
 oo 28 (.bin .lss (.s 26) (.s 27))])
 (.cond (.s 28)
 (.reg [oo 29 (.mov (.s 0)),
 oo 30 (.mov (.s 11)),
 oo 31 (.mov (.s 10)),
 oo 32 (.bin .sub (.s 30) (.s 31)),
 oo 33 (.fldA 2 (.s 9)),
 oo 34 (.load false 1 (.s 33)),
 oo 35 (.call 17 [(.s 29), (.s 32), (.s 34)])])
 .skip)))))
 (.reg [oo 36 (.bin .add (.s 14) (nI 1)),
 oo 14 (.mov (.s 36))]))))
def c21 : AC :=
 (.seq (.reg [oo 12 (.mov (.s 1)),
 oo 13 (.len (.s 12)),
 oo 14 (.mov (nI 0))])
 (.block 0
 (.loop c21_0)))
theorem k21 : OkF 21 Try.f21 c21 [] 37 := ⟨Try.func21, by kernel_rfl, by kernel_rfl, by kernel_rfl, Try.ntmps21⟩
/-! typecase/spans.end -/
def c20 : AC :=
 (.seq (.reg [oo 2 (.mov (nI 0))])
 (.seq (.seq (.reg [oo 3 (.mov (.s 0)),
 oo 4 (.len (.s 3)),
 oo 5 (.bin .eql (.s 4) (nI 0))])
 (.cond (.s 5)
 (.seq (.reg [oo 2 (.mov (nI 0))])
 .ret)
 .skip))
 (.seq (.reg [oo 6 (.mov (.s 0)),
 oo 7 (.mov (.s 0)),
 oo 8 (.len (.s 7)),
 oo 9 (.bin .sub (.s 8) (nI 1)),
 oo 10 (.idxA 3 (.s 6) (.s 9)),
 oo 11 (.fldA 1 (.s 10)),
 oo 12 (.load false 1 (.s 11)),
 oo 2 (.mov (.s 12))])
 .ret)))
theorem k20 : OkF 20 Try.f20 c20 [.t 2] 13 := ⟨Try.func20, by kernel_rfl, by kernel_rfl, by kernel_rfl, Try.ntmps20⟩
theorem many_q (l : List Sp) : FnQ Try.prog 6 [.sl (l.map sp)] [.bool (decide (20 < l.length))] := by
 refine k6.q (by simp) ?_
 unfold c6
 simp only [*, vmp,↓vmd,seval]
 refine onIf_intro fun _ => ?_
 simp only [*, vmp,↓vmd,seval]
 rw [show decide ((20 : Int) < l.length) = decide (20 < l.length) by rw [decide_eq_decide]; omega]
 exact gives_pure
/-- what Vals has written behind k places -/
def valsK (l : List Sp) (k : Nat) : List Int := (List.range k).map fun i => valAt l (i : Nat)
theorem valAt_take {l : List Sp} {k : Nat} (h : k < l.length) {i : Int} : valAt (l.take (k + 1)) i = if l[k].f ≤ i ∧ i < l[k].t then l[k].v else valAt (l.take k) i := by
 rw [List.take_succ_eq_append_getElem h, valAt_snoc]
theorem pend_q (l : List Sp) : FnQ Try.prog 20 [.sl (l.map sp)] [I (endF l)] := by
 refine k20.q (by simp) ?_
 unfold c20
 simp only [*, vmp,↓vmd,seval]
 refine onIf_intro fun hlen => ?_
 simp only [*, vmp,↓vmd,seval]
 refine onB_dec (fun h0 => ?_) (fun h0 => ?_)
 ·obtain rfl : l = [] := List.eq_nil_of_length_eq_zero (by omega)
  simp only [*, vmp,↓vmd,seval]
  exact gives_pure
 have hlt : l.length - 1 < l.length := by omega
 have hw : IntKind.wrap .i64 ((l.length : Int) - 1) = ((l.length - 1 : Nat) : Int) := by rw [wrap_id (by omega) (by omega)]; omega
 have he : endF l = l[l.length - 1].t := by
  rcases snoc_cases l with rfl | ⟨L, s, rfl⟩
  ·simp at hlt
  ·simp [endF]
 simp only [h0, vmp,↓vmd,seval]
 refine onIf_intro fun _ => ?_
 simp only [hw, map_at hlt, Int.natCast_nonneg, vmp,↓vmd,seval]
 rw [he]
 exact gives_pure
theorem sames_q (a b : List Sp) : FnQ Try.prog 7 [.sl (a.map sp), .sl (b.map sp)] [.bool (decide (a = b))] := by
 refine k7.q (by simp) ?_
 unfold c7
 simp only [*, vmp,↓vmd,seval]
 refine onIf_intro fun ha => ?_
 simp only [*, vmp,↓vmd,seval]
 refine onIf_intro fun hb => ?_
 simp only [*, vmp,↓vmd,seval]
 refine onB_dec (fun h0 => ?_) (fun h0 => ?_)
 ·simp only [*, vmp,↓vmd,seval]
  rw [show decide (a = b) = false by simp; rintro rfl; simp at h0]
  exact gives_pure
 simp only [*, vmp,↓vmd,seval]
 have hab : a.length = b.length := by simp at h0; omega
 refine loop_at (T := Nat) (fun k => [(5, .pure (I k)), (0, .pure (.sl (a.map sp))), (1, .pure (.sl (b.map sp)))]) (fun _ => []) (fun k => k ≤ a.length ∧ (a.drop k = b.drop k ↔ a = b)) (fun k => a.length - k)
  0 [] (by simp) rfl ⟨by simp, by simp⟩ (by simp only [kpp,seval]) (by simp only [kpp,seval]) ?_
 rintro k ⟨hk, hr⟩
 unfold c7_1
 simp only [vmp,↓vmd,seval]
 refine onIf_intro fun hlen => ?_
 simp only [vmp,↓vmd,seval]
 refine onB_dec (fun h1 => ?_) (fun h1 => ?_)
 ·have hlt : k < a.length := by simpa using h1
  have hlt' : k < b.length := by omega
  have hlen' : a.length ≤ 9223372036854775807 := by simpa using hlen
  rw [drop_at hlt, drop_at hlt'] at hr
  simp only [map_at hlt, map_at hlt', Int.natCast_nonneg, vmp,↓vmd,seval]
  have heq : (decide (a[k].f = b[k].f) && (decide (a[k].t = b[k].t) && decide (a[k].v = b[k].v))) = decide (a[k] = b[k]) := by
   rw [← Bool.decide_and, ← Bool.decide_and, decide_eq_decide]
   exact ⟨fun ⟨h1, h2, h3⟩ => by cases h4 : a[k]; cases h5 : b[k]; simp_all, fun h => by rw [h]; exact ⟨rfl, rfl, rfl⟩⟩
  rw [heq]
  refine onB_intro (fun h2 => ?_) (fun h2 => ?_)
  ·have h3 : ¬ a[k] = b[k] := by simpa using h2
   simp only [h2, vmp,↓vmd,seval]
   rw [show decide (a = b) = false by rw [decide_eq_false_iff_not]; intro e; subst e; exact h3 rfl]
   exact gives_pure
  ·have h3 : a[k] = b[k] := by simpa using h2
   simp only [h2, vmp,↓vmd,seval]
   refine onBk_to (k + 1) [] (by simp) rfl (by omega) ⟨hlt, by rw [← hr, List.cons.injEq]; exact ⟨fun h => ⟨h3, h⟩, fun h => h.2⟩⟩ (by simp only [next_at hlt hlen', kpp,seval]) (by simp only [kpp,seval])
 ·simp only [h1, vmp,↓vmd,seval]
  unfold c7_0
  simp only [vmp,↓vmd,seval]
  have hk' : a.length ≤ k := by simp at h1; omega
  rw [List.drop_of_length_le hk', List.drop_of_length_le (by omega)] at hr
  rw [show decide (a = b) = true by simp [← hr]]
  exact gives_pure
theorem chain_len {L : List Sp} : ∀ {a b : Int}, chain a L b → (L.length : Int) ≤ b - a := by
 induction L with
 | nil => intro a b h; simp [chain] at h; simp; omega
 | cons s r ih => intro a b h; have := ih h.2.2; have := h.1; have := h.2.1; simp; omega
theorem ofF_len (v : List Int) : (ofF v).length ≤ v.length := by have := chain_len (ofF_chain v); omega
theorem row_set_sp {X : List Sp} {k : Nat} {a b c : Int} : ((X.map sp).map S.pure).set k (.pure (.agg [.int .i64 a, .int .i64 b, .int .i64 c])) = ((X.set k ⟨a, b, c⟩).map sp).map S.pure := by
 rw [show V.agg [.int .i64 a, .int .i64 b, .int .i64 c] = sp ⟨a, b, c⟩ from rfl, row_set]
/-- the spans of the first k values -/
def ofK (v : List Int) (k : Nat) : List Sp := ofF (v.take k)
/-- a roll: where its spans lie -/
def rollH (st : Bool) (L : List Sp) : Heap := if st = true then [⟨[.agg [.rsl 2 0 L.length]], 1, .live⟩, ⟨[], 3, .dead⟩, ⟨(L.map sp).map .pure, 3, .live⟩] else [⟨[.agg [.rsl 1 0 L.length]], 1, .live⟩, ⟨(L.map sp).map .pure, 3, .live⟩]
theorem rollH_t {L : List Sp} : rollH true L = [⟨[.agg [.rsl 2 0 L.length]], 1, .live⟩, ⟨[], 3, .dead⟩, ⟨(L.map sp).map .pure, 3, .live⟩] := rfl
theorem rollH_f {L : List Sp} : rollH false L = [⟨[.agg [.rsl 1 0 L.length]], 1, .live⟩, ⟨(L.map sp).map .pure, 3, .live⟩] := rfl
def layI (L : List Sp) (m x : Int) : List Sp := if m < 1 then L else layF L m x
theorem lay_c (L : List Sp) (n m x : Int) (hc : chain 0 L n) (hn : n ≤ 10000) (hm : m ≤ 10000) : CallA Try.prog 17 [.ptr 0 0 0, .pure (I m), .pure (I x)] (rollH false L) fun s H' => s = .tup [] ∧ ∃ st, H' = rollH st (layI L m x) := by
 refine CallA.weak (K := fun s H' => s = .tup [] ∧ (H' = rollH false (layI L m x) ∨ ∃ bs : List S, H' = [⟨[.agg [.rsl 3 0 (layI L m x).length]], 1, .live⟩, ⟨[], 3, .dead⟩, ⟨bs, 3, .live⟩, ⟨((layI L m x).map sp).map .pure, 3, .live⟩])) ?_ ?_
 ·refine k17.a (by simp) ?_
  rw [rollH_f]
  unfold c17
  simp only [*, vmp,↓vmd,seval]
  refine onB_dec (fun h1 => ?_) (fun h1 => ?_)
  ·simp only [h1, vmp,↓vmd,seval]
   rw [layI, if_pos h1]
   exact .inl rfl
  rw [layI, if_neg h1]
  have hcl := chain_len hc
  simp only [h1, vmp,↓vmd,seval]
  refine onIf_intro fun hlen => ?_
  simp only [vmp,↓vmd,seval]
  rcases snoc_cases L with rfl | ⟨M, s, e1⟩
  ·simp only [*, vmp,↓vmd,seval]
   refine onIf'_intro (appOk_one rfl rfl (by simp) (by simp) (by simp [maxLen])) ?_
   simp only [show IntKind.wrap .i64 (0 + m) = m by rw [wrap_id (by omega) (by omega)]; omega, layF_nil, vmp,↓vmd,seval]
   exact .inr ⟨_, rfl⟩
  ·have hj : L.length - 1 < L.length := by rw [e1]; simp
   have hpos : decide ((0 : Int) < (L.length : Int)) = true := by simp only [decide_eq_true_eq]; omega
   have hll : IntKind.wrap .i64 ((L.length : Int) - 1) = ((L.length - 1 : Nat) : Int) := by rw [wrap_id (by omega) (by omega)]; omega
   have hjz : (((L.length - 1 : Nat) : Int) < (L.length : Int)) = True := by simp only [eq_iff_iff, iff_true]; omega
   have hg : L[L.length - 1] = s := by simp [e1]
   have hst := congrArg (fun X : List Sp => X.set (X.length - 1) ⟨s.f, s.t + m, s.v⟩) e1
   simp only [List.length_append, List.length_cons, List.length_nil, Nat.zero_add, Nat.add_sub_cancel, List.set_append_right _ _ (Nat.le_refl M.length), Nat.sub_self, List.set_cons_zero] at hst
   have hs0 : 0 ≤ s.f ∧ s.f < s.t ∧ s.t ≤ n := chain_mem hc (by rw [e1]; simp)
   have hw : IntKind.wrap .i64 (s.t + m) = s.t + m := by rw [wrap_id (by omega) (by omega)]
   have hl : layF L m x = if s.v = x then M ++ [⟨s.f, s.t + m, s.v⟩] else M ++ [s] ++ [⟨s.t, s.t + m, x⟩] := by rw [e1, layF_snoc]
   simp only [hpos, hll, hjz, Int.natCast_nonneg, row_at hj, hg, vmp,↓vmd,seval]
   refine onB_dec (fun h3 => ?_) (fun h3 => ?_)
   ·rw [if_pos h3, ← hst] at hl
    have hlk : (layF L m x).length = L.length := by rw [hl, List.length_set]
    simp only [h3, hll, hjz, Int.natCast_nonneg, row_at hj, hg, hw, row_set_sp, vmp,↓vmd,seval]
    rw [h3] at hl
    exact .inl (by rw [hl, rollH_f, List.length_set])
   ·rw [if_neg h3, ← e1] at hl
    have hlk : (layF L m x).length = L.length + 1 := by rw [hl]; simp
    simp only [h3, hll, hjz, Int.natCast_nonneg, row_at hj, hg, hw, vmp,↓vmd,seval]
    refine onIf'_intro (appOk_one rfl rfl (by simp) (by omega) (by simp [maxLen]; omega)) ?_
    simp only [hlk, vmp,↓vmd,seval]
    exact .inr ⟨[.pure (.agg [.int .i64 s.t, .int .i64 (s.t + m), .int .i64 x])], by rw [hl]; simp⟩
 ·rintro s H' ⟨rfl, rfl | ⟨bs, rfl⟩⟩
  ·exact ⟨[0, 1], .tup [], rollH false (layI L m x), by simp, rfl, (by simp only [kpp,seval]), (by simp only [rollH_f, kpp,seval]), rfl, false, rfl⟩
  ·exact ⟨[0, 1, 3], .tup [], rollH true (layI L m x), by simp, rfl, (by simp only [kpp,seval]), (by simp only [rollH_t, kpp,seval]), rfl, true, rfl⟩
theorem takeV_snoc {L : List Sp} {s : Sp} {lo hi : Int} : takeV (L ++ [s]) lo hi = takeV L lo hi ++ List.replicate (min s.t hi - max s.f lo).toNat s.v := by simp [takeV]
theorem takeV_len {L : List Sp} {lo hi : Int} : ∀ {a b : Int}, chain a L b → ((takeV L lo hi).length : Int) ≤ b - a := by
 induction L with
 | nil => intro a b h; simp [chain] at h; simp [takeV]; omega
 | cons s r ih =>
  intro a b h
  have := ih h.2.2
  have := h.1
  have := h.2.1
  rw [takeV_cons]
  simp only [List.length_append, List.length_replicate]
  omega
theorem chain_take {L : List Sp} {a b : Int} (h : chain a L b) (k : Nat) : ∃ c, chain a (L.take k) c ∧ c ≤ b := by
 rw [← List.take_append_drop k L] at h
 obtain ⟨c, h1, h2⟩ := chain_app.1 h
 exact ⟨c, h1, chain_le h2⟩
def takeK (v : List Int) (l : List Sp) (lo hi : Int) (k : Nat) : List Int := v ++ takeV (l.take k) lo hi
theorem takeK_succ {v : List Int} {l : List Sp} {lo hi : Int} {k : Nat} (h : k < l.length) : takeK v l lo hi (k + 1) = takeK v l lo hi k ++ List.replicate (min l[k].t hi - max l[k].f lo).toNat l[k].v := by
 rw [takeK, takeK, List.take_succ_eq_append_getElem h, takeV_snoc, List.append_assoc]
theorem take_c (v : List Int) (l : List Sp) (n lo hi : Int) (hl : chain 0 l n) (hn : n ≤ 1000) (hv : v.length ≤ 5000) : CallA Try.prog 21 [.ptr 0 0 0, .pure (.sl (l.map sp)), .pure (I lo), .pure (I hi)] (rollH false (ofF v))
  fun s H' => s = .tup [] ∧ ∃ st, H' = rollH st (ofF (v ++ takeV l lo hi)) := by
 refine k21.a (by simp) ?_
 rw [rollH_f]
 unfold c21
 simp only [*, vmp,↓vmd,seval]
 refine onIf_intro fun hlen => ?_
 simp only [*, vmp,↓vmd,seval]
 refine loop_at (T := Nat × Bool) (fun x => [(14, .pure (I x.1)), (13, .pure (I l.length)), (12, .pure (.sl (l.map sp))), (0, .ptr 0 0 0), (2, .pure (I lo)), (3, .pure (I hi))]) (fun x => rollH x.2 (ofF (takeK v l lo hi x.1))) (fun x => x.1 ≤ l.length) (fun x => l.length - x.1)
  (0, false) [0, 1] (by simp) rfl (by simp) (by simp only [kpp,seval]) (by simp only [rollH_f, show takeK v l lo hi 0 = v by simp [takeK, takeV], kpp,seval]) ?_
 rintro ⟨k, st⟩ hk
 simp only at hk ⊢
 unfold c21_0
 by_cases h1 : (k : Int) < (l.length : Int)
 ·have hlt : k < l.length := by omega
  have hm := chain_mem hl (List.getElem_mem hlt)
  have hs := takeK_succ (v := v) (lo := lo) (hi := hi) hlt
  obtain ⟨c, hc1, hc2⟩ := chain_take hl k
  have hlw : (takeK v l lo hi k).length ≤ 6000 := by
   have := takeV_len (lo := lo) (hi := hi) hc1
   rw [takeK, List.length_append]
   omega
  by_cases h2 : max l[k].f lo < min l[k].t hi
  ·have hb : IntKind.wrap .i64 (min l[k].t hi - max l[k].f lo) = min l[k].t hi - max l[k].f lo := by rw [wrap_id (by omega) (by omega)]
   have hly := lay_c (ofF (takeK v l lo hi k)) _ (min l[k].t hi - max l[k].f lo) l[k].v (ofF_chain _) (by omega) (by omega)
   rw [layI, if_neg (by omega), ofF_lay (by omega), ← hs] at hly
   cases st
   ·rw [rollH_f]
    simp only [h1, h2, map_at hlt, Int.natCast_nonneg, hb, vmp,↓vmd,seval]
    refine onC_fr' hly [0, 1] (by simp) (by simp only [rollH_f, kpp,seval]) rfl rfl (fun st' => ?_)
    cases st'
    ·refine ⟨by simp [rollH_f], ?_⟩
     rw [rollH_f]
     simp only [vmp,↓vmd,seval]
     refine onBk_to (k + 1, false) [0, 1] (by simp) rfl (by simp only; omega) hlt (by simp only [next_at hlt hlen, kpp,seval]) (by simp only [rollH_f, kpp,seval])
    ·refine ⟨by simp [rollH_t], ?_⟩
     rw [rollH_t]
     simp only [vmp,↓vmd,seval]
     refine onBk_to (k + 1, true) [0, 1, 3] (by simp) rfl (by simp only; omega) hlt (by simp only [next_at hlt hlen, kpp,seval]) (by simp only [rollH_t, kpp,seval])
   ·rw [rollH_t]
    simp only [h1, h2, map_at hlt, Int.natCast_nonneg, hb, vmp,↓vmd,seval]
    refine onC_fr' hly [0, 2] (by simp) (by simp only [rollH_f, kpp,seval]) rfl rfl (fun st' => ?_)
    cases st'
    ·refine ⟨by simp [rollH_f], ?_⟩
     rw [rollH_f]
     simp only [vmp,↓vmd,seval]
     refine onBk_to (k + 1, true) [0, 1, 2] (by simp) rfl (by simp only; omega) hlt (by simp only [next_at hlt hlen, kpp,seval]) (by simp only [rollH_t, kpp,seval])
    ·refine ⟨by simp [rollH_t], ?_⟩
     rw [rollH_t]
     simp only [vmp,↓vmd,seval]
     refine onBk_to (k + 1, true) [0, 1, 4] (by simp) rfl (by simp only; omega) hlt (by simp only [next_at hlt hlen, kpp,seval]) (by simp only [rollH_t, kpp,seval])
  ·rw [show (min l[k].t hi - max l[k].f lo).toNat = 0 by omega, List.replicate_zero, List.append_nil] at hs
   cases st
   ·rw [rollH_f]
    simp only [h1, h2, map_at hlt, Int.natCast_nonneg, vmp,↓vmd,seval]
    refine onBk_to (k + 1, false) [0, 1] (by simp) rfl (by simp only; omega) hlt (by simp only [next_at hlt hlen, kpp,seval]) (by simp only [rollH_f, hs, kpp,seval])
   ·rw [rollH_t]
    simp only [h1, h2, map_at hlt, Int.natCast_nonneg, vmp,↓vmd,seval]
    refine onBk_to (k + 1, true) [0, 1, 2] (by simp) rfl (by simp only; omega) hlt (by simp only [next_at hlt hlen, kpp,seval]) (by simp only [rollH_t, hs, kpp,seval])
 ·obtain rfl : k = l.length := by omega
  have hall : takeK v l lo hi l.length = v ++ takeV l lo hi := by simp [takeK]
  cases st
  ·rw [rollH_f]
   simp only [h1, hall, vmp,↓vmd,seval]
   exact ⟨false, rfl⟩
  ·rw [rollH_t]
   simp only [h1, hall, vmp,↓vmd,seval]
   exact ⟨true, rfl⟩
end Go.Proofs.Ytalhohfhjniapaa.W
