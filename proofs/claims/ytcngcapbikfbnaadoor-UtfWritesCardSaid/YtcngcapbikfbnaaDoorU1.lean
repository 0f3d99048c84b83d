/-
  Texts: whether a rune is right, whether a text is; how long a form is; forms. No condition but on sizes.
-/
import Derived.Test.YtcngcapbikfbnaaDoorUBit
import Derived.Test.YtcngcapbikfbnaaDoorData
import Derived.Test.YtcngcapbikfbnaaDoorStops
namespace Go.Proofs.YtcngcapbikfbnaaDoor.W
open Go Go.Vm Go.Proofs
set_option maxRecDepth 100000
set_option linter.unusedSimpArgs false
set_option maxHeartbeats 1000000
/-! typecase/utf.right -/
def c30 : AC :=
 (.seq (.reg [oo 2 (.mov (nB false))])
 (.seq (.reg [oo 3 (.mov (.s 0)),
 oo 4 (.bin .geq (.s 3) (.c (.pure (.int .i32 0)))),
 oo 5 (.mov (.s 4)),
 og 6 5 true (.mov (.s 0)),
 og 7 5 true (.bin .leq (.s 6) (.c (.pure (.int .i32 1114111)))),
 oo 8 (.pick (.s 5) (.s 7) (nB false)),
 oo 9 (.mov (.s 8)),
 og 10 9 true (.mov (.s 0)),
 og 11 9 true (.bin .lss (.s 10) (.c (.pure (.int .i32 55296)))),
 og 12 9 true (.mov (.s 11)),
 og 13 12 false (.mov (.s 0)),
 og 14 12 false (.bin .gtr (.s 13) (.c (.pure (.int .i32 57343)))),
 og 15 9 true (.pick (.s 12) (nB true) (.s 14)),
 oo 16 (.pick (.s 9) (.s 15) (nB false)),
 oo 2 (.mov (.s 16))])
 .ret))
theorem k30 : OkF 30 Tryd.f30 c30 [.t 2] 17 := ⟨Tryd.func30, by kernel_rfl, by kernel_rfl, by kernel_rfl, Tryd.ntmps30⟩
/-! typecase/typecaseref02.One -/
def c31 : AC :=
 (.seq (.reg [oo 2 (.mov (nB false))])
 (.seq (.reg [oo 3 (.mov (.s 0)),
 oo 4 (.bin .geq (.s 3) (.c (.pure (.int .i32 0)))),
 oo 5 (.mov (.s 4)),
 og 6 5 true (.mov (.s 0)),
 og 7 5 true (.bin .lss (.s 6) (.c (.pure (.int .i32 55296)))),
 oo 8 (.pick (.s 5) (.s 7) (nB false)),
 oo 9 (.mov (.s 8)),
 og 10 9 false (.mov (.s 0)),
 og 11 9 false (.bin .gtr (.s 10) (.c (.pure (.int .i32 57343)))),
 og 12 9 false (.mov (.s 11)),
 og 13 12 true (.mov (.s 0)),
 og 14 12 true (.bin .leq (.s 13) (.c (.pure (.int .i32 1114111)))),
 og 15 9 false (.pick (.s 12) (.s 14) (nB false)),
 oo 16 (.pick (.s 9) (nB true) (.s 15)),
 oo 2 (.mov (.s 16))])
 .ret))
theorem k31 : OkF 31 Tryd.f31 c31 [.t 2] 17 := ⟨Tryd.func31, by kernel_rfl, by kernel_rfl, by kernel_rfl, Tryd.ntmps31⟩
/-! typecase/utf.Right -/
def c14_0 : AC :=
 (.seq (.reg [oo 2 (.mov (nB true))])
 .ret)
def c14_1 : AC :=
 (.seq (.reg [oo 8 (.bin .lss (.s 7) (.s 6))])
 (.seq (.cond (.s 8)
 .skip
 (.exit 0))
 (.seq (.block 1
 (.seq (.reg [oo 9 (.idxA 1 (.s 5) (.s 7)),
 oo 10 (.load false 1 (.s 9)),
 oo 4 (.mov (.s 10))])
 (.seq (.reg [oo 11 (.mov (.s 4)),
 oo 12 (.call 30 [(.s 11)]),
 oo 13 (.un .not (.s 12))])
 (.cond (.s 13)
 (.seq (.reg [oo 2 (.mov (nB false))])
 .ret)
 .skip))))
 (.reg [oo 14 (.bin .add (.s 7) (nI 1)),
 oo 7 (.mov (.s 14))]))))
def c14 : AC :=
 (.seq (.reg [oo 2 (.mov (nB false))])
 (.seq (.seq (.reg [oo 5 (.mov (.s 0)),
 oo 6 (.len (.s 5)),
 oo 7 (.mov (nI 0))])
 (.block 0
 (.loop c14_1)))
 c14_0))
theorem k14 : OkF 14 Tryd.f14 c14 [.t 2] 15 := ⟨Tryd.func14, by kernel_rfl, by kernel_rfl, by kernel_rfl, Tryd.ntmps14⟩
/-! typecase/typecaseref02.Right -/
def c15_0 : AC :=
 (.seq (.reg [oo 2 (.mov (nB true))])
 .ret)
def c15_1 : AC :=
 (.seq (.seq (.reg [oo 4 (.mov (.s 3)),
 oo 5 (.mov (.s 0)),
 oo 6 (.len (.s 5)),
 oo 7 (.bin .lss (.s 4) (.s 6))])
 (.cond (.s 7)
 .skip
 (.exit 0)))
 (.seq (.block 1
 (.seq (.reg [oo 10 (.mov (.s 0)),
 oo 11 (.mov (.s 3)),
 oo 12 (.idxA 1 (.s 10) (.s 11)),
 oo 13 (.load false 1 (.s 12)),
 oo 14 (.call 31 [(.s 13)]),
 oo 15 (.un .not (.s 14))])
 (.cond (.s 15)
 (.seq (.reg [oo 2 (.mov (nB false))])
 .ret)
 .skip)))
 (.reg [oo 8 (.mov (.s 3)),
 oo 9 (.bin .add (.s 8) (nI 1)),
 oo 3 (.mov (.s 9))])))
def c15 : AC :=
 (.seq (.reg [oo 2 (.mov (nB false))])
 (.seq (.seq (.reg [oo 3 (.mov (nI 0))])
 (.block 0
 (.loop c15_1)))
 c15_0))
theorem k15 : OkF 15 Tryd.f15 c15 [.t 2] 16 := ⟨Tryd.func15, by kernel_rfl, by kernel_rfl, by kernel_rfl, Tryd.ntmps15⟩
/-! unicode/utf8.RuneLen -/
def c32 : AC :=
 (.seq (.reg [oo 2 (.mov (nI 0))])
 (.seq (.block 0
 (.seq (.reg [oo 4 (.mov (.s 0)),
 oo 5 (.bin .lss (.s 4) (.c (.pure (.int .i32 0)))),
 oo 3 (.mov (.s 5))])
 (.cond (.s 3)
 (.seq (.reg [oo 2 (.mov (nI (-1)))])
 .ret)
 (.seq (.reg [oo 7 (.mov (.s 0)),
 oo 8 (.bin .leq (.s 7) (.c (.pure (.int .i32 127)))),
 oo 6 (.mov (.s 8))])
 (.cond (.s 6)
 (.seq (.reg [oo 2 (.mov (nI 1))])
 .ret)
 (.seq (.reg [oo 10 (.mov (.s 0)),
 oo 11 (.bin .leq (.s 10) (.c (.pure (.int .i32 2047)))),
 oo 9 (.mov (.s 11))])
 (.cond (.s 9)
 (.seq (.reg [oo 2 (.mov (nI 2))])
 .ret)
 (.seq (.reg [oo 13 (.mov (.s 0)),
 oo 14 (.bin .leq (.c (.pure (.int .i32 55296))) (.s 13)),
 oo 15 (.mov (.s 14)),
 og 16 15 true (.mov (.s 0)),
 og 17 15 true (.bin .leq (.s 16) (.c (.pure (.int .i32 57343)))),
 oo 18 (.pick (.s 15) (.s 17) (nB false)),
 oo 12 (.mov (.s 18))])
 (.cond (.s 12)
 (.seq (.reg [oo 2 (.mov (nI (-1)))])
 .ret)
 (.seq (.reg [oo 20 (.mov (.s 0)),
 oo 21 (.bin .leq (.s 20) (.c (.pure (.int .i32 65535)))),
 oo 19 (.mov (.s 21))])
 (.cond (.s 19)
 (.seq (.reg [oo 2 (.mov (nI 3))])
 .ret)
 (.seq (.reg [oo 23 (.mov (.s 0)),
 oo 24 (.bin .leq (.s 23) (.c (.pure (.int .i32 1114111)))),
 oo 22 (.mov (.s 24))])
 (.cond (.s 22)
 (.seq (.reg [oo 2 (.mov (nI 4))])
 .ret)
 .skip)))))))))))))
 (.seq (.reg [oo 2 (.mov (nI (-1)))])
 .ret)))
theorem k32 : OkF 32 Tryd.f32 c32 [.t 2] 25 := ⟨Tryd.func32, by kernel_rfl, by kernel_rfl, by kernel_rfl, Tryd.ntmps32⟩
/-! typecase/typecaseref02.Form -/
def c29 : AC :=
 (.seq (.reg [oo 2 (.mov (.c .empty))])
 (.seq (.reg [oo 4 (.mov (.s 0)),
 oo 5 (.conv .i64 (.s 4)),
 oo 3 (.mov (.s 5))])
 (.seq (.seq (.reg [oo 6 (.mov (.s 3)),
 oo 7 (.bin .lss (.s 6) (nI 128))])
 (.cond (.s 7)
 (.seq (.reg [oo 8 (.mov (.s 3)),
 oo 9 (.conv .u8 (.s 8)),
 oo 10 (.bslice 1 [(.s 9)]),
 oo 2 (.mov (.s 10))])
 .ret)
 .skip))
 (.seq (.seq (.reg [oo 11 (.mov (.s 3)),
 oo 12 (.bin .lss (.s 11) (nI 2048))])
 (.cond (.s 12)
 (.seq (.reg [oo 13 (.mov (.s 3)),
 oo 14 (.bin .quo (.s 13) (nI 64)),
 oo 15 (.bin .add (nI 192) (.s 14)),
 oo 16 (.conv .u8 (.s 15)),
 oo 17 (.mov (.s 3)),
 oo 18 (.bin .rem (.s 17) (nI 64)),
 oo 19 (.bin .add (nI 128) (.s 18)),
 oo 20 (.conv .u8 (.s 19)),
 oo 21 (.bslice 1 [(.s 16), (.s 20)]),
 oo 2 (.mov (.s 21))])
 .ret)
 .skip))
 (.seq (.seq (.reg [oo 22 (.mov (.s 3)),
 oo 23 (.bin .lss (.s 22) (nI 65536))])
 (.cond (.s 23)
 (.seq (.reg [oo 24 (.mov (.s 3)),
 oo 25 (.bin .quo (.s 24) (nI 4096)),
 oo 26 (.bin .add (nI 224) (.s 25)),
 oo 27 (.conv .u8 (.s 26)),
 oo 28 (.mov (.s 3)),
 oo 29 (.bin .quo (.s 28) (nI 64)),
 oo 30 (.bin .rem (.s 29) (nI 64)),
 oo 31 (.bin .add (nI 128) (.s 30)),
 oo 32 (.conv .u8 (.s 31)),
 oo 33 (.mov (.s 3)),
 oo 34 (.bin .rem (.s 33) (nI 64)),
 oo 35 (.bin .add (nI 128) (.s 34)),
 oo 36 (.conv .u8 (.s 35)),
 oo 37 (.bslice 1 [(.s 27), (.s 32), (.s 36)]),
 oo 2 (.mov (.s 37))])
 .ret)
 .skip))
 (.seq (.reg [oo 38 (.mov (.s 3)),
 oo 39 (.bin .quo (.s 38) (nI 262144)),
 oo 40 (.bin .add (nI 240) (.s 39)),
 oo 41 (.conv .u8 (.s 40)),
 oo 42 (.mov (.s 3)),
 oo 43 (.bin .quo (.s 42) (nI 4096)),
 oo 44 (.bin .rem (.s 43) (nI 64)),
 oo 45 (.bin .add (nI 128) (.s 44)),
 oo 46 (.conv .u8 (.s 45)),
 oo 47 (.mov (.s 3)),
 oo 48 (.bin .quo (.s 47) (nI 64)),
 oo 49 (.bin .rem (.s 48) (nI 64)),
 oo 50 (.bin .add (nI 128) (.s 49)),
 oo 51 (.conv .u8 (.s 50)),
 oo 52 (.mov (.s 3)),
 oo 53 (.bin .rem (.s 52) (nI 64)),
 oo 54 (.bin .add (nI 128) (.s 53)),
 oo 55 (.conv .u8 (.s 54)),
 oo 56 (.bslice 1 [(.s 41), (.s 46), (.s 51), (.s 55)]),
 oo 2 (.mov (.s 56))])
 .ret))))))
theorem k29 : OkF 29 Tryd.f29 c29 [.t 2] 57 := ⟨Tryd.func29, by kernel_rfl, by kernel_rfl, by kernel_rfl, Tryd.ntmps29⟩
theorem right_t {r : Int} (h : 0 ≤ r ∧ r ≤ 1114111 ∧ (r < 55296 ∨ 57343 < r)) : rightF r = true := right_iff.2 h
theorem right_f {r : Int} (h : ¬ (0 ≤ r ∧ r ≤ 1114111 ∧ (r < 55296 ∨ 57343 < r))) : rightF r = false := by simp only [rightF, h, decide_false]
theorem right_q (r : Int) : FnQ Tryd.prog 30 [R r] [.bool (rightF r)] := by
 refine k30.q (by simp) ?_
 unfold c30
 simp only [vmp,↓vmd,seval]
 refine onB_dec (fun h1 => ?_) (fun h1 => ?_)
 case' refine_2 => (
  simp only [h1, vmp,↓vmd,seval]
  rw [right_f (by omega)]
  exact gives_pure)
 simp only [h1, vmp,↓vmd,seval]
 refine onB_dec (fun h2 => ?_) (fun h2 => ?_)
 case' refine_2 => (
  simp only [h1, h2, vmp,↓vmd,seval]
  rw [right_f (by omega)]
  exact gives_pure)
 simp only [h1, h2, vmp,↓vmd,seval]
 refine onB_dec (fun h3 => ?_) (fun h3 => ?_)
 ·simp only [h1, h2, h3, vmp,↓vmd,seval]
  rw [right_t (by omega)]
  exact gives_pure
 simp only [h1, h2, h3, vmp,↓vmd,seval]
 by_cases h4 : 57343 < r
 ·rw [right_t (by omega), decide_eq_true h4]
  exact gives_pure
 ·rw [right_f (by omega), decide_eq_false h4]
  exact gives_pure
theorem one_q (r : Int) : FnQ Tryd.prog 31 [R r] [.bool (rightF r)] := by
 refine k31.q (by simp) ?_
 unfold c31
 simp only [vmp,↓vmd,seval]
 by_cases h1 : 0 ≤ r
 ·refine onB_pos h1 ?_
  simp only [h1, vmp,↓vmd,seval]
  refine onB_dec (fun h2 => ?_) (fun h2 => ?_)
  ·simp only [h1, h2, vmp,↓vmd,seval]
   rw [right_t (by omega)]
   exact gives_pure
  simp only [h1, h2, vmp,↓vmd,seval]
  refine onB_dec (fun h3 => ?_) (fun h3 => ?_)
  ·simp only [h1, h2, h3, vmp,↓vmd,seval]
   by_cases h4 : r ≤ 1114111
   ·rw [right_t (by omega), decide_eq_true h4]
    exact gives_pure
   ·rw [right_f (by omega), decide_eq_false h4]
    exact gives_pure
  ·simp only [h1, h2, h3, vmp,↓vmd,seval]
   rw [right_f (by omega)]
   exact gives_pure
 ·refine onB_neg h1 ?_
  simp only [h1, vmp,↓vmd,seval]
  refine onB_neg (show ¬ 57343 < r by omega) ?_
  simp only [h1, show ¬ 57343 < r by omega, vmp,↓vmd,seval]
  rw [right_f (by omega)]
  exact gives_pure
theorem rlen_q (r : Int) (h : rightF r = true) : FnQ Tryd.prog 32 [R r] [I (szF r)] := by
 refine k32.q (by simp) ?_
 unfold c32
 obtain ⟨h1, h2, h3⟩ := right_iff.1 h
 have e : szF r = if r < 128 then 1 else if r < 2048 then 2 else if r < 65536 then 3 else 4 := by
  unfold szF formF
  repeat' split
  all_goals rfl
 simp only [vmp,↓vmd,seval]
 refine onB_neg (by omega) ?_
 simp only [vmp,↓vmd,seval]
 by_cases h4 : r ≤ 127
 ·refine onB_pos h4 ?_
  rw [if_pos (by omega)] at e
  simp only [h4, e, vmp,↓vmd,seval]
  exact gives_pure
 refine onB_neg h4 ?_
 rw [if_neg (by omega)] at e
 simp only [h4, vmp,↓vmd,seval]
 by_cases h5 : r ≤ 2047
 ·refine onB_pos h5 ?_
  rw [if_pos (by omega)] at e
  simp only [h5, e, vmp,↓vmd,seval]
  exact gives_pure
 refine onB_neg h5 ?_
 rw [if_neg (by omega)] at e
 simp only [h5, vmp,↓vmd,seval]
 by_cases h6 : 55296 ≤ r
 case' pos => (
  refine onB_pos h6 ?_
  simp only [h6, vmp,↓vmd,seval]
  refine onB_neg (show ¬ r ≤ 57343 by omega) ?_
  simp only [show ¬ r ≤ 57343 by omega, vmp,↓vmd,seval])
 case' neg => (
  refine onB_neg h6 ?_
  simp only [h6, vmp,↓vmd,seval])
 all_goals (
  by_cases h7 : r ≤ 65535
  ·refine onB_pos h7 ?_
   rw [if_pos (by omega)] at e
   simp only [h7, e, vmp,↓vmd,seval]
   exact gives_pure
  refine onB_neg h7 ?_
  rw [if_neg (by omega)] at e
  simp only [h7, vmp,↓vmd,seval]
  refine onB_pos h2 ?_
  simp only [h2, e, vmp,↓vmd,seval]
  exact gives_pure)
theorem form_q (r : Int) (h : rightF r = true) : FnQ Tryd.prog 29 [R r] [.sl ((formF r).map B)] := by
 refine k29.q (by simp) ?_
 unfold c29
 obtain ⟨h1, h2, h3⟩ := right_iff.1 h
 have d : ∀ k : Int, 1 ≤ k → IntKind.wrap .i64 (r.tdiv k) = r / k := fun k hk => by
  rw [Int.tdiv_eq_ediv_of_nonneg h1]
  have := Int.ediv_le_self k h1
  have := Int.ediv_nonneg h1 (show 0 ≤ k by omega)
  exact wrap_id (by omega) (by omega)
 have m : ∀ n : Int, 0 ≤ n → n.tmod 64 = n % 64 := fun n hn => Int.tmod_eq_emod_of_nonneg hn
 have w : ∀ n : Int, 0 ≤ n → n ≤ 255 → IntKind.wrap .u8 (IntKind.wrap .i64 n) = n := fun n h0 h9 => by rw [wrap_id (by omega) (by omega), wu8_id h0 h9]
 have d1 := d 64 (by omega)
 have d2 := d 4096 (by omega)
 have d3 := d 262144 (by omega)
 have m1 := m r h1
 have m2 := m (r / 64) (by omega)
 have m3 := m (r / 4096) (by omega)
 simp only [wrap_id (n := r) (by omega) (by omega), vmp,↓vmd,seval]
 by_cases h4 : r < 128
 ·have e : formF r = [r] := by rw [formF, if_pos h4]
  refine onB_pos h4 ?_
  simp only [h4, wu8_id h1 (by omega : r ≤ 255), e, vmp,↓vmd,seval]
  exact gives_row (X := [r]) rfl (by simp)
 refine onB_neg h4 ?_
 simp only [h4, vmp,↓vmd,seval]
 by_cases h5 : r < 2048
 ·have e : formF r = [192 + r / 64, 128 + r % 64] := by rw [formF, if_neg h4, if_pos h5]
  refine onB_pos h5 ?_
  have e1 := w (192 + r / 64) (by omega) (by omega)
  have e2 := w (128 + r % 64) (by omega) (by omega)
  simp only [h5, d1, m1, e1, e2, e, vmp,↓vmd,seval]
  exact gives_row (X := [192 + r / 64, 128 + r % 64]) rfl (by simp)
 refine onB_neg h5 ?_
 simp only [h5, vmp,↓vmd,seval]
 by_cases h6 : r < 65536
 ·have e : formF r = [224 + r / 4096, 128 + r / 64 % 64, 128 + r % 64] := by rw [formF, if_neg h4, if_neg h5, if_pos h6]
  refine onB_pos h6 ?_
  have e1 := w (224 + r / 4096) (by omega) (by omega)
  have e2 := w (128 + r % 64) (by omega) (by omega)
  have e3 := w (128 + r / 64 % 64) (by omega) (by omega)
  simp only [h6, d1, d2, m1, m2, e1, e2, e3, e, vmp,↓vmd,seval]
  exact gives_row (X := [224 + r / 4096, 128 + r / 64 % 64, 128 + r % 64]) rfl (by simp)
 refine onB_neg h6 ?_
 have e : formF r = [240 + r / 262144, 128 + r / 4096 % 64, 128 + r / 64 % 64, 128 + r % 64] := by rw [formF, if_neg h4, if_neg h5, if_neg h6]
 have e1 := w (240 + r / 262144) (by omega) (by omega)
 have e2 := w (128 + r % 64) (by omega) (by omega)
 have e3 := w (128 + r / 64 % 64) (by omega) (by omega)
 have e4 := w (128 + r / 4096 % 64) (by omega) (by omega)
 simp only [h6, d1, d2, d3, m1, m2, m3, e1, e2, e3, e4, e, vmp,↓vmd,seval]
 exact gives_row (X := [240 + r / 262144, 128 + r / 4096 % 64, 128 + r / 64 % 64, 128 + r % 64]) rfl (by simp)
theorem all_step {t : List Int} {k : Nat} (h : k < t.length) : (t.take (k + 1)).all rightF = ((t.take k).all rightF && rightF t[k]) := by
 rw [List.take_succ_eq_append_getElem h, List.all_append]
 simp
theorem all_bad {t : List Int} {k : Nat} (h : k < t.length) (hb : rightF t[k] = false) : t.all rightF = false := by
 rw [List.all_eq_false]
 exact ⟨t[k], List.getElem_mem h, by simp [hb]⟩
theorem rights_q (t : List Int) : FnQ Tryd.prog 14 [.sl (t.map R)] [.bool (t.all rightF)] := by
 refine k14.q (by simp) ?_
 unfold c14
 simp only [vmp,↓vmd,seval]
 refine onIf_intro fun hlen => ?_
 simp only [vmp,↓vmd,seval]
 refine loop_at (T := Nat) (fun k => [(7, .pure (I k)), (6, .pure (I t.length)), (5, .pure (.sl (t.map R)))]) (fun _ => []) (fun k => k ≤ t.length ∧ (t.take k).all rightF = true) (fun k => t.length - k)
  0 [] (by simp) rfl ⟨by simp, by simp⟩ (by simp only [kpp,seval]) (by simp only [kpp,seval]) ?_
 rintro k ⟨hk, ha⟩
 unfold c14_1
 simp only [vmp,↓vmd,seval]
 by_cases h1 : (k : Int) < (t.length : Int)
 ·have hlt : k < t.length := by omega
  refine onB_pos h1 ?_
  simp only [h1, map_at hlt, Int.natCast_nonneg, vmp,↓vmd,seval]
  refine onC_q (right_q _) rfl ?_
  cases hr : rightF t[k]
  ·rw [all_bad hlt hr]
   (first | apply envO | apply envQ); simp only [vmp,↓vmd,seval]; rfl
   simp only [vmp,↓vmd,seval]
   exact gives_pure
  ·(first | apply envO | apply envQ); simp only [vmp,↓vmd,seval]; rfl
   simp only [vmp,↓vmd,seval]
   refine onBk_to (k + 1) [] (by simp) rfl (by omega) ⟨hlt, by rw [all_step hlt, ha, hr]; rfl⟩ (by simp only [next_at hlt hlen, kpp,seval]) (by simp only [kpp,seval])
 ·refine onB_neg h1 ?_
  simp only [h1, vmp,↓vmd,seval]
  unfold c14_0
  simp only [vmp,↓vmd,seval]
  obtain rfl : k = t.length := by omega
  rw [List.take_length] at ha
  rw [ha]
  exact gives_pure
theorem rrights_q (t : List Int) : FnQ Tryd.prog 15 [.sl (t.map R)] [.bool (t.all rightF)] := by
 refine k15.q (by simp) ?_
 unfold c15
 simp only [vmp,↓vmd,seval]
 refine loop_at (T := Nat) (fun k => [(3, .pure (I k)), (0, .pure (.sl (t.map R)))]) (fun _ => []) (fun k => k ≤ t.length ∧ (t.take k).all rightF = true) (fun k => t.length - k)
  0 [] (by simp) rfl ⟨by simp, by simp⟩ (by simp only [kpp,seval]) (by simp only [kpp,seval]) ?_
 rintro k ⟨hk, ha⟩
 unfold c15_1
 simp only [vmp,↓vmd,seval]
 refine onIf_intro fun hlen => ?_
 simp only [vmp,↓vmd,seval]
 by_cases h1 : (k : Int) < (t.length : Int)
 ·have hlt : k < t.length := by omega
  have hlen' : t.length ≤ 9223372036854775807 := by simpa using hlen
  refine onB_pos h1 ?_
  simp only [h1, map_at hlt, Int.natCast_nonneg, vmp,↓vmd,seval]
  refine onC_q (one_q _) rfl ?_
  cases hr : rightF t[k]
  ·rw [all_bad hlt hr]
   (first | apply envO | apply envQ); simp only [vmp,↓vmd,seval]; rfl
   simp only [vmp,↓vmd,seval]
   exact gives_pure
  ·(first | apply envO | apply envQ); simp only [vmp,↓vmd,seval]; rfl
   simp only [vmp,↓vmd,seval]
   refine onBk_to (k + 1) [] (by simp) rfl (by omega) ⟨hlt, by rw [all_step hlt, ha, hr]; rfl⟩ (by simp only [next_at hlt hlen', kpp,seval]) (by simp only [kpp,seval])
 ·refine onB_neg h1 ?_
  simp only [h1, vmp,↓vmd,seval]
  unfold c15_0
  simp only [vmp,↓vmd,seval]
  obtain rfl : k = t.length := by omega
  rw [List.take_length] at ha
  rw [ha]
  exact gives_pure
end Go.Proofs.YtcngcapbikfbnaaDoor.W
