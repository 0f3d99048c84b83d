/-
  Texts: the plain side: how long a form is, whether one stands, its rune. No condition but on sizes.
-/
import Derived.Test.YtcngcapbikfbnaaDoorU3
namespace Go.Proofs.YtcngcapbikfbnaaDoor.W
open Go Go.Vm Go.Proofs
set_option maxRecDepth 100000
set_option linter.unusedSimpArgs false
set_option maxHeartbeats 1000000
/-! typecase/typecaseref02.long -/
def c36 : AC :=
 (.seq (.reg [oo 2 (.mov (nI 0))])
 (.seq (.seq (.reg [oo 3 (.mov (.s 0)),
 oo 4 (.bin .lss (.s 3) (nI 128))])
 (.cond (.s 4)
 (.seq (.reg [oo 2 (.mov (nI 1))])
 .ret)
 .skip))
 (.seq (.seq (.reg [oo 5 (.mov (.s 0)),
 oo 6 (.bin .lss (.s 5) (nI 194)),
 oo 7 (.mov (.s 6)),
 og 8 7 false (.mov (.s 0)),
 og 9 7 false (.bin .gtr (.s 8) (nI 244)),
 oo 10 (.pick (.s 7) (nB true) (.s 9))])
 (.cond (.s 10)
 (.seq (.reg [oo 2 (.mov (nI 0))])
 .ret)
 .skip))
 (.seq (.seq (.reg [oo 11 (.mov (.s 0)),
 oo 12 (.bin .lss (.s 11) (nI 224))])
 (.cond (.s 12)
 (.seq (.reg [oo 2 (.mov (nI 2))])
 .ret)
 .skip))
 (.seq (.seq (.reg [oo 13 (.mov (.s 0)),
 oo 14 (.bin .lss (.s 13) (nI 240))])
 (.cond (.s 14)
 (.seq (.reg [oo 2 (.mov (nI 3))])
 .ret)
 .skip))
 (.seq (.reg [oo 2 (.mov (nI 4))])
 .ret))))))
theorem k36 : OkF 36 Tryd.f36 c36 [.t 2] 15 := ⟨Tryd.func36, by kernel_rfl, by kernel_rfl, by kernel_rfl, Tryd.ntmps36⟩
/-! typecase/typecaseref02.second -/
def c40 : AC :=
 (.seq (.reg [oo 4 (.mov (nB false))])
 (.seq (.reg [oo 5 (.mov (nI 128)),
 oo 6 (.mov (nI 191))])
 (.seq (.seq (.reg [oo 7 (.mov (.s 0)),
 oo 8 (.bin .eql (.s 7) (nI 224))])
 (.cond (.s 8)
 (.reg [oo 5 (.mov (nI 160))])
 .skip))
 (.seq (.seq (.reg [oo 9 (.mov (.s 0)),
 oo 10 (.bin .eql (.s 9) (nI 237))])
 (.cond (.s 10)
 (.reg [oo 6 (.mov (nI 159))])
 .skip))
 (.seq (.seq (.reg [oo 11 (.mov (.s 0)),
 oo 12 (.bin .eql (.s 11) (nI 240))])
 (.cond (.s 12)
 (.reg [oo 5 (.mov (nI 144))])
 .skip))
 (.seq (.seq (.reg [oo 13 (.mov (.s 0)),
 oo 14 (.bin .eql (.s 13) (nI 244))])
 (.cond (.s 14)
 (.reg [oo 6 (.mov (nI 143))])
 .skip))
 (.seq (.reg [oo 15 (.mov (.s 1)),
 oo 16 (.mov (.s 5)),
 oo 17 (.bin .geq (.s 15) (.s 16)),
 oo 18 (.mov (.s 17)),
 og 19 18 true (.mov (.s 1)),
 og 20 18 true (.mov (.s 6)),
 og 21 18 true (.bin .leq (.s 19) (.s 20)),
 oo 22 (.pick (.s 18) (.s 21) (nB false)),
 oo 4 (.mov (.s 22))])
 .ret)))))))
theorem k40 : OkF 40 Tryd.f40 c40 [.t 4] 23 := ⟨Tryd.func40, by kernel_rfl, by kernel_rfl, by kernel_rfl, Tryd.ntmps40⟩
/-! typecase/typecaseref02.Stands -/
def c35_0 : AC :=
 (.seq (.reg [oo 58 (.mov (.s 7)),
 oo 59 (.mov (.s 7)),
 oo 60 (.mov (.s 6)),
 oo 61 (.bin .eql (.s 59) (.s 60)),
 oo 4 (.mov (.s 58)),
 oo 5 (.mov (.s 61))])
 .ret)
def c35_1 : AC :=
 (.seq (.seq (.reg [oo 17 (.mov (.s 7)),
 oo 18 (.mov (.s 6)),
 oo 19 (.bin .lss (.s 17) (.s 18)),
 oo 20 (.mov (.s 19)),
 og 21 20 true (.mov (.s 1)),
 og 22 20 true (.mov (.s 7)),
 og 23 20 true (.bin .add (.s 21) (.s 22)),
 og 24 20 true (.mov (.s 0)),
 og 25 20 true (.len (.s 24)),
 og 26 20 true (.bin .lss (.s 23) (.s 25)),
 oo 27 (.pick (.s 20) (.s 26) (nB false))])
 (.cond (.s 27)
 .skip
 (.exit 0)))
 (.block 1
 (.seq (.reg [oo 28 (.mov (.s 0)),
 oo 29 (.mov (.s 1)),
 oo 30 (.mov (.s 7)),
 oo 31 (.bin .add (.s 29) (.s 30)),
 oo 32 (.idxA 1 (.s 28) (.s 31)),
 oo 33 (.load false 1 (.s 32)),
 oo 34 (.conv .i64 (.s 33)),
 oo 8 (.mov (.s 34))])
 (.seq (.seq (.reg [oo 35 (.mov (.s 7)),
 oo 36 (.bin .eql (.s 35) (nI 1)),
 oo 37 (.mov (.s 36)),
 og 38 37 true (.mov (.s 0)),
 og 39 37 true (.mov (.s 1)),
 og 40 37 true (.idxA 1 (.s 38) (.s 39)),
 og 41 37 true (.load false 1 (.s 40)),
 og 42 37 true (.conv .i64 (.s 41)),
 og 43 37 true (.mov (.s 8)),
 og 44 37 true (.call 40 [(.s 42), (.s 43)]),
 og 45 37 true (.un .not (.s 44)),
 oo 46 (.pick (.s 37) (.s 45) (nB false)),
 oo 47 (.mov (.s 46)),
 og 48 47 false (.mov (.s 8)),
 og 49 47 false (.bin .lss (.s 48) (nI 128)),
 oo 50 (.pick (.s 47) (nB true) (.s 49)),
 oo 51 (.mov (.s 50)),
 og 52 51 false (.mov (.s 8)),
 og 53 51 false (.bin .gtr (.s 52) (nI 191)),
 oo 54 (.pick (.s 51) (nB true) (.s 53))])
 (.cond (.s 54)
 (.seq (.reg [oo 55 (.mov (.s 7)),
 oo 4 (.mov (.s 55)),
 oo 5 (.mov (nB false))])
 .ret)
 .skip))
 (.reg [oo 56 (.mov (.s 7)),
 oo 57 (.bin .add (.s 56) (nI 1)),
 oo 7 (.mov (.s 57))])))))
def c35 : AC :=
 (.seq (.reg [oo 4 (.mov (nI 0)),
 oo 5 (.mov (nB false))])
 (.seq (.reg [oo 9 (.mov (.s 0)),
 oo 10 (.mov (.s 1)),
 oo 11 (.idxA 1 (.s 9) (.s 10)),
 oo 12 (.load false 1 (.s 11)),
 oo 13 (.conv .i64 (.s 12)),
 oo 14 (.call 36 [(.s 13)]),
 oo 6 (.mov (.s 14))])
 (.seq (.seq (.reg [oo 15 (.mov (.s 6)),
 oo 16 (.bin .eql (.s 15) (nI 0))])
 (.cond (.s 16)
 (.seq (.reg [oo 4 (.mov (nI 1)),
 oo 5 (.mov (nB false))])
 .ret)
 .skip))
 (.seq (.reg [oo 7 (.mov (nI 1))])
 (.seq (.block 0
 (.loop c35_1))
 c35_0)))))
theorem k35 : OkF 35 Tryd.f35 c35 [.t 4, .t 5] 62 := ⟨Tryd.func35, by kernel_rfl, by kernel_rfl, by kernel_rfl, Tryd.ntmps35⟩
/-! typecase/typecaseref02.rune1 -/
def c37_0 : AC :=
 (.seq (.reg [oo 39 (.mov (.s 3)),
 oo 40 (.conv .i32 (.s 39)),
 oo 2 (.mov (.s 40))])
 .ret)
def c37_1 : AC :=
 (.seq (.seq (.reg [oo 24 (.mov (.s 4)),
 oo 25 (.mov (.s 0)),
 oo 26 (.len (.s 25)),
 oo 27 (.bin .lss (.s 24) (.s 26))])
 (.cond (.s 27)
 .skip
 (.exit 0)))
 (.seq (.block 1
 (.reg [oo 30 (.mov (.s 3)),
 oo 31 (.bin .mul (.s 30) (nI 64)),
 oo 32 (.mov (.s 0)),
 oo 33 (.mov (.s 4)),
 oo 34 (.idxA 1 (.s 32) (.s 33)),
 oo 35 (.load false 1 (.s 34)),
 oo 36 (.conv .i64 (.s 35)),
 oo 37 (.bin .add (.s 31) (.s 36)),
 oo 38 (.bin .sub (.s 37) (nI 128)),
 oo 3 (.mov (.s 38))]))
 (.reg [oo 28 (.mov (.s 4)),
 oo 29 (.bin .add (.s 28) (nI 1)),
 oo 4 (.mov (.s 29))])))
def c37 : AC :=
 (.seq (.reg [oo 2 (.mov (.c (.pure (.int .i32 0))))])
 (.seq (.reg [oo 5 (.mov (.s 0)),
 oo 6 (.idxA 1 (.s 5) (nI 0)),
 oo 7 (.load false 1 (.s 6)),
 oo 8 (.conv .i64 (.s 7)),
 oo 3 (.mov (.s 8))])
 (.seq (.seq (.reg [oo 9 (.mov (.s 0)),
 oo 10 (.len (.s 9)),
 oo 11 (.bin .eql (.s 10) (nI 2))])
 (.cond (.s 11)
 (.reg [oo 12 (.mov (.s 3)),
 oo 13 (.bin .sub (.s 12) (nI 192)),
 oo 3 (.mov (.s 13))])
 .skip))
 (.seq (.seq (.reg [oo 14 (.mov (.s 0)),
 oo 15 (.len (.s 14)),
 oo 16 (.bin .eql (.s 15) (nI 3))])
 (.cond (.s 16)
 (.reg [oo 17 (.mov (.s 3)),
 oo 18 (.bin .sub (.s 17) (nI 224)),
 oo 3 (.mov (.s 18))])
 .skip))
 (.seq (.seq (.reg [oo 19 (.mov (.s 0)),
 oo 20 (.len (.s 19)),
 oo 21 (.bin .eql (.s 20) (nI 4))])
 (.cond (.s 21)
 (.reg [oo 22 (.mov (.s 3)),
 oo 23 (.bin .sub (.s 22) (nI 240)),
 oo 3 (.mov (.s 23))])
 .skip))
 (.seq (.seq (.reg [oo 4 (.mov (nI 1))])
 (.block 0
 (.loop c37_1)))
 c37_0))))))
theorem k37 : OkF 37 Tryd.f37 c37 [.t 2] 41 := ⟨Tryd.func37, by kernel_rfl, by kernel_rfl, by kernel_rfl, Tryd.ntmps37⟩
theorem long_q (c : Int) : FnQ Tryd.prog 36 [I c] [I (lng c)] := by
 refine k36.q (by simp) ?_
 unfold c36
 simp only [vmp,↓vmd,seval]
 by_cases h1 : c < 128
 ·have e : lng c = 1 := lng1 h1
  refine onB_pos h1 ?_
  simp only [h1, e, vmp,↓vmd,seval]
  exact gives_pure
 refine onB_neg h1 ?_
 simp only [h1, vmp,↓vmd,seval]
 by_cases h2 : c < 194
 ·have e : lng c = 0 := by rw [lng, if_neg h1, if_pos (.inl h2)]
  refine onB_pos h2 ?_
  simp only [h2, e, vmp,↓vmd,seval]
  exact gives_pure
 refine onB_neg h2 ?_
 simp only [h2, vmp,↓vmd,seval]
 by_cases h3 : 244 < c
 ·have e : lng c = 0 := by rw [lng, if_neg h1, if_pos (.inr h3)]
  refine onB_pos h3 ?_
  simp only [h3, e, vmp,↓vmd,seval]
  exact gives_pure
 refine onB_neg h3 ?_
 simp only [h3, vmp,↓vmd,seval]
 by_cases h4 : c < 224
 ·have e : lng c = 2 := by rw [lng, if_neg h1, if_neg (by omega), if_pos h4]
  refine onB_pos h4 ?_
  simp only [h4, e, vmp,↓vmd,seval]
  exact gives_pure
 refine onB_neg h4 ?_
 simp only [h4, vmp,↓vmd,seval]
 by_cases h5 : c < 240
 ·have e : lng c = 3 := by rw [lng, if_neg h1, if_neg (by omega), if_neg h4, if_pos h5]
  refine onB_pos h5 ?_
  simp only [h5, e, vmp,↓vmd,seval]
  exact gives_pure
 have e : lng c = 4 := by rw [lng, if_neg h1, if_neg (by omega), if_neg h4, if_neg h5]
 refine onB_neg h5 ?_
 simp only [h5, e, vmp,↓vmd,seval]
 exact gives_pure
theorem second_q (a c : Int) : FnQ Tryd.prog 40 [I a, I c] [.bool (decide (gd a 1 c))] := by
 refine k40.q (by simp) ?_
 unfold c40
 have fin : ∀ {l h : Int}, lo2 a = l → hi2 a = h → decide (gd a 1 c) = (decide (l ≤ c) && decide (c ≤ h)) := fun e1 e2 => by
  have := gd_one (a := a) (c := c)
  rw [e1, e2] at this
  simp [this]
 simp only [vmp,↓vmd,seval]
 rcases (show a = 224 ∨ a = 237 ∨ a = 240 ∨ a = 244 ∨ (a ≠ 224 ∧ a ≠ 237 ∧ a ≠ 240 ∧ a ≠ 244) by omega) with rfl | rfl | rfl | rfl | ⟨p1, p2, p3, p4⟩
 case' inr.inr.inr.inr => (
  have f := fin (l := 128) (h := 191) (by rw [lo2, if_neg p1, if_neg p3]) (by rw [hi2, if_neg p2, if_neg p4])
  refine onB_neg p1 ?_
  simp only [p1, vmp,↓vmd,seval]
  refine onB_neg p2 ?_
  simp only [p2, vmp,↓vmd,seval]
  refine onB_neg p3 ?_
  simp only [p3, vmp,↓vmd,seval]
  refine onB_neg p4 ?_
  simp only [p4, vmp,↓vmd,seval])
 case' inl => (
  have f := fin (l := 160) (h := 191) rfl rfl)
 case' inr.inl => (
  have f := fin (l := 128) (h := 159) rfl rfl)
 case' inr.inr.inl => (
  have f := fin (l := 144) (h := 191) rfl rfl)
 case' inr.inr.inr.inl => (
  have f := fin (l := 128) (h := 143) rfl rfl)
 all_goals (
  rw [f]
  try simp only [vmp,↓vmd,seval]
  refine onB_dec (fun g1 => ?_) (fun g1 => ?_)
  ·simp only [g1, vmp,↓vmd,seval]
   try exact gives_pure
  ·simp only [g1, vmp,↓vmd,seval]
   try exact gives_pure)
theorem hd_drop {b : List Int} {k : Nat} (h : k < b.length) : hd (b.drop k) = b[k] := by
 rw [List.drop_eq_getElem_cons h]
 rfl
theorem drop_ne {b : List Int} {k : Nat} (h : k < b.length) : b.drop k ≠ [] := by
 intro e
 have := congrArg List.length e
 simp at this
 omega
theorem stands_q (b : List Int) (t : Nat) (hb : Byt b) (ht : t < b.length) (hl : b.length ≤ 1000000) : FnQ Tryd.prog 35 [.sl (b.map B), I t] [I (st (b.drop t)), .bool (okB (b.drop t))] := by
 refine k35.q (by simp) ?_
 unfold c35
 have b0 := hb.at ht
 have m0 := map_at (f := B) ht
 have hd0 := hd_drop ht
 have hne := drop_ne ht
 have t0 : (0 : Int) ≤ (t : Int) := by omega
 have t1 : (t : Int) < (b.length : Int) := by omega
 have w0 : IntKind.wrap .i64 b[t] = b[t] := wrap_id (by omega) (by omega)
 simp only [m0, t0, t1, w0, vmp,↓vmd,seval]
 have es := st_drop hne
 have eo := ok_drop hne
 rw [hd0] at es eo
 have hdl : (b.drop t).length = b.length - t := List.length_drop
 generalize b[t] = a at *
 generalize hd' : b.drop t = d at *
 refine onC_q (long_q a) rfl ?_
 have l4 := lng_le (c := a)
 generalize lng a = L at *
 (first | apply envO | apply envQ); simp only [vmp,↓vmd,seval]; rfl
 simp only [vmp,↓vmd,seval]
 by_cases c0 : (L : Int) = 0
 ·have hL : L = 0 := by omega
  subst hL
  have e1 : st d = 1 := by rw [es]; cases d.drop 1 <;> simp [cnt]
  have e2 : okB d = false := by rw [eo]; cases d.drop 1 <;> simp [cnt]
  refine onB_pos c0 ?_
  simp only [e1, e2, vmp,↓vmd,seval]
  exact gives_tup rfl (by simp)
 refine onB_neg c0 ?_
 simp only [c0, vmp,↓vmd,seval]
 refine loop_at (T := Nat) (fun k => [(7, .pure (I k)), (6, .pure (I L)), (1, .pure (I t)), (0, .pure (.sl (b.map B)))]) (fun _ => []) (fun k => 1 ≤ k ∧ k ≤ L ∧ cnt a L k (d.drop k) = cnt a L 1 (d.drop 1)) (fun k => L - k)
  1 [] (by simp) rfl ⟨by omega, by omega, rfl⟩ (by simp only [kpp,seval]) (by simp only [kpp,seval]) ?_
 rintro k ⟨k1, kL, hc⟩
 unfold c35_1
 simp only [vmp,↓vmd,seval]
 by_cases c1 : (k : Int) < (L : Int)
 case' neg => (
  obtain rfl : k = L := by omega
  have ek : cnt a k k (d.drop k) = k := by
   by_cases hk : k < d.length
   ·rw [cnt_go hk, if_neg (by rintro ⟨h, _⟩; omega)]
   ·exact cnt_end (by omega)
  rw [ek] at hc
  rw [← hc] at es eo
  have eo' : okB d = true := by rw [eo]; simp
  refine onB_neg c1 ?_
  simp only [c1, vmp,↓vmd,seval]
  unfold c35_0
  simp only [es, eo', vmp,↓vmd,seval]
  exact gives_tup rfl (by simp))
 have ws : IntKind.wrap .i64 ((t : Int) + (k : Int)) = ((t + k : Nat) : Int) := by rw [wrap_id (by omega) (by omega)]; omega
 refine onB_pos c1 ?_
 simp only [c1, ws, vmp,↓vmd,seval]
 refine onIf_intro fun hlen => ?_
 simp only [c1, ws, vmp,↓vmd,seval]
 by_cases c2 : ((t + k : Nat) : Int) < (b.length : Int)
 case' neg => (
  rw [cnt_end (by omega)] at hc
  rw [← hc] at es eo
  have eo' : okB d = false := by rw [eo]; simp; omega
  have c1' : ¬ (k : Int) = (L : Int) := by omega
  refine onB_neg c2 ?_
  simp only [c2, vmp,↓vmd,seval]
  unfold c35_0
  simp only [c1', es, eo', vmp,↓vmd,seval]
  exact gives_tup rfl (by simp))
 have htk : t + k < b.length := by omega
 have hk : k < d.length := by omega
 have mk := map_at (f := B) htk
 have bk := hb.at htk
 have hcg := cnt_go (a := a) (L := L) hk
 have hdk : d[k] = b[t + k] := by subst hd'; rw [List.getElem_drop]
 rw [hdk] at hcg
 generalize b[t + k] = c at *
 have wc : IntKind.wrap .i64 c = c := wrap_id (by omega) (by omega)
 have tk0 : (0 : Int) ≤ ((t + k : Nat) : Int) := by omega
 have out : ¬ gd a k c → st d = k ∧ okB d = false := fun h => by
  rw [if_neg (by rintro ⟨_, g⟩; exact h g)] at hcg
  rw [es, eo, ← hc, hcg]
  exact ⟨rfl, by simp; omega⟩
 have nxt : gd a k c → cnt a L (k + 1) (d.drop (k + 1)) = cnt a L 1 (d.drop 1) := fun h => by
  rw [← hc, hcg, if_pos ⟨by omega, h⟩]
 refine onB_pos c2 ?_
 simp only [c2, ws, mk, wc, tk0, vmp,↓vmd,seval]
 by_cases c3 : (k : Int) = 1
 case' pos => (
  obtain rfl : k = 1 := by omega
  refine onB_pos c3 ?_
  simp only [c3, m0, t0, t1, w0, vmp,↓vmd,seval]
  refine onC_q (second_q a c) rfl ?_
  by_cases c4 : gd a 1 c
  case' neg => (
   obtain ⟨f1, f2⟩ := out c4
   rw [decide_eq_false c4]
   (first | apply envO | apply envQ); simp only [vmp,↓vmd,seval]; rfl
   simp only [vmp,↓vmd,seval]
   rw [f1, f2]
   exact gives_tup rfl (by simp))
  rw [decide_eq_true c4]
  (first | apply envO | apply envQ); simp only [vmp,↓vmd,seval]; rfl
  simp only [vmp,↓vmd,seval])
 case' neg => (
  refine onB_neg c3 ?_
  simp only [c3, m0, t0, t1, w0, vmp,↓vmd,seval]
  by_cases c4 : gd a k c
  case' neg => (
   obtain ⟨f1, f2⟩ := out c4
   rw [gd_up (by omega)] at c4
   refine onB_dec (fun c5 => ?_) (fun c5 => ?_)
   ·simp only [c5, f1, f2, vmp,↓vmd,seval]
    exact gives_tup rfl (by simp)
   ·have c6 : 191 < c := by omega
    simp only [c5, vmp,↓vmd,seval]
    refine onB_pos c6 ?_
    simp only [c6, f1, f2, vmp,↓vmd,seval]
    exact gives_tup rfl (by simp)))
 all_goals (
  have cin := gd_in c4
  have c5 : ¬ c < 128 := by omega
  have c6 : ¬ 191 < c := by omega
  refine onB_neg c5 ?_
  simp only [c5, vmp,↓vmd,seval]
  refine onB_neg c6 ?_
  simp only [c6, vmp,↓vmd,seval]
  have w2 : IntKind.wrap .i64 2 = 2 := by decide +kernel
  refine onBk_to _ [] (by simp) rfl (by omega) ⟨by omega, by omega, nxt c4⟩ (by simp only [w2, next_at hk (by omega), kpp,seval]) (by simp only [kpp,seval]))
/-- the number of the first bytes of a form, as it grows -/
def grow (a : Int) : List Int → Int
 | [] => a
 | c :: r => grow (a * 64 + c - 128) r
theorem grow_take {a : Int} {r : List Int} {k : Nat} (h : k < r.length) : grow a (r.take (k + 1)) = grow a (r.take k) * 64 + r[k] - 128 := by
 induction r generalizing a k with
 | nil => simp at h
 | cons c r ih =>
  cases k with
  | zero => simp [grow]
  | succ k =>
   simp only [List.take_succ_cons, grow, List.getElem_cons_succ]
   exact ih (by simpa using h)
def lead (a : Int) (L : Nat) : Int := if L = 2 then a - 192 else if L = 3 then a - 224 else if L = 4 then a - 240 else a
theorem val_grow {b : List Int} (h0 : 1 ≤ b.length) (h4 : b.length ≤ 4) : valF b = grow (lead (hd b) b.length) (b.drop 1) := by
 match b, h0, h4 with
 | [a], _, _ => rfl
 | [a, b], _, _ => rfl
 | [a, b, c], _, _ => rfl
 | [a, b, c, d], _, _ => rfl
theorem rune1_q (b : List Int) (hb : Byt b) (h0 : 1 ≤ b.length) (h4 : b.length ≤ 4) : FnQ Tryd.prog 37 [.sl (b.map B)] [R (valF b)] := by
 refine k37.q (by simp) ?_
 unfold c37
 have hlt : 0 < b.length := by omega
 have hlz : (0 : Int) < (b.length : Int) := by omega
 have m0 := map_at (f := B) hlt
 have b0 := hb.at hlt
 rw [hd_at hlt] at m0 b0
 have w0 : IntKind.wrap .i64 (hd b) = hd b := wrap_id (by omega) (by omega)
 simp only [hlz, m0, w0, vmp,↓vmd,seval]
 refine onIf_intro fun hlen => ?_
 simp only [vmp,↓vmd,seval]
 obtain ⟨G, hG⟩ : ∃ G, lead (hd b) b.length = G := ⟨_, rfl⟩
 have vg := val_grow h0 h4
 rw [hG] at vg
 have hGb : -255 ≤ G ∧ G ≤ 255 := by
  rw [← hG]
  unfold lead
  repeat' split
  all_goals omega
 have ld1 : b.length = 1 → hd b = G := fun h => by rw [← hG, h]; rfl
 have ld2 : b.length = 2 → IntKind.wrap .i64 (hd b - 192) = G := fun h => by rw [← hG, h, wrap_id (by omega) (by omega)]; rfl
 have ld3 : b.length = 3 → IntKind.wrap .i64 (hd b - 224) = G := fun h => by rw [← hG, h, wrap_id (by omega) (by omega)]; rfl
 have ld4 : b.length = 4 → IntKind.wrap .i64 (hd b - 240) = G := fun h => by rw [← hG, h, wrap_id (by omega) (by omega)]; rfl
 clear hG
 rcases (show b.length = 1 ∨ b.length = 2 ∨ b.length = 3 ∨ b.length = 4 by omega) with e | e | e | e
 case' inl => (
  have ld := ld1 e
  have t2 : ¬ (b.length : Int) = 2 := by omega
  have t3 : ¬ (b.length : Int) = 3 := by omega
  have t4 : ¬ (b.length : Int) = 4 := by omega
  refine onB_neg t2 ?_
  simp only [t2, vmp,↓vmd,seval]
  refine onIf_intro fun _ => ?_
  simp only [vmp,↓vmd,seval]
  refine onB_neg t3 ?_
  simp only [t3, vmp,↓vmd,seval]
  refine onIf_intro fun _ => ?_
  simp only [vmp,↓vmd,seval]
  refine onB_neg t4 ?_
  simp only [t4, ld, vmp,↓vmd,seval])
 case' inr.inl => (
  have ld := ld2 e
  have t2 : (b.length : Int) = 2 := by omega
  have t3 : ¬ (b.length : Int) = 3 := by omega
  have t4 : ¬ (b.length : Int) = 4 := by omega
  refine onB_pos t2 ?_
  simp only [ld, vmp,↓vmd,seval]
  refine onIf_intro fun _ => ?_
  simp only [vmp,↓vmd,seval]
  refine onB_neg t3 ?_
  simp only [t3, vmp,↓vmd,seval]
  refine onIf_intro fun _ => ?_
  simp only [vmp,↓vmd,seval]
  refine onB_neg t4 ?_
  simp only [t4, vmp,↓vmd,seval])
 case' inr.inr.inl => (
  have ld := ld3 e
  have t2 : ¬ (b.length : Int) = 2 := by omega
  have t3 : (b.length : Int) = 3 := by omega
  have t4 : ¬ (b.length : Int) = 4 := by omega
  refine onB_neg t2 ?_
  simp only [t2, vmp,↓vmd,seval]
  refine onIf_intro fun _ => ?_
  simp only [vmp,↓vmd,seval]
  refine onB_pos t3 ?_
  simp only [ld, vmp,↓vmd,seval]
  refine onIf_intro fun _ => ?_
  simp only [vmp,↓vmd,seval]
  refine onB_neg t4 ?_
  simp only [t4, vmp,↓vmd,seval])
 case' inr.inr.inr => (
  have ld := ld4 e
  have t2 : ¬ (b.length : Int) = 2 := by omega
  have t3 : ¬ (b.length : Int) = 3 := by omega
  have t4 : (b.length : Int) = 4 := by omega
  refine onB_neg t2 ?_
  simp only [t2, vmp,↓vmd,seval]
  refine onIf_intro fun _ => ?_
  simp only [vmp,↓vmd,seval]
  refine onB_neg t3 ?_
  simp only [t3, vmp,↓vmd,seval]
  refine onIf_intro fun _ => ?_
  simp only [vmp,↓vmd,seval]
  refine onB_pos t4 ?_
  simp only [ld, vmp,↓vmd,seval])
 all_goals (
  clear ld1 ld2 ld3 ld4 t2 t3 t4
  refine loop_at (T := Nat) (fun k => [(4, .pure (I (k + 1 : Nat))), (3, .pure (I (grow G ((b.drop 1).take k)))), (0, .pure (.sl (b.map B)))]) (fun _ => [])
   (fun k => k + 1 ≤ b.length ∧ (k = 0 → -255 ≤ grow G ((b.drop 1).take k) ∧ grow G ((b.drop 1).take k) ≤ 255) ∧ (k = 1 → -17000 ≤ grow G ((b.drop 1).take k) ∧ grow G ((b.drop 1).take k) ≤ 17000) ∧ (k = 2 → -1100000 ≤ grow G ((b.drop 1).take k) ∧ grow G ((b.drop 1).take k) ≤ 1100000) ∧ (k = 3 → -71000000 ≤ grow G ((b.drop 1).take k) ∧ grow G ((b.drop 1).take k) ≤ 71000000)) (fun k => b.length - k)
   0 [] (by simp) rfl ⟨by omega, fun _ => by simpa [grow] using hGb, by simp, by simp, by simp⟩ (by simp only [ld, show grow G ((b.drop 1).take 0) = G from rfl, kpp,seval]) (by simp only [kpp,seval]) ?_
  clear ld e
  rintro k ⟨hk, g0, g1, g2, g3⟩
  unfold c37_1
  simp only [vmp,↓vmd,seval]
  refine onIf_intro fun _ => ?_
  simp only [vmp,↓vmd,seval]
  by_cases c1 : ((k + 1 : Nat) : Int) < (b.length : Int)
  case' neg => (
   have ek : k = (b.drop 1).length := by simp; omega
   rw [ek, List.take_length, ← vg] at g0 g1 g2 g3 ⊢
   have hl : (b.drop 1).length = b.length - 1 := by simp
   have w : IntKind.wrap .i32 (valF b) = valF b := wi32_id (by omega) (by omega)
   rw [← ek]
   refine onB_neg c1 ?_
   simp only [c1, vmp,↓vmd,seval]
   unfold c37_0
   simp only [w, vmp,↓vmd,seval]
   exact gives_pure)
  have hk1 : k + 1 < b.length := by omega
  have mk := map_at (f := B) hk1
  have bk := hb.at hk1
  have hkd : k < (b.drop 1).length := by simp; omega
  have gt := grow_take (a := G) hkd
  have hdk : (b.drop 1)[k] = b[k + 1] := by rw [List.getElem_drop]; congr 1; omega
  rw [hdk] at gt
  have k10 : (0 : Int) ≤ ((k + 1 : Nat) : Int) := by omega
  generalize b[k + 1] = c at *
  generalize grow G ((b.drop 1).take k) = g at *
  have w1 : IntKind.wrap .i64 (g * 64) = g * 64 := wrap_id (by omega) (by omega)
  have w2 : IntKind.wrap .i64 c = c := wrap_id (by omega) (by omega)
  have w3 : IntKind.wrap .i64 (g * 64 + c) = g * 64 + c := wrap_id (by omega) (by omega)
  have w4 : IntKind.wrap .i64 (g * 64 + c - 128) = g * 64 + c - 128 := wrap_id (by omega) (by omega)
  refine onB_pos c1 ?_
  simp only [c1, mk, k10, w1, w2, w3, w4, vmp,↓vmd,seval]
  refine onBk_to (k + 1) [] (by simp) rfl (by omega) ⟨by omega, by omega, by omega, by omega, by omega⟩ (by simp only [next_at hk1 hlen, gt, kpp,seval]) (by simp only [kpp,seval]))
end Go.Proofs.YtcngcapbikfbnaaDoor.W
