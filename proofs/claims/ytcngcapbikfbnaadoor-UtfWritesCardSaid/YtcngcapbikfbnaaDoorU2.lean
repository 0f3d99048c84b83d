/-
  Texts: bytes put behind others; a text's bytes. No condition but on sizes.
-/
import Derived.Test.YtcngcapbikfbnaaDoorU1
namespace Go.Proofs.YtcngcapbikfbnaaDoor.W
open Go Go.Vm Go.Proofs
set_option maxRecDepth 100000
set_option linter.unusedSimpArgs false
set_option maxHeartbeats 1000000
/-! unicode/utf8.appendRuneNonASCII -/
def c38 : AC :=
 (.seq (.reg [oo 4 (.mov (.c .empty))])
 (.seq (.reg [oo 6 (.mov (.s 1)),
 oo 7 (.conv .u32 (.s 6)),
 oo 5 (.mov (.s 7))])
 (.block 0
 (.seq (.reg [oo 12 (.mov (.s 5)),
 oo 13 (.bin .leq (.s 12) (.c (.pure (.int .u32 2047)))),
 oo 11 (.mov (.s 13))])
 (.cond (.s 11)
 (.seq (.reg [oo 14 (.mov (.s 0)),
 oo 15 (.mov (.s 1)),
 oo 16 (.bin .shr (.s 15) (.c (.pure (.int .u64 6)))),
 oo 17 (.conv .u8 (.s 16)),
 oo 18 (.bin .or (.c (.pure (.int .u8 192))) (.s 17)),
 oo 19 (.mov (.s 1)),
 oo 20 (.conv .u8 (.s 19)),
 oo 21 (.bin .and (.s 20) (.c (.pure (.int .u8 63)))),
 oo 22 (.bin .or (.c (.pure (.int .u8 128))) (.s 21)),
 oo 23 (.bslice 1 [(.s 18), (.s 22)]),
 oo 24 (.app 1 1 (.s 14) (.s 23)),
 oo 4 (.mov (.s 24))])
 .ret)
 (.seq (.seq (.reg [oo 26 (.mov (.s 5)),
 oo 27 (.bin .lss (.s 26) (.c (.pure (.int .u32 55296)))),
 oo 25 (.mov (.s 27))])
 (.cond (.s 25)
 .skip
 (.reg [oo 28 (.mov (.s 5)),
 oo 29 (.bin .lss (.c (.pure (.int .u32 57343))) (.s 28)),
 oo 30 (.mov (.s 29)),
 og 31 30 true (.mov (.s 5)),
 og 32 30 true (.bin .leq (.s 31) (.c (.pure (.int .u32 65535)))),
 oo 33 (.pick (.s 30) (.s 32) (nB false)),
 oo 25 (.mov (.s 33))])))
 (.cond (.s 25)
 (.seq (.reg [oo 34 (.mov (.s 0)),
 oo 35 (.mov (.s 1)),
 oo 36 (.bin .shr (.s 35) (.c (.pure (.int .u64 12)))),
 oo 37 (.conv .u8 (.s 36)),
 oo 38 (.bin .or (.c (.pure (.int .u8 224))) (.s 37)),
 oo 39 (.mov (.s 1)),
 oo 40 (.bin .shr (.s 39) (.c (.pure (.int .u64 6)))),
 oo 41 (.conv .u8 (.s 40)),
 oo 42 (.bin .and (.s 41) (.c (.pure (.int .u8 63)))),
 oo 43 (.bin .or (.c (.pure (.int .u8 128))) (.s 42)),
 oo 44 (.mov (.s 1)),
 oo 45 (.conv .u8 (.s 44)),
 oo 46 (.bin .and (.s 45) (.c (.pure (.int .u8 63)))),
 oo 47 (.bin .or (.c (.pure (.int .u8 128))) (.s 46)),
 oo 48 (.bslice 1 [(.s 38), (.s 43), (.s 47)]),
 oo 49 (.app 1 1 (.s 34) (.s 48)),
 oo 4 (.mov (.s 49))])
 .ret)
 (.seq (.reg [oo 51 (.mov (.s 5)),
 oo 52 (.bin .gtr (.s 51) (.c (.pure (.int .u32 65535)))),
 oo 53 (.mov (.s 52)),
 og 54 53 true (.mov (.s 5)),
 og 55 53 true (.bin .leq (.s 54) (.c (.pure (.int .u32 1114111)))),
 oo 56 (.pick (.s 53) (.s 55) (nB false)),
 oo 50 (.mov (.s 56))])
 (.cond (.s 50)
 (.seq (.reg [oo 57 (.mov (.s 0)),
 oo 58 (.mov (.s 1)),
 oo 59 (.bin .shr (.s 58) (.c (.pure (.int .u64 18)))),
 oo 60 (.conv .u8 (.s 59)),
 oo 61 (.bin .or (.c (.pure (.int .u8 240))) (.s 60)),
 oo 62 (.mov (.s 1)),
 oo 63 (.bin .shr (.s 62) (.c (.pure (.int .u64 12)))),
 oo 64 (.conv .u8 (.s 63)),
 oo 65 (.bin .and (.s 64) (.c (.pure (.int .u8 63)))),
 oo 66 (.bin .or (.c (.pure (.int .u8 128))) (.s 65)),
 oo 67 (.mov (.s 1)),
 oo 68 (.bin .shr (.s 67) (.c (.pure (.int .u64 6)))),
 oo 69 (.conv .u8 (.s 68)),
 oo 70 (.bin .and (.s 69) (.c (.pure (.int .u8 63)))),
 oo 71 (.bin .or (.c (.pure (.int .u8 128))) (.s 70)),
 oo 72 (.mov (.s 1)),
 oo 73 (.conv .u8 (.s 72)),
 oo 74 (.bin .and (.s 73) (.c (.pure (.int .u8 63)))),
 oo 75 (.bin .or (.c (.pure (.int .u8 128))) (.s 74)),
 oo 76 (.bslice 1 [(.s 61), (.s 66), (.s 71), (.s 75)]),
 oo 77 (.app 1 1 (.s 57) (.s 76)),
 oo 4 (.mov (.s 77))])
 .ret)
 (.seq (.reg [oo 8 (.mov (.s 0)),
 oo 9 (.bslice 1 [(.c (.pure (.int .u8 239))), (.c (.pure (.int .u8 191))), (.c (.pure (.int .u8 189)))]),
 oo 10 (.app 1 1 (.s 8) (.s 9)),
 oo 4 (.mov (.s 10))])
 .ret))))))))))
theorem k38 : OkF 38 Tryd.f38 c38 [.t 4] 78 := ⟨Tryd.func38, by kernel_rfl, by kernel_rfl, by kernel_rfl, Tryd.ntmps38⟩
/-! unicode/utf8.AppendRune -/
def c28 : AC :=
 (.seq (.reg [oo 4 (.mov (.c .empty))])
 (.seq (.seq (.reg [oo 5 (.mov (.s 1)),
 oo 6 (.conv .u32 (.s 5)),
 oo 7 (.bin .leq (.s 6) (.c (.pure (.int .u32 127))))])
 (.cond (.s 7)
 (.seq (.reg [oo 8 (.mov (.s 0)),
 oo 9 (.mov (.s 1)),
 oo 10 (.conv .u8 (.s 9)),
 oo 11 (.bslice 1 [(.s 10)]),
 oo 12 (.app 1 1 (.s 8) (.s 11)),
 oo 4 (.mov (.s 12))])
 .ret)
 .skip))
 (.seq (.reg [oo 13 (.mov (.s 0)),
 oo 14 (.mov (.s 1)),
 oo 15 (.call 38 [(.s 13), (.s 14)]),
 oo 4 (.mov (.s 15))])
 .ret)))
theorem k28 : OkF 28 Tryd.f28 c28 [.t 4] 16 := ⟨Tryd.func28, by kernel_rfl, by kernel_rfl, by kernel_rfl, Tryd.ntmps28⟩
/-! typecase/utf.Encode -/
def c10_0 : AC :=
 (.seq (.reg [oo 20 (.mov (.s 4)),
 oo 2 (.mov (.s 20)),
 oo 3 (.mov (nI 0))])
 .ret)
def c10_1 : AC :=
 (.seq (.reg [oo 13 (.bin .lss (.s 12) (.s 11))])
 (.seq (.cond (.s 13)
 .skip
 (.exit 0))
 (.seq (.block 1
 (.seq (.reg [oo 14 (.idxA 1 (.s 10) (.s 12)),
 oo 15 (.load false 1 (.s 14)),
 oo 6 (.mov (.s 15))])
 (.reg [oo 16 (.mov (.s 4)),
 oo 17 (.mov (.s 6)),
 oo 18 (.call 28 [(.s 16), (.s 17)]),
 oo 4 (.mov (.s 18))])))
 (.reg [oo 19 (.bin .add (.s 12) (nI 1)),
 oo 12 (.mov (.s 19))]))))
def c10 : AC :=
 (.seq (.reg [oo 2 (.mov (.c .empty)),
 oo 3 (.mov (nI 0))])
 (.seq (.seq (.reg [oo 7 (.mov (.s 0)),
 oo 8 (.call 14 [(.s 7)]),
 oo 9 (.un .not (.s 8))])
 (.cond (.s 9)
 (.seq (.reg [oo 2 (.mov (.c .empty)),
 oo 3 (.mov (nI 13))])
 .ret)
 .skip))
 (.seq (.reg [oo 4 (.mov (.c .empty))])
 (.seq (.seq (.reg [oo 10 (.mov (.s 0)),
 oo 11 (.len (.s 10)),
 oo 12 (.mov (nI 0))])
 (.block 0
 (.loop c10_1)))
 c10_0))))
theorem k10 : OkF 10 Tryd.f10 c10 [.t 2, .t 3] 21 := ⟨Tryd.func10, by kernel_rfl, by kernel_rfl, by kernel_rfl, Tryd.ntmps10⟩
/-! typecase/typecaseref02.Encode -/
def c11_0 : AC :=
 (.seq (.reg [oo 35 (.mov (.s 4)),
 oo 2 (.mov (.s 35)),
 oo 3 (.mov (nI 0))])
 .ret)
def c11_1 : AC :=
 (.reg [oo 15 (.mov (.s 5)),
 oo 16 (.bin .add (.s 15) (nI 1)),
 oo 5 (.mov (.s 16))])
def c11_2 : AC :=
 (.seq (.seq (.reg [oo 22 (.mov (.s 7)),
 oo 23 (.mov (.s 6)),
 oo 24 (.len (.s 23)),
 oo 25 (.bin .lss (.s 22) (.s 24))])
 (.cond (.s 25)
 .skip
 (.exit 2)))
 (.seq (.block 3
 (.reg [oo 28 (.mov (.s 4)),
 oo 29 (.mov (.s 6)),
 oo 30 (.mov (.s 7)),
 oo 31 (.idxA 1 (.s 29) (.s 30)),
 oo 32 (.load false 1 (.s 31)),
 oo 33 (.bslice 1 [(.s 32)]),
 oo 34 (.app 1 1 (.s 28) (.s 33)),
 oo 4 (.mov (.s 34))]))
 (.reg [oo 26 (.mov (.s 7)),
 oo 27 (.bin .add (.s 26) (nI 1)),
 oo 7 (.mov (.s 27))])))
def c11_3 : AC :=
 (.seq (.seq (.reg [oo 11 (.mov (.s 5)),
 oo 12 (.mov (.s 0)),
 oo 13 (.len (.s 12)),
 oo 14 (.bin .lss (.s 11) (.s 13))])
 (.cond (.s 14)
 .skip
 (.exit 0)))
 (.seq (.block 1
 (.seq (.reg [oo 17 (.mov (.s 0)),
 oo 18 (.mov (.s 5)),
 oo 19 (.idxA 1 (.s 17) (.s 18)),
 oo 20 (.load false 1 (.s 19)),
 oo 21 (.call 29 [(.s 20)]),
 oo 6 (.mov (.s 21))])
 (.seq (.reg [oo 7 (.mov (nI 0))])
 (.block 2
 (.loop c11_2)))))
 c11_1))
def c11 : AC :=
 (.seq (.reg [oo 2 (.mov (.c .empty)),
 oo 3 (.mov (nI 0))])
 (.seq (.seq (.reg [oo 8 (.mov (.s 0)),
 oo 9 (.call 15 [(.s 8)]),
 oo 10 (.un .not (.s 9))])
 (.cond (.s 10)
 (.seq (.reg [oo 2 (.mov (.c .empty)),
 oo 3 (.mov (nI 13))])
 .ret)
 .skip))
 (.seq (.reg [oo 4 (.mov (.c .empty))])
 (.seq (.seq (.reg [oo 5 (.mov (nI 0))])
 (.block 0
 (.loop c11_3)))
 c11_0))))
theorem k11 : OkF 11 Tryd.f11 c11 [.t 2, .t 3] 36 := ⟨Tryd.func11, by kernel_rfl, by kernel_rfl, by kernel_rfl, Tryd.ntmps11⟩
abbrev rB (X : List Int) : Row := ⟨(X.map B).map .pure, 1, .live⟩
theorem row_push {α : Type} {f : α → V} {X : List α} {a : α} : (X.map f).map S.pure ++ [.pure (f a)] = ((X ++ [a]).map f).map S.pure := by simp
theorem na_c (X : List Int) (r : Int) (h : rightF r = true) (h4 : ¬ r < 128) (hX : X.length ≤ 10000) : CallA Tryd.prog 38 [.rsl 0 0 X.length, .pure (R r)] [rB X]
  fun s H' => s = .rsl 1 0 (X ++ formF r).length ∧ H' = [⟨[], 1, .dead⟩, rB (X ++ formF r)] := by
 refine CallA.weak (K := fun s H' => s = .rsl 2 0 (X ++ formF r).length ∧ ∃ q, H' = [⟨[], 1, .dead⟩, q, rB (X ++ formF r)]) ?_ ?_
 ·refine k38.a (by simp) ?_
  unfold c38
  obtain ⟨h1, h2, h3⟩ := right_iff.1 h
  have w0 := wu32_id h1 (by omega)
  have s6 : Int.fdiv r (2 ^ min 6 (IntKind.bits .i32)) = r / 64 := by rw [show min 6 (IntKind.bits .i32) = 6 from rfl, shr_div]; rfl
  have s12 : Int.fdiv r (2 ^ min 12 (IntKind.bits .i32)) = r / 4096 := by rw [show min 12 (IntKind.bits .i32) = 12 from rfl, shr_div]; rfl
  have s18 : Int.fdiv r (2 ^ min 18 (IntKind.bits .i32)) = r / 262144 := by rw [show min 18 (IntKind.bits .i32) = 18 from rfl, shr_div]; rfl
  have v0 : IntKind.wrap .u8 r = r % 256 := wu8 h1
  have v6 : IntKind.wrap .u8 (r / 64) = r / 64 % 256 := wu8 (by omega)
  have v12 : IntKind.wrap .u8 (r / 4096) = r / 4096 % 256 := wu8 (by omega)
  have v18 : IntKind.wrap .u8 (r / 262144) = r / 262144 := wu8_id (by omega) (by omega)
  have a0 : IntKind.wrap .u8 ((BitVec.ofInt (IntKind.bits .u8) (r % 256) &&& BitVec.ofInt (IntKind.bits .u8) 63).toNat : Int) = r % 64 := by rw [and63 (by omega) (by omega)]; omega
  have a6 : IntKind.wrap .u8 ((BitVec.ofInt (IntKind.bits .u8) (r / 64 % 256) &&& BitVec.ofInt (IntKind.bits .u8) 63).toNat : Int) = r / 64 % 64 := by rw [and63 (by omega) (by omega)]; omega
  have a12 : IntKind.wrap .u8 ((BitVec.ofInt (IntKind.bits .u8) (r / 4096 % 256) &&& BitVec.ofInt (IntKind.bits .u8) 63).toNat : Int) = r / 4096 % 64 := by rw [and63 (by omega) (by omega)]; omega
  have o0 := or128 (z := r % 64) (by omega) (by omega)
  have o6 := or128 (z := r / 64 % 64) (by omega) (by omega)
  have o12 := or128 (z := r / 4096 % 64) (by omega) (by omega)
  simp only [w0, vmp,↓vmd,seval]
  by_cases h5 : r ≤ 2047
  ·have e : formF r = [192 + r / 64, 128 + r % 64] := by rw [formF, if_neg h4, if_pos (by omega)]
   have v6' : IntKind.wrap .u8 (r / 64) = r / 64 := wu8_id (by omega) (by omega)
   have o := or192 (z := r / 64) (by omega) (by omega)
   refine onB_pos h5 ?_
   simp only [h5, s6, v0, v6', a0, o, o0, vmp,↓vmd,seval]
   refine onIf'_intro (appOk_map (f := B) (X := [192 + r / 64, 128 + r % 64]) (fun _ => rfl) rfl (by omega) (by simp; omega) (by simp [maxLen]; omega)) ?_
   simp only [vmp,↓vmd,seval]
   exact ⟨by rw [e]; simp, _, by rw [e]; exact congrArg (fun z => [(⟨[], 1, .dead⟩ : Row), _, ⟨z, 1, .live⟩]) (by simp)⟩
  refine onB_neg h5 ?_
  simp only [h5, vmp,↓vmd,seval]
  by_cases h6 : r < 65536
  ·have e : formF r = [224 + r / 4096, 128 + r / 64 % 64, 128 + r % 64] := by rw [formF, if_neg h4, if_neg (by omega), if_pos h6]
   have v12' : IntKind.wrap .u8 (r / 4096) = r / 4096 := wu8_id (by omega) (by omega)
   have o := or224 (z := r / 4096) (by omega) (by omega)
   have h6' : r ≤ 65535 := by omega
   by_cases h7 : r < 55296
   case' pos => (
    refine onB_pos h7 ?_
    simp only [h7, s6, s12, v0, v6, v12', a0, a6, o, o0, o6, vmp,↓vmd,seval])
   case' neg => (
    have h8 : 57343 < r := by omega
    refine onB_neg h7 ?_
    simp only [h7, vmp,↓vmd,seval]
    refine onB_pos h8 ?_
    simp only [h8, h6', s6, s12, v0, v6, v12', a0, a6, o, o0, o6, vmp,↓vmd,seval]
    try refine onB_pos h6' ?_
    try simp only [h8, h6', s6, s12, v0, v6, v12', a0, a6, o, o0, o6, vmp,↓vmd,seval])
   all_goals (
    refine onIf'_intro (appOk_map (f := B) (X := [224 + r / 4096, 128 + r / 64 % 64, 128 + r % 64]) (fun _ => rfl) rfl (by omega) (by simp; omega) (by simp [maxLen]; omega)) ?_
    simp only [vmp,↓vmd,seval]
    exact ⟨by rw [e]; simp, _, by rw [e]; exact congrArg (fun z => [(⟨[], 1, .dead⟩ : Row), _, ⟨z, 1, .live⟩]) (by simp)⟩)
  have e : formF r = [240 + r / 262144, 128 + r / 4096 % 64, 128 + r / 64 % 64, 128 + r % 64] := by rw [formF, if_neg h4, if_neg (by omega), if_neg h6]
  have o := or240 (z := r / 262144) (by omega) (by omega)
  have h7 : ¬ r < 55296 := by omega
  have h8 : 57343 < r := by omega
  have h9 : ¬ r ≤ 65535 := by omega
  have h10 : 65535 < r := by omega
  refine onB_neg h7 ?_
  simp only [h7, vmp,↓vmd,seval]
  refine onB_pos h8 ?_
  simp only [h8, h9, h10, h2, s6, s12, s18, v0, v6, v12, v18, a0, a6, a12, o, o0, o6, o12, vmp,↓vmd,seval]
  refine onIf'_intro (appOk_map (f := B) (X := [240 + r / 262144, 128 + r / 4096 % 64, 128 + r / 64 % 64, 128 + r % 64]) (fun _ => rfl) rfl (by omega) (by simp; omega) (by simp [maxLen]; omega)) ?_
  simp only [vmp,↓vmd,seval]
  exact ⟨by rw [e]; simp, _, by rw [e]; exact congrArg (fun z => [(⟨[], 1, .dead⟩ : Row), _, ⟨z, 1, .live⟩]) (by simp)⟩
 ·rintro s H' ⟨rfl, q, rfl⟩
  exact ⟨[0, 2], .rsl 1 0 _, _, by simp, rfl, (by simp only [kpp,seval]), (by simp only [kpp,seval]), rfl, rfl⟩
theorem ar_c (X : List Int) (r : Int) (h : rightF r = true) (hX : X.length ≤ 10000) : CallA Tryd.prog 28 [.rsl 0 0 X.length, .pure (R r)] [rB X]
  fun s H' => s = .rsl 1 0 (X ++ formF r).length ∧ H' = [⟨[], 1, .dead⟩, rB (X ++ formF r)] := by
 obtain ⟨h1, h2, h3⟩ := right_iff.1 h
 have w0 := wu32_id h1 (by omega)
 by_cases h4 : r < 128
 ·refine CallA.weak (K := fun s H' => s = .rsl 2 0 (X ++ formF r).length ∧ ∃ q, H' = [⟨[], 1, .dead⟩, q, rB (X ++ formF r)]) ?_ ?_
  ·refine k28.a (by simp) ?_
   unfold c28
   have e : formF r = [r] := by rw [formF, if_pos h4]
   have v0 : IntKind.wrap .u8 r = r := wu8_id h1 (by omega)
   have h5 : r ≤ 127 := by omega
   simp only [w0, vmp,↓vmd,seval]
   refine onB_pos h5 ?_
   simp only [h5, v0, vmp,↓vmd,seval]
   refine onIf'_intro (appOk_map (f := B) (X := [r]) (fun _ => rfl) rfl (by omega) (by simp; omega) (by simp [maxLen]; omega)) ?_
   simp only [vmp,↓vmd,seval]
   exact ⟨by rw [e]; simp, _, by rw [e]; exact congrArg (fun z => [(⟨[], 1, .dead⟩ : Row), _, ⟨z, 1, .live⟩]) (by simp)⟩
  ·rintro s H' ⟨rfl, q, rfl⟩
   exact ⟨[0, 2], .rsl 1 0 _, _, by simp, rfl, (by simp only [kpp,seval]), (by simp only [kpp,seval]), rfl, rfl⟩
 ·refine k28.a (by simp) ?_
  unfold c28
  have h5 : ¬ r ≤ 127 := by omega
  simp only [w0, vmp,↓vmd,seval]
  refine onB_neg h5 ?_
  simp only [h5, vmp,↓vmd,seval]
  refine onC_fr (na_c X r h h4 hX) [0] (by simp) (by simp only [kpp,seval]) rfl rfl (by simp) ?_
  simp only [vmp,↓vmd,seval]
theorem right_at {t : List Int} (h : t.all rightF = true) {k : Nat} (hk : k < t.length) : rightF t[k] = true := List.all_eq_true.1 h _ (List.getElem_mem hk)
theorem encK_len {t : List Int} {k : Nat} : (encF (t.take k)).length ≤ 4 * t.length := by
 have := encF_len (t.take k)
 have : (t.take k).length ≤ t.length := by simp; omega
 omega
/-- what an encoding answers -/
def encR (t : List Int) : List Int × Int := if t.all rightF = true then (encF t, 0) else ([], 13)
theorem enc_q (t : List Int) (ht : t.length ≤ 1000) : FnQ Tryd.prog 10 [.sl (t.map R)] [.sl ((encR t).1.map B), I (encR t).2] := by
 refine k10.q (by simp) ?_
 unfold c10
 simp only [vmp,↓vmd,seval]
 refine onC_q (rights_q t) rfl ?_
 cases ha : t.all rightF
 ·have e : encR t = ([], 13) := by simp [encR, ha]
  (first | apply envO | apply envQ); simp only [vmp,↓vmd,seval]; rfl
  simp only [e, vmp,↓vmd,seval]
  exact gives_tup rfl (by simp)
 have e : encR t = (encF t, 0) := by simp [encR, ha]
 (first | apply envO | apply envQ); simp only [vmp,↓vmd,seval]; rfl
 simp only [vmp,↓vmd,seval]
 refine onIf_intro fun hlen => ?_
 simp only [vmp,↓vmd,seval]
 refine loop_virt 4 1 rfl (by simp) ?_
 refine loop_at (T := Nat) (fun k => [(12, .pure (I k)), (11, .pure (I t.length)), (10, .pure (.sl (t.map R))), (4, .rsl 0 0 (encF (t.take k)).length)]) (fun k => [rB (encF (t.take k))]) (fun k => k ≤ t.length) (fun k => t.length - k)
  0 [0] (by simp) rfl (by simp) (by simp only [show encF (t.take 0) = [] from rfl, kpp,seval]) (by simp only [show encF (t.take 0) = [] from rfl, kpp,seval]) ?_
 intro k hk
 unfold c10_1
 simp only [vmp,↓vmd,seval]
 by_cases h1 : (k : Int) < (t.length : Int)
 ·have hlt : k < t.length := by omega
  have hl := encK_len (t := t) (k := k)
  have hs := encF_snoc hlt
  refine onB_pos h1 ?_
  simp only [h1, map_at hlt, Int.natCast_nonneg, vmp,↓vmd,seval]
  refine onC_fr (ar_c (encF (t.take k)) t[k] (right_at ha hlt) (by omega)) [0] (by simp) (by simp only [kpp,seval]) rfl rfl (by simp) ?_
  rw [← hs]
  (first | apply envO | apply envQ); simp only [vmp,↓vmd,seval]; rfl
  simp only [vmp,↓vmd,seval]
  refine onBk_to (k + 1) [1] (by simp) rfl (by omega) hlt (by simp only [next_at hlt hlen, kpp,seval]) (by simp only [kpp,seval])
 ·refine onB_neg h1 ?_
  obtain rfl : k = t.length := by omega
  simp only [h1, vmp,↓vmd,seval]
  unfold c10_0
  simp only [e, vmp,↓vmd,seval]
  rw [List.take_length]
  exact gives_tup (toVs_of (toV_row (f := B) rfl (.inr ⟨rfl, rfl⟩)) rfl) (by simp)
theorem renc_q (t : List Int) (ht : t.length ≤ 1000) : FnQ Tryd.prog 11 [.sl (t.map R)] [.sl ((encR t).1.map B), I (encR t).2] := by
 refine k11.q (by simp) ?_
 unfold c11
 simp only [vmp,↓vmd,seval]
 refine onC_q (rrights_q t) rfl ?_
 cases ha : t.all rightF
 ·have e : encR t = ([], 13) := by simp [encR, ha]
  (first | apply envO | apply envQ); simp only [vmp,↓vmd,seval]; rfl
  simp only [e, vmp,↓vmd,seval]
  exact gives_tup rfl (by simp)
 have e : encR t = (encF t, 0) := by simp [encR, ha]
 (first | apply envO | apply envQ); simp only [vmp,↓vmd,seval]; rfl
 simp only [vmp,↓vmd,seval]
 refine loop_virt 4 1 rfl (by simp) ?_
 refine loop_at (T := Nat) (fun k => [(5, .pure (I k)), (0, .pure (.sl (t.map R))), (4, .rsl 0 0 (encF (t.take k)).length)]) (fun k => [rB (encF (t.take k))]) (fun k => k ≤ t.length) (fun k => t.length - k)
  0 [0] (by simp) rfl (by simp) (by simp only [show encF (t.take 0) = [] from rfl, kpp,seval]) (by simp only [show encF (t.take 0) = [] from rfl, kpp,seval]) ?_
 intro k hk
 unfold c11_3
 simp only [vmp,↓vmd,seval]
 refine onIf_intro fun hlen => ?_
 simp only [vmp,↓vmd,seval]
 by_cases h1 : (k : Int) < (t.length : Int)
 ·have hlt : k < t.length := by omega
  have hlen' : t.length ≤ 9223372036854775807 := by simpa using hlen
  have hl := encK_len (t := t) (k := k)
  have hs := encF_snoc hlt
  refine onB_pos h1 ?_
  simp only [h1, map_at hlt, Int.natCast_nonneg, vmp,↓vmd,seval]
  refine onC_q (form_q _ (right_at ha hlt)) rfl ?_
  obtain ⟨f, hf⟩ : ∃ f, formF t[k] = f := ⟨_, rfl⟩
  have hf4 : f.length ≤ 4 := by rw [← hf]; exact form_len.2
  rw [hf] at hs ⊢
  (first | apply envO | apply envQ); simp only [vmp,↓vmd,seval]; rfl
  simp only [vmp,↓vmd,seval]
  refine loop_at (T := Nat) (fun m => [(7, .pure (I m)), (6, .pure (.sl (f.map B))), (5, .pure (I k)), (0, .pure (.sl (t.map R))), (4, .rsl 0 0 (encF (t.take k) ++ f.take m).length)]) (fun m => [rB (encF (t.take k) ++ f.take m)]) (fun m => m ≤ f.length) (fun m => f.length - m)
   0 [0] (by simp) rfl (by simp) (by simp only [List.take_zero, List.append_nil, kpp,seval]) (by simp only [List.take_zero, List.append_nil, kpp,seval]) ?_
  intro m hm
  unfold c11_2
  simp only [vmp,↓vmd,seval]
  refine onIf_intro fun hlen2 => ?_
  simp only [vmp,↓vmd,seval]
  by_cases h2 : (m : Int) < (f.length : Int)
  ·have hlt2 : m < f.length := by omega
   have hlen2' : f.length ≤ 9223372036854775807 := by omega
   have hts : f.take (m + 1) = f.take m ++ [f[m]] := List.take_succ_eq_append_getElem hlt2
   have hml : (encF (t.take k) ++ f.take m).length ≤ 5000 := by
    rw [List.length_append]
    have : (f.take m).length ≤ f.length := by simp; omega
    omega
   refine onB_pos h2 ?_
   simp only [h2, map_at hlt2, Int.natCast_nonneg, vmp,↓vmd,seval]
   refine onIf'_intro (appOk_one rfl rfl (by omega) (by omega) (by simp only [maxLen]; omega)) ?_
   have hap : ((encF (t.take k) ++ f.take m).map B).map S.pure ++ [.pure (B f[m])] = ((encF (t.take k) ++ f.take (m + 1)).map B).map S.pure  := by rw [hts, ← List.append_assoc]; exact row_push
   have hal : (encF (t.take k) ++ f.take (m + 1)).length = (encF (t.take k) ++ f.take m).length + 1 := by rw [hts, ← List.append_assoc, List.length_append]; rfl
   rw [hap]
   simp only [vmp,↓vmd,seval]
   refine onBk_to (m + 1) [2] (by simp) rfl (by omega) hlt2 (by simp only [next_at hlt2 hlen2', hal, kpp,seval]) (by simp only [kpp,seval])
  ·refine onB_neg h2 ?_
   obtain rfl : m = f.length := by omega
   simp only [h2, vmp,↓vmd,seval]
   unfold c11_1
   rw [List.take_length, ← hs]
   simp only [vmp,↓vmd,seval]
   refine onBk_to (k + 1) [0] (by simp) rfl (by omega) hlt (by simp only [next_at hlt hlen', kpp,seval]) (by simp only [kpp,seval])
 ·refine onB_neg h1 ?_
  obtain rfl : k = t.length := by omega
  simp only [h1, vmp,↓vmd,seval]
  unfold c11_0
  simp only [e, vmp,↓vmd,seval]
  rw [List.take_length]
  exact gives_tup (toVs_of (toV_row (f := B) rfl (.inr ⟨rfl, rfl⟩)) rfl) (by simp)
end Go.Proofs.YtcngcapbikfbnaaDoor.W
