/-
  Texts: units. No condition but on sizes.
-/
import Derived.Test.YtcngcapbikfbnaaDoorU2
namespace Go.Proofs.YtcngcapbikfbnaaDoor.W
open Go Go.Vm Go.Proofs
set_option maxRecDepth 100000
set_option linter.unusedSimpArgs false
set_option maxHeartbeats 1000000
/-! typecase/utf.Units -/
def c12_0 : AC :=
 (.seq (.reg [oo 37 (.mov (.s 4)),
 oo 2 (.mov (.s 37)),
 oo 3 (.mov (nI 0))])
 .ret)
def c12_1 : AC :=
 (.seq (.reg [oo 13 (.bin .lss (.s 12) (.s 11))])
 (.seq (.cond (.s 13)
 .skip
 (.exit 0))
 (.seq (.block 1
 (.seq (.reg [oo 14 (.idxA 1 (.s 10) (.s 12)),
 oo 15 (.load false 1 (.s 14)),
 oo 6 (.mov (.s 15))])
 (.seq (.seq (.reg [oo 16 (.mov (.s 6)),
 oo 17 (.bin .lss (.s 16) (.c (.pure (.int .i32 65536))))])
 (.cond (.s 17)
 (.seq (.reg [oo 18 (.mov (.s 4)),
 oo 19 (.mov (.s 6)),
 oo 20 (.conv .u16 (.s 19)),
 oo 21 (.bslice 1 [(.s 20)]),
 oo 22 (.app 1 2 (.s 18) (.s 21)),
 oo 4 (.mov (.s 22))])
 (.exit 1))
 .skip))
 (.seq (.reg [oo 23 (.mov (.s 6)),
 oo 24 (.bin .sub (.s 23) (.c (.pure (.int .i32 65536)))),
 oo 6 (.mov (.s 24))])
 (.reg [oo 25 (.mov (.s 4)),
 oo 26 (.mov (.s 6)),
 oo 27 (.bin .shr (.s 26) (.c (.pure (.int .u64 10)))),
 oo 28 (.bin .add (.c (.pure (.int .i32 55296))) (.s 27)),
 oo 29 (.conv .u16 (.s 28)),
 oo 30 (.mov (.s 6)),
 oo 31 (.bin .and (.s 30) (.c (.pure (.int .i32 1023)))),
 oo 32 (.bin .add (.c (.pure (.int .i32 56320))) (.s 31)),
 oo 33 (.conv .u16 (.s 32)),
 oo 34 (.bslice 1 [(.s 29), (.s 33)]),
 oo 35 (.app 1 2 (.s 25) (.s 34)),
 oo 4 (.mov (.s 35))])))))
 (.reg [oo 36 (.bin .add (.s 12) (nI 1)),
 oo 12 (.mov (.s 36))]))))
def c12 : AC :=
 (.seq (.reg [oo 2 (.mov (.c .empty)),
 oo 3 (.mov (nI 0))])
 (.seq (.seq (.reg [oo 7 (.mov (.s 0)),
 oo 8 (.call 14 [(.s 7)]),
 oo 9 (.un .not (.s 8))])
 (.cond (.s 9)
 (.seq (.reg [oo 2 (.mov (.c .empty)),
 oo 3 (.mov (nI 13))])
 .ret)
 .skip))
 (.seq (.reg [oo 4 (.mov (.c .empty))])
 (.seq (.seq (.reg [oo 10 (.mov (.s 0)),
 oo 11 (.len (.s 10)),
 oo 12 (.mov (nI 0))])
 (.block 0
 (.loop c12_1)))
 c12_0))))
theorem k12 : OkF 12 Tryd.f12 c12 [.t 2, .t 3] 38 := ⟨Tryd.func12, by kernel_rfl, by kernel_rfl, by kernel_rfl, Tryd.ntmps12⟩
/-! typecase/typecaseref02.Units -/
def c13_0 : AC :=
 (.seq (.reg [oo 44 (.mov (.s 4)),
 oo 2 (.mov (.s 44)),
 oo 3 (.mov (nI 0))])
 .ret)
def c13_1 : AC :=
 (.seq (.seq (.reg [oo 10 (.mov (.s 5)),
 oo 11 (.mov (.s 0)),
 oo 12 (.len (.s 11)),
 oo 13 (.bin .lss (.s 10) (.s 12))])
 (.cond (.s 13)
 .skip
 (.exit 0)))
 (.seq (.block 1
 (.seq (.reg [oo 16 (.mov (.s 0)),
 oo 17 (.mov (.s 5)),
 oo 18 (.idxA 1 (.s 16) (.s 17)),
 oo 19 (.load false 1 (.s 18)),
 oo 20 (.conv .i64 (.s 19)),
 oo 6 (.mov (.s 20))])
 (.seq (.seq (.reg [oo 21 (.mov (.s 6)),
 oo 22 (.bin .lss (.s 21) (nI 65536))])
 (.cond (.s 22)
 (.seq (.reg [oo 23 (.mov (.s 4)),
 oo 24 (.mov (.s 6)),
 oo 25 (.conv .u16 (.s 24)),
 oo 26 (.bslice 1 [(.s 25)]),
 oo 27 (.app 1 2 (.s 23) (.s 26)),
 oo 4 (.mov (.s 27))])
 (.exit 1))
 .skip))
 (.seq (.reg [oo 28 (.mov (.s 6)),
 oo 29 (.bin .sub (.s 28) (nI 65536)),
 oo 6 (.mov (.s 29))])
 (.seq (.reg [oo 30 (.mov (.s 4)),
 oo 31 (.mov (.s 6)),
 oo 32 (.bin .quo (.s 31) (nI 1024)),
 oo 33 (.bin .add (nI 55296) (.s 32)),
 oo 34 (.conv .u16 (.s 33)),
 oo 35 (.bslice 1 [(.s 34)]),
 oo 36 (.app 1 2 (.s 30) (.s 35)),
 oo 4 (.mov (.s 36))])
 (.reg [oo 37 (.mov (.s 4)),
 oo 38 (.mov (.s 6)),
 oo 39 (.bin .rem (.s 38) (nI 1024)),
 oo 40 (.bin .add (nI 56320) (.s 39)),
 oo 41 (.conv .u16 (.s 40)),
 oo 42 (.bslice 1 [(.s 41)]),
 oo 43 (.app 1 2 (.s 37) (.s 42)),
 oo 4 (.mov (.s 43))]))))))
 (.reg [oo 14 (.mov (.s 5)),
 oo 15 (.bin .add (.s 14) (nI 1)),
 oo 5 (.mov (.s 15))])))
def c13 : AC :=
 (.seq (.reg [oo 2 (.mov (.c .empty)),
 oo 3 (.mov (nI 0))])
 (.seq (.seq (.reg [oo 7 (.mov (.s 0)),
 oo 8 (.call 15 [(.s 7)]),
 oo 9 (.un .not (.s 8))])
 (.cond (.s 9)
 (.seq (.reg [oo 2 (.mov (.c .empty)),
 oo 3 (.mov (nI 13))])
 .ret)
 .skip))
 (.seq (.reg [oo 4 (.mov (.c .empty))])
 (.seq (.seq (.reg [oo 5 (.mov (nI 0))])
 (.block 0
 (.loop c13_1)))
 c13_0))))
theorem k13 : OkF 13 Tryd.f13 c13 [.t 2, .t 3] 45 := ⟨Tryd.func13, by kernel_rfl, by kernel_rfl, by kernel_rfl, Tryd.ntmps13⟩
abbrev rU (X : List Int) : Row := ⟨(X.map U).map .pure, 1, .live⟩
/-- what a writing of units answers -/
def uniR (t : List Int) : List Int × Int := if t.all rightF = true then (unitsF t, 0) else ([], 13)
theorem uniK_len {t : List Int} {k : Nat} : (unitsF (t.take k)).length ≤ 2 * t.length := by
 have := unitsF_len (t.take k)
 have : (t.take k).length ≤ t.length := by simp; omega
 omega
theorem push1 {X : List Int} {a : Int} : ((X.map U).map S.pure) ++ [.pure (U a)] = ((X ++ [a]).map U).map S.pure := row_push
theorem push2 {X : List Int} {a b : Int} : ((X.map U).map S.pure) ++ [.pure (U a), .pure (U b)] = ((X ++ [a, b]).map U).map S.pure := by simp
theorem units_q (t : List Int) (ht : t.length ≤ 1000) : FnQ Tryd.prog 12 [.sl (t.map R)] [.sl ((uniR t).1.map U), I (uniR t).2] := by
 refine k12.q (by simp) ?_
 unfold c12
 simp only [vmp,↓vmd,seval]
 refine onC_q (rights_q t) rfl ?_
 cases ha : t.all rightF
 ·have e : uniR t = ([], 13) := by simp [uniR, ha]
  (first | apply envO | apply envQ); simp only [vmp,↓vmd,seval]; rfl
  simp only [e, vmp,↓vmd,seval]
  exact gives_tup rfl (by simp)
 have e : uniR t = (unitsF t, 0) := by simp [uniR, ha]
 (first | apply envO | apply envQ); simp only [vmp,↓vmd,seval]; rfl
 simp only [vmp,↓vmd,seval]
 refine onIf_intro fun hlen => ?_
 simp only [vmp,↓vmd,seval]
 refine loop_virt 4 1 rfl (by simp) ?_
 refine loop_at (T := Nat) (fun k => [(12, .pure (I k)), (11, .pure (I t.length)), (10, .pure (.sl (t.map R))), (4, .rsl 0 0 (unitsF (t.take k)).length)]) (fun k => [rU (unitsF (t.take k))]) (fun k => k ≤ t.length) (fun k => t.length - k)
  0 [0] (by simp) rfl (by simp) (by simp only [show unitsF (t.take 0) = [] from rfl, kpp,seval]) (by simp only [show unitsF (t.take 0) = [] from rfl, kpp,seval]) ?_
 intro k hk
 unfold c12_1
 simp only [vmp,↓vmd,seval]
 by_cases h1 : (k : Int) < (t.length : Int)
 ·have hlt : k < t.length := by omega
  have hl := uniK_len (t := t) (k := k)
  have hs := unitsF_snoc hlt
  have hr := right_iff.1 (right_at ha hlt)
  have mk := map_at (f := R) hlt
  generalize t[k] = r at *
  refine onB_pos h1 ?_
  simp only [h1, mk, Int.natCast_nonneg, vmp,↓vmd,seval]
  by_cases h2 : r < 65536
  ·have w := wu16_id (n := r) (by omega) (by omega)
   have eu : unitF r = [r] := by rw [unitF, if_pos h2]
   refine onB_pos h2 ?_
   simp only [h2, w, vmp,↓vmd,seval]
   refine onIf'_intro (appOk_one rfl rfl (by omega) (by omega) (by simp only [maxLen]; omega)) ?_
   rw [eu] at hs
   rw [push1, ← hs]
   have hsl : (unitsF (t.take (k + 1))).length = (unitsF (t.take k)).length + 1 := by rw [hs]; simp
   simp only [vmp,↓vmd,seval]
   refine onBk_to (k + 1) [2] (by simp) rfl (by omega) hlt (by simp only [next_at hlt hlen, hsl, kpp,seval]) (by simp only [kpp,seval])
  ·have w1 := wi32_id (n := r - 65536) (by omega) (by omega)
   have s10 : Int.fdiv (r - 65536) (2 ^ min 10 (IntKind.bits .i32)) = (r - 65536) / 1024 := by rw [show min 10 (IntKind.bits .i32) = 10 from rfl, shr_div]; rfl
   have w2 := wi32_id (n := 55296 + (r - 65536) / 1024) (by omega) (by omega)
   have w3 := wu16_id (n := 55296 + (r - 65536) / 1024) (by omega) (by omega)
   have a1 := and1023 (z := r - 65536) (by omega) (by omega)
   have w4 := wi32_id (n := 56320 + (r - 65536) % 1024) (by omega) (by omega)
   have w5 := wu16_id (n := 56320 + (r - 65536) % 1024) (by omega) (by omega)
   have eu : unitF r = [55296 + (r - 65536) / 1024, 56320 + (r - 65536) % 1024] := by rw [unitF, if_neg h2]
   rw [eu] at hs
   refine onB_neg h2 ?_
   simp only [h2, w1, s10, w2, w3, a1, w4, w5, vmp,↓vmd,seval]
   refine onIf'_intro (appOk_map (f := U) (X := [55296 + (r - 65536) / 1024, 56320 + (r - 65536) % 1024]) (fun _ => rfl) rfl (by omega) (by simp; omega) (by simp [maxLen]; omega)) ?_
   rw [push2, ← hs]
   have hsl : (unitsF (t.take (k + 1))).length = (unitsF (t.take k)).length + 2 := by rw [hs]; simp
   simp only [vmp,↓vmd,seval]
   refine onBk_to (k + 1) [2] (by simp) rfl (by omega) hlt (by simp only [next_at hlt hlen, hsl, kpp,seval]) (by simp only [kpp,seval])
 ·refine onB_neg h1 ?_
  obtain rfl : k = t.length := by omega
  simp only [h1, vmp,↓vmd,seval]
  unfold c12_0
  simp only [e, vmp,↓vmd,seval]
  rw [List.take_length]
  exact gives_tup (toVs_of (toV_row (f := U) rfl (.inr ⟨rfl, rfl⟩)) rfl) (by simp)
theorem runits_q (t : List Int) (ht : t.length ≤ 1000) : FnQ Tryd.prog 13 [.sl (t.map R)] [.sl ((uniR t).1.map U), I (uniR t).2] := by
 refine k13.q (by simp) ?_
 unfold c13
 simp only [vmp,↓vmd,seval]
 refine onC_q (rrights_q t) rfl ?_
 cases ha : t.all rightF
 ·have e : uniR t = ([], 13) := by simp [uniR, ha]
  (first | apply envO | apply envQ); simp only [vmp,↓vmd,seval]; rfl
  simp only [e, vmp,↓vmd,seval]
  exact gives_tup rfl (by simp)
 have e : uniR t = (unitsF t, 0) := by simp [uniR, ha]
 (first | apply envO | apply envQ); simp only [vmp,↓vmd,seval]; rfl
 simp only [vmp,↓vmd,seval]
 refine loop_virt 4 1 rfl (by simp) ?_
 refine loop_at (T := Nat) (fun k => [(5, .pure (I k)), (0, .pure (.sl (t.map R))), (4, .rsl 0 0 (unitsF (t.take k)).length)]) (fun k => [rU (unitsF (t.take k))]) (fun k => k ≤ t.length) (fun k => t.length - k)
  0 [0] (by simp) rfl (by simp) (by simp only [show unitsF (t.take 0) = [] from rfl, kpp,seval]) (by simp only [show unitsF (t.take 0) = [] from rfl, kpp,seval]) ?_
 intro k hk
 unfold c13_1
 simp only [vmp,↓vmd,seval]
 refine onIf_intro fun hlen => ?_
 simp only [vmp,↓vmd,seval]
 by_cases h1 : (k : Int) < (t.length : Int)
 ·have hlt : k < t.length := by omega
  have hlen' : t.length ≤ 9223372036854775807 := by simpa using hlen
  have hl := uniK_len (t := t) (k := k)
  have hs := unitsF_snoc hlt
  have hr := right_iff.1 (right_at ha hlt)
  have mk := map_at (f := R) hlt
  generalize t[k] = r at *
  have w0 : IntKind.wrap .i64 r = r := wrap_id (by omega) (by omega)
  refine onB_pos h1 ?_
  simp only [h1, mk, w0, Int.natCast_nonneg, vmp,↓vmd,seval]
  by_cases h2 : r < 65536
  ·have w := wu16_id (n := r) (by omega) (by omega)
   have eu : unitF r = [r] := by rw [unitF, if_pos h2]
   refine onB_pos h2 ?_
   simp only [h2, w, vmp,↓vmd,seval]
   refine onIf'_intro (appOk_one rfl rfl (by omega) (by omega) (by simp only [maxLen]; omega)) ?_
   rw [eu] at hs
   rw [push1, ← hs]
   have hsl : (unitsF (t.take (k + 1))).length = (unitsF (t.take k)).length + 1 := by rw [hs]; simp
   simp only [vmp,↓vmd,seval]
   refine onBk_to (k + 1) [2] (by simp) rfl (by omega) hlt (by simp only [next_at hlt hlen', hsl, kpp,seval]) (by simp only [kpp,seval])
  ·have w1 : IntKind.wrap .i64 (r - 65536) = r - 65536 := wrap_id (by omega) (by omega)
   have s10 : Int.tdiv (r - 65536) 1024 = (r - 65536) / 1024 := Int.tdiv_eq_ediv_of_nonneg (by omega)
   have ws : IntKind.wrap .i64 ((r - 65536) / 1024) = (r - 65536) / 1024 := wrap_id (by omega) (by omega)
   have w2 : IntKind.wrap .i64 (55296 + (r - 65536) / 1024) = 55296 + (r - 65536) / 1024 := wrap_id (by omega) (by omega)
   have w3 := wu16_id (n := 55296 + (r - 65536) / 1024) (by omega) (by omega)
   have a1 : Int.tmod (r - 65536) 1024 = (r - 65536) % 1024 := Int.tmod_eq_emod_of_nonneg (by omega)
   have w4 : IntKind.wrap .i64 (56320 + (r - 65536) % 1024) = 56320 + (r - 65536) % 1024 := wrap_id (by omega) (by omega)
   have w5 := wu16_id (n := 56320 + (r - 65536) % 1024) (by omega) (by omega)
   have eu : unitF r = [55296 + (r - 65536) / 1024] ++ [56320 + (r - 65536) % 1024] := by rw [unitF, if_neg h2]; rfl
   rw [eu, ← List.append_assoc] at hs
   refine onB_neg h2 ?_
   simp only [h2, w1, s10, ws, w2, w3, vmp,↓vmd,seval]
   refine onIf'_intro (appOk_one rfl rfl (by omega) (by omega) (by simp only [maxLen]; omega)) ?_
   rw [push1]
   have hsl1 : (unitsF (t.take k) ++ [55296 + (r - 65536) / 1024]).length = (unitsF (t.take k)).length + 1 := by simp
   rw [← hsl1]
   simp only [a1, w4, w5, vmp,↓vmd,seval]
   refine onIf'_intro (appOk_one rfl rfl (by omega) (by omega) (by simp only [maxLen]; omega)) ?_
   rw [push1, ← hs]
   have hsl : (unitsF (t.take (k + 1))).length = (unitsF (t.take k) ++ [55296 + (r - 65536) / 1024]).length + 1 := by rw [hs, List.length_append]; rfl
   simp only [vmp,↓vmd,seval]
   refine onBk_to (k + 1) [4] (by simp) rfl (by omega) hlt (by simp only [next_at hlt hlen', hsl, kpp,seval]) (by simp only [kpp,seval])
 ·refine onB_neg h1 ?_
  obtain rfl : k = t.length := by omega
  simp only [h1, vmp,↓vmd,seval]
  unfold c13_0
  simp only [e, vmp,↓vmd,seval]
  rw [List.take_length]
  exact gives_tup (toVs_of (toV_row (f := U) rfl (.inr ⟨rfl, rfl⟩)) rfl) (by simp)
end Go.Proofs.YtcngcapbikfbnaaDoor.W
