/-
  Texts: reading bytes. No condition but on sizes.
-/
import Derived.Test.YtcngcapbikfbnaaDoorU4
import Derived.Test.YtcngcapbikfbnaaDoorU2
namespace Go.Proofs.YtcngcapbikfbnaaDoor.W
open Go Go.Vm Go.Proofs
set_option maxRecDepth 100000
set_option linter.unusedSimpArgs false
set_option maxHeartbeats 1000000
/-! typecase/utf.Decode -/
def c21_0 : AC :=
 (.seq (.reg [oo 46 (.mov (.s 5)),
 oo 47 (.mov (.s 0)),
 oo 48 (.len (.s 47)),
 oo 2 (.mov (.s 46)),
 oo 3 (.mov (.s 48)),
 oo 4 (.mov (nI 0))])
 .ret)
def c21_1 : AC :=
 (.seq (.seq (.reg [oo 10 (.mov (.s 6)),
 oo 11 (.mov (.s 0)),
 oo 12 (.len (.s 11)),
 oo 13 (.bin .lss (.s 10) (.s 12))])
 (.cond (.s 13)
 .skip
 (.exit 0)))
 (.block 1
 (.seq (.reg [oo 15 (.mov (.s 0)),
 oo 16 (.mov (.s 6)),
 oo 17 (.slc 1 (.s 15) (some (.s 16)) none none),
 oo 18 (.call 33 [(.s 17)]),
 oo 14 (.mov (.s 18)),
 oo 19 (.ext 0 (.s 14)),
 oo 20 (.ext 1 (.s 14)),
 oo 7 (.mov (.s 19)),
 oo 8 (.mov (.s 20))])
 (.seq (.seq (.reg [oo 21 (.mov (.s 8)),
 oo 22 (.bin .eql (.s 21) (nI 0))])
 (.cond (.s 22)
 (.seq (.seq (.reg [oo 23 (.mov (.s 0)),
 oo 24 (.mov (.s 6)),
 oo 25 (.slc 1 (.s 23) (some (.s 24)) none none),
 oo 26 (.call 34 [(.s 25)]),
 oo 9 (.mov (.s 26))])
 (.seq (.reg [oo 27 (.mov (.s 9)),
 oo 28 (.bin .gtr (.s 27) (nI 0)),
 oo 29 (.mov (.s 28)),
 og 30 29 true (.mov (.s 9)),
 og 31 29 true (.mov (.s 0)),
 og 32 29 true (.len (.s 31)),
 og 33 29 true (.mov (.s 6)),
 og 34 29 true (.bin .sub (.s 32) (.s 33)),
 og 35 29 true (.bin .eql (.s 30) (.s 34)),
 oo 36 (.pick (.s 29) (.s 35) (nB false))])
 (.cond (.s 36)
 (.seq (.reg [oo 37 (.mov (.s 6)),
 oo 2 (.mov (.c .empty)),
 oo 3 (.mov (.s 37)),
 oo 4 (.mov (nI 4))])
 .ret)
 .skip)))
 (.seq (.reg [oo 38 (.mov (.s 6)),
 oo 2 (.mov (.c .empty)),
 oo 3 (.mov (.s 38)),
 oo 4 (.mov (nI 3))])
 .ret))
 .skip))
 (.seq (.reg [oo 39 (.mov (.s 5)),
 oo 40 (.mov (.s 7)),
 oo 41 (.bslice 1 [(.s 40)]),
 oo 42 (.app 1 4 (.s 39) (.s 41)),
 oo 5 (.mov (.s 42))])
 (.reg [oo 43 (.mov (.s 6)),
 oo 44 (.mov (.s 8)),
 oo 45 (.bin .add (.s 43) (.s 44)),
 oo 6 (.mov (.s 45))]))))))
def c21 : AC :=
 (.seq (.reg [oo 2 (.mov (.c .empty)),
 oo 3 (.mov (nI 0)),
 oo 4 (.mov (nI 0))])
 (.seq (.reg [oo 5 (.mov (.c .empty))])
 (.seq (.seq (.reg [oo 6 (.mov (nI 0))])
 (.block 0
 (.loop c21_1)))
 c21_0)))
theorem k21 : OkF 21 Tryd.f21 c21 [.t 2, .t 3, .t 4] 49 := ⟨Tryd.func21, by kernel_rfl, by kernel_rfl, by kernel_rfl, Tryd.ntmps21⟩
/-! typecase/typecaseref02.Decode -/
def c22_0 : AC :=
 (.seq (.reg [oo 52 (.mov (.s 5)),
 oo 53 (.mov (.s 0)),
 oo 54 (.len (.s 53)),
 oo 2 (.mov (.s 52)),
 oo 3 (.mov (.s 54)),
 oo 4 (.mov (nI 0))])
 .ret)
def c22_1 : AC :=
 (.seq (.seq (.reg [oo 9 (.mov (.s 6)),
 oo 10 (.mov (.s 0)),
 oo 11 (.len (.s 10)),
 oo 12 (.bin .lss (.s 9) (.s 11))])
 (.cond (.s 12)
 .skip
 (.exit 0)))
 (.block 1
 (.seq (.reg [oo 14 (.mov (.s 0)),
 oo 15 (.mov (.s 6)),
 oo 16 (.call 35 [(.s 14), (.s 15)]),
 oo 13 (.mov (.s 16)),
 oo 17 (.ext 0 (.s 13)),
 oo 18 (.ext 1 (.s 13)),
 oo 7 (.mov (.s 17)),
 oo 8 (.mov (.s 18))])
 (.seq (.seq (.reg [oo 19 (.mov (.s 8)),
 oo 20 (.un .not (.s 19))])
 (.cond (.s 20)
 (.seq (.seq (.reg [oo 21 (.mov (.s 6)),
 oo 22 (.mov (.s 7)),
 oo 23 (.bin .add (.s 21) (.s 22)),
 oo 24 (.mov (.s 0)),
 oo 25 (.len (.s 24)),
 oo 26 (.bin .eql (.s 23) (.s 25)),
 oo 27 (.mov (.s 26)),
 og 28 27 true (.mov (.s 0)),
 og 29 27 true (.mov (.s 6)),
 og 30 27 true (.idxA 1 (.s 28) (.s 29)),
 og 31 27 true (.load false 1 (.s 30)),
 og 32 27 true (.conv .i64 (.s 31)),
 og 33 27 true (.call 36 [(.s 32)]),
 og 34 27 true (.mov (.s 7)),
 og 35 27 true (.bin .gtr (.s 33) (.s 34)),
 oo 36 (.pick (.s 27) (.s 35) (nB false))])
 (.cond (.s 36)
 (.seq (.reg [oo 37 (.mov (.s 6)),
 oo 2 (.mov (.c .empty)),
 oo 3 (.mov (.s 37)),
 oo 4 (.mov (nI 4))])
 .ret)
 .skip))
 (.seq (.reg [oo 38 (.mov (.s 6)),
 oo 2 (.mov (.c .empty)),
 oo 3 (.mov (.s 38)),
 oo 4 (.mov (nI 3))])
 .ret))
 .skip))
 (.seq (.reg [oo 39 (.mov (.s 5)),
 oo 40 (.mov (.s 0)),
 oo 41 (.mov (.s 6)),
 oo 42 (.mov (.s 6)),
 oo 43 (.mov (.s 7)),
 oo 44 (.bin .add (.s 42) (.s 43)),
 oo 45 (.slc 1 (.s 40) (some (.s 41)) (some (.s 44)) none),
 oo 46 (.call 37 [(.s 45)]),
 oo 47 (.bslice 1 [(.s 46)]),
 oo 48 (.app 1 4 (.s 39) (.s 47)),
 oo 5 (.mov (.s 48))])
 (.reg [oo 49 (.mov (.s 6)),
 oo 50 (.mov (.s 7)),
 oo 51 (.bin .add (.s 49) (.s 50)),
 oo 6 (.mov (.s 51))]))))))
def c22 : AC :=
 (.seq (.reg [oo 2 (.mov (.c .empty)),
 oo 3 (.mov (nI 0)),
 oo 4 (.mov (nI 0))])
 (.seq (.reg [oo 5 (.mov (.c .empty))])
 (.seq (.reg [oo 6 (.mov (nI 0))])
 (.seq (.block 0
 (.loop c22_1))
 c22_0))))
abbrev rR (X : List Int) : Row := ⟨(X.map R).map .pure, 1, .live⟩
/-- what a reading answers -/
def decR (b : List Int) : List Int × Int × Int := decoF b.length b 0 []
theorem deco_one {f : Nat} {b acc : List Int} {a : Int} (hne : b ≠ []) (hok : okB b = true) : decoF (f + 1) b a acc = decoF f (b.drop (lng (hd b))) (a + lng (hd b)) (acc ++ [valF (b.take (lng (hd b)))]) := by
 rw [decoF, if_neg hne, if_pos hok]
theorem deco_bad {f : Nat} {b acc : List Int} {a : Int} (hne : b ≠ []) (hok : okB b = false) : decoF (f + 1) b a acc = if st b = b.length ∧ st b < lng (hd b) then ([], a, 4) else ([], a, 3) := by
 rw [decoF, if_neg hne, if_neg (by rw [hok]; simp)]
theorem deco_nil {f : Nat} {acc : List Int} {a : Int} : decoF f [] a acc = (acc, a, 0) := by
 cases f with
 | zero => rfl
 | succ f => rw [decoF, if_pos rfl]
/-- how far a reading has come -/
def DInv (b : List Int) (s : Nat × List Int) : Prop := s.1 ≤ b.length ∧ s.2.length ≤ s.1 ∧ ∃ f, b.length - s.1 ≤ f ∧ decoF f (b.drop s.1) s.1 s.2 = decR b
theorem DInv.start {b : List Int} : DInv b (0, []) := ⟨Nat.zero_le _, Nat.le_refl _, b.length, by simp, rfl⟩
theorem DInv.last {b : List Int} {s : Nat × List Int} (h : DInv b s) (hl : ¬ s.1 < b.length) : decR b = (s.2, (b.length : Int), 0) := by
 obtain ⟨h1, h2, f, hf, e⟩ := h
 rw [List.drop_eq_nil_of_le (by omega), deco_nil] at e
 rw [← e, show s.1 = b.length by omega]
theorem DInv.go {b : List Int} {t : Nat} {X : List Int} (h : DInv b (t, X)) (hl : t < b.length) (hok : okB (b.drop t) = true) :
  DInv b (t + lng (hd (b.drop t)), X ++ [valF ((b.drop t).take (lng (hd (b.drop t))))]) := by
 obtain ⟨h1, h2, f, hf, e⟩ := h
 have hlng := ok_lng hok
 simp only at h1 h2 hf e
 have hdl : (b.drop t).length = b.length - t := List.length_drop
 cases f with
 | zero => omega
 | succ f =>
  rw [deco_one (drop_ne hl) hok, List.drop_drop] at e
  refine ⟨by simp only; omega, by simp only [List.length_append, List.length_cons, List.length_nil]; omega, f, by simp only; omega, ?_⟩
  simp only
  rw [← e]
  simp
theorem DInv.bad {b : List Int} {t : Nat} {X : List Int} (h : DInv b (t, X)) (hl : t < b.length) (hok : okB (b.drop t) = false) :
  decR b = if st (b.drop t) = (b.drop t).length ∧ st (b.drop t) < lng (hd (b.drop t)) then ([], (t : Int), 4) else ([], (t : Int), 3) := by
 obtain ⟨h1, h2, f, hf, e⟩ := h
 simp only at h1 h2 hf e
 cases f with
 | zero => omega
 | succ f => rw [← e, deco_bad (drop_ne hl) hok]
theorem slc_b {b : List Int} {t : Nat} (h : t ≤ b.length) : slcP 1 (b.map B) false (some (t : Int)) (some (b.length : Int)) (some (b.length : Int)) = some (.pure (.sl ((b.drop t).map B))) := by
 have := slcP_from (f := B) (X := b) (n := 1) (l := (t : Int)) (fun _ => rfl) (by omega) (by omega)
 rwa [Int.toNat_natCast] at this
theorem decode_q (b : List Int) (hb : Byt b) (hl : b.length ≤ 10000) : FnQ Tryd.prog 21 [.sl (b.map B)] [.sl ((decR b).1.map R), I (decR b).2.1, I (decR b).2.2] := by
 refine k21.q (by simp) ?_
 unfold c21
 simp only [vmp,↓vmd,seval]
 refine loop_virt 5 1 rfl (by simp) ?_
 refine loop_at (T := Nat × List Int) (fun s => [(6, .pure (I s.1)), (5, .rsl 0 0 s.2.length), (0, .pure (.sl (b.map B)))]) (fun s => [rR s.2]) (DInv b) (fun s => b.length - s.1)
  (0, []) [0] (by simp) rfl DInv.start (by simp only [kpp,seval]) (by simp only [kpp,seval]) ?_
 rintro ⟨t, X⟩ hI
 unfold c21_1
 simp only [vmp,↓vmd,seval]
 refine onIf_intro fun hlen => ?_
 simp only [vmp,↓vmd,seval]
 by_cases c1 : (t : Int) < (b.length : Int)
 case' neg => (
  have e := hI.last (by simp only; omega)
  refine onB_neg c1 ?_
  simp only [c1, vmp,↓vmd,seval]
  unfold c21_0
  rw [e]
  simp only [vmp,↓vmd,seval]
  refine onIf_intro fun _ => ?_
  simp only [vmp,↓vmd,seval]
  exact gives_tup (toVs_of (toV_row (f := R) rfl (.inr ⟨rfl, rfl⟩)) rfl) (by simp))
 have ht : t < b.length := by omega
 have t0 : (0 : Int) ≤ (t : Int) := by omega
 have t1 : (t : Int) ≤ (b.length : Int) := by omega
 refine onB_pos c1 ?_
 simp only [c1, t0, t1, vmp,↓vmd,seval]
 refine onS_eq (slc_b (by omega)) ?_
 have hdl : (b.drop t).length = b.length - t := List.length_drop
 have hne := drop_ne ht
 refine onC_q (frm_q (b.drop t) (hb.drop t) (by omega)) rfl ?_
 cases hok : okB (b.drop t)
 ·have hbad := hI.bad ht hok
  have hbeg := begF_st hne hok
  have ef : frmF (b.drop t) = (0, 0) := by rw [frmF, if_neg (by rw [hok]; simp)]
  rw [ef]
  (first | apply envO | apply envQ); simp only [vmp,↓vmd,seval]; rfl
  simp only [t0, t1, vmp,↓vmd,seval]
  refine onS_eq (slc_b (by omega)) ?_
  refine onC_q (beg_q (b.drop t) (hb.drop t) (by omega)) rfl ?_
  rcases hbeg with ⟨e1, e2, e3⟩ | ⟨e1, e2, e3⟩
  ·have er : decR b = ([], (t : Int), 3) := by rw [hbad, if_neg (by omega)]
   rw [e1, er]
   (first | apply envO | apply envQ); simp only [vmp,↓vmd,seval]; rfl
   simp only [vmp,↓vmd,seval]
   exact gives_tup rfl (by simp)
  ·have g0 : (0 : Int) < (st (b.drop t) : Int) := by omega
   have w : IntKind.wrap .i64 ((b.length : Int) - (t : Int)) = ((b.drop t).length : Int) := by rw [wrap_id (by omega) (by omega), hdl]; omega
   rw [e1]
   generalize st (b.drop t) = z at *
   (first | apply envO | apply envQ); simp only [vmp,↓vmd,seval]; rfl
   simp only [g0, w, vmp,↓vmd,seval]
   refine onIf_intro fun _ => ?_
   simp only [g0, w, vmp,↓vmd,seval]
   by_cases c2 : (z : Int) = ((b.drop t).length : Int)
   ·have er : decR b = ([], (t : Int), 4) := by rw [hbad, if_pos (by omega)]
    rw [er]
    refine onB_pos c2 ?_
    simp only [vmp,↓vmd,seval]
    exact gives_tup rfl (by simp)
   ·have er : decR b = ([], (t : Int), 3) := by rw [hbad, if_neg (by omega)]
    rw [er]
    refine onB_neg c2 ?_
    simp only [c2, vmp,↓vmd,seval]
    exact gives_tup rfl (by simp)
 ·have ef : frmF (b.drop t) = (valF ((b.drop t).take (lng (hd (b.drop t)))), (lng (hd (b.drop t)) : Int)) := by rw [frmF, if_pos hok]
  have hgo := hI.go ht hok
  have hlng := ok_lng hok
  rw [ef]
  generalize valF ((b.drop t).take (lng (hd (b.drop t)))) = v at *
  generalize lng (hd (b.drop t)) = L at *
  have n0 : ¬ (L : Int) = 0 := by omega
  have hX : X.length ≤ t := hI.2.1
  (first | apply envO | apply envQ); simp only [vmp,↓vmd,seval]; rfl
  simp only [n0, vmp,↓vmd,seval]
  refine onIf'_intro (appOk_one rfl rfl (by omega) (by omega) (by simp only [maxLen]; omega)) ?_
  rw [row_push]
  have w : IntKind.wrap .i64 ((t : Int) + (L : Int)) = ((t + L : Nat) : Int) := by rw [wrap_id (by omega) (by omega)]; omega
  have hXl : (X ++ [v]).length = X.length + 1 := by simp
  simp only [w, vmp,↓vmd,seval]
  refine onBk_to (t + L, X ++ [v]) [2] (by simp) rfl (by simp only; omega) hgo (by simp only [hXl, kpp,seval]) (by simp only [kpp,seval])
end Go.Proofs.YtcngcapbikfbnaaDoor.W
