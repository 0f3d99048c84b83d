/-
  Texts: reading bytes with losses; two texts compared. No condition but on sizes.
-/
import Derived.Test.YtcngcapbikfbnaaDoorU5
namespace Go.Proofs.YtcngcapbikfbnaaDoor.W
open Go Go.Vm Go.Proofs
set_option maxRecDepth 100000
set_option linter.unusedSimpArgs false
set_option maxHeartbeats 1000000
/-! typecase/utf.Lossy -/
def c24_0 : AC :=
 (.seq (.reg [oo 32 (.mov (.s 3)),
 oo 2 (.mov (.s 32))])
 .ret)
def c24_1 : AC :=
 (.seq (.seq (.reg [oo 7 (.mov (.s 4)),
 oo 8 (.mov (.s 0)),
 oo 9 (.len (.s 8)),
 oo 10 (.bin .lss (.s 7) (.s 9))])
 (.cond (.s 10)
 .skip
 (.exit 0)))
 (.block 1
 (.seq (.reg [oo 12 (.mov (.s 0)),
 oo 13 (.mov (.s 4)),
 oo 14 (.slc 1 (.s 12) (some (.s 13)) none none),
 oo 15 (.call 33 [(.s 14)]),
 oo 11 (.mov (.s 15)),
 oo 16 (.ext 0 (.s 11)),
 oo 17 (.ext 1 (.s 11)),
 oo 5 (.mov (.s 16)),
 oo 6 (.mov (.s 17))])
 (.seq (.seq (.reg [oo 18 (.mov (.s 6)),
 oo 19 (.bin .eql (.s 18) (nI 0))])
 (.cond (.s 19)
 (.reg [oo 20 (.mov (.s 0)),
 oo 21 (.mov (.s 4)),
 oo 22 (.slc 1 (.s 20) (some (.s 21)) none none),
 oo 23 (.call 34 [(.s 22)]),
 oo 24 (.mx (.s 23) (nI 1)),
 oo 5 (.mov (.c (.pure (.int .i32 65533)))),
 oo 6 (.mov (.s 24))])
 .skip))
 (.seq (.reg [oo 25 (.mov (.s 3)),
 oo 26 (.mov (.s 5)),
 oo 27 (.bslice 1 [(.s 26)]),
 oo 28 (.app 1 4 (.s 25) (.s 27)),
 oo 3 (.mov (.s 28))])
 (.reg [oo 29 (.mov (.s 4)),
 oo 30 (.mov (.s 6)),
 oo 31 (.bin .add (.s 29) (.s 30)),
 oo 4 (.mov (.s 31))]))))))
def c24 : AC :=
 (.seq (.reg [oo 2 (.mov (.c .empty))])
 (.seq (.reg [oo 3 (.mov (.c .empty))])
 (.seq (.seq (.reg [oo 4 (.mov (nI 0))])
 (.block 0
 (.loop c24_1)))
 c24_0)))
/-! typecase/typecaseref02.Lossy -/
def c25_0 : AC :=
 (.seq (.reg [oo 34 (.mov (.s 3)),
 oo 2 (.mov (.s 34))])
 .ret)
def c25_1 : AC :=
 (.seq (.seq (.reg [oo 7 (.mov (.s 4)),
 oo 8 (.mov (.s 0)),
 oo 9 (.len (.s 8)),
 oo 10 (.bin .lss (.s 7) (.s 9))])
 (.cond (.s 10)
 .skip
 (.exit 0)))
 (.block 1
 (.seq (.reg [oo 12 (.mov (.s 0)),
 oo 13 (.mov (.s 4)),
 oo 14 (.call 35 [(.s 12), (.s 13)]),
 oo 11 (.mov (.s 14)),
 oo 15 (.ext 0 (.s 11)),
 oo 16 (.ext 1 (.s 11)),
 oo 5 (.mov (.s 15)),
 oo 6 (.mov (.s 16))])
 (.seq (.seq (.reg [oo 17 (.mov (.s 6))])
 (.cond (.s 17)
 (.reg [oo 18 (.mov (.s 3)),
 oo 19 (.mov (.s 0)),
 oo 20 (.mov (.s 4)),
 oo 21 (.mov (.s 4)),
 oo 22 (.mov (.s 5)),
 oo 23 (.bin .add (.s 21) (.s 22)),
 oo 24 (.slc 1 (.s 19) (some (.s 20)) (some (.s 23)) none),
 oo 25 (.call 37 [(.s 24)]),
 oo 26 (.bslice 1 [(.s 25)]),
 oo 27 (.app 1 4 (.s 18) (.s 26)),
 oo 3 (.mov (.s 27))])
 (.reg [oo 28 (.mov (.s 3)),
 oo 29 (.bslice 1 [(.c (.pure (.int .i32 65533)))]),
 oo 30 (.app 1 4 (.s 28) (.s 29)),
 oo 3 (.mov (.s 30))])))
 (.reg [oo 31 (.mov (.s 4)),
 oo 32 (.mov (.s 5)),
 oo 33 (.bin .add (.s 31) (.s 32)),
 oo 4 (.mov (.s 33))])))))
def c25 : AC :=
 (.seq (.reg [oo 2 (.mov (.c .empty))])
 (.seq (.reg [oo 3 (.mov (.c .empty))])
 (.seq (.reg [oo 4 (.mov (nI 0))])
 (.seq (.block 0
 (.loop c25_1))
 c25_0))))
/-! typecase/typecaseref02.Same -/
def c23_0 : AC :=
 (.seq (.reg [oo 4 (.mov (nB true))])
 .ret)
def c23_1 : AC :=
 (.seq (.seq (.reg [oo 11 (.mov (.s 5)),
 oo 12 (.mov (.s 0)),
 oo 13 (.len (.s 12)),
 oo 14 (.bin .lss (.s 11) (.s 13))])
 (.cond (.s 14)
 .skip
 (.exit 0)))
 (.seq (.block 1
 (.seq (.regq [oo 17 (.mov (.s 0)),
 oo 18 (.mov (.s 5)),
 oo 19 (.idxA 1 (.s 17) (.s 18)),
 oo 20 (.load false 1 (.s 19)),
 oo 21 (.mov (.s 1)),
 oo 22 (.mov (.s 5)),
 oo 23 (.idxA 1 (.s 21) (.s 22)),
 oo 24 (.load false 1 (.s 23))]
[oo 25 (.bin .neq (.s 20) (.s 24))])
 (.cond (.s 25)
 (.seq (.reg [oo 4 (.mov (nB false))])
 .ret)
 .skip)))
 (.reg [oo 15 (.mov (.s 5)),
 oo 16 (.bin .add (.s 15) (nI 1)),
 oo 5 (.mov (.s 16))])))
def c23 : AC :=
 (.seq (.reg [oo 4 (.mov (nB false))])
 (.seq (.seq (.reg [oo 6 (.mov (.s 0)),
 oo 7 (.len (.s 6)),
 oo 8 (.mov (.s 1)),
 oo 9 (.len (.s 8)),
 oo 10 (.bin .neq (.s 7) (.s 9))])
 (.cond (.s 10)
 (.seq (.reg [oo 4 (.mov (nB false))])
 .ret)
 .skip))
 (.seq (.seq (.reg [oo 5 (.mov (nI 0))])
 (.block 0
 (.loop c23_1)))
 c23_0)))
/-! typecase/typecaselaw02.units -/
def c16_0 : AC :=
 (.seq (.reg [oo 4 (.mov (nB true))])
 .ret)
def c16_1 : AC :=
 (.seq (.seq (.reg [oo 11 (.mov (.s 5)),
 oo 12 (.mov (.s 0)),
 oo 13 (.len (.s 12)),
 oo 14 (.bin .lss (.s 11) (.s 13))])
 (.cond (.s 14)
 .skip
 (.exit 0)))
 (.seq (.block 1
 (.seq (.regq [oo 17 (.mov (.s 0)),
 oo 18 (.mov (.s 5)),
 oo 19 (.idxA 1 (.s 17) (.s 18)),
 oo 20 (.load false 1 (.s 19)),
 oo 21 (.mov (.s 1)),
 oo 22 (.mov (.s 5)),
 oo 23 (.idxA 1 (.s 21) (.s 22)),
 oo 24 (.load false 1 (.s 23))]
[oo 25 (.bin .neq (.s 20) (.s 24))])
 (.cond (.s 25)
 (.seq (.reg [oo 4 (.mov (nB false))])
 .ret)
 .skip)))
 (.reg [oo 15 (.mov (.s 5)),
 oo 16 (.bin .add (.s 15) (nI 1)),
 oo 5 (.mov (.s 16))])))
def c16 : AC :=
 (.seq (.reg [oo 4 (.mov (nB false))])
 (.seq (.seq (.reg [oo 6 (.mov (.s 0)),
 oo 7 (.len (.s 6)),
 oo 8 (.mov (.s 1)),
 oo 9 (.len (.s 8)),
 oo 10 (.bin .neq (.s 7) (.s 9))])
 (.cond (.s 10)
 (.seq (.reg [oo 4 (.mov (nB false))])
 .ret)
 .skip))
 (.seq (.seq (.reg [oo 5 (.mov (nI 0))])
 (.block 0
 (.loop c16_1)))
 c16_0)))
theorem k16 : OkF 16 Tryd.f16 c16 [.t 4] 26 := ⟨Tryd.func16, by kernel_rfl, by kernel_rfl, by kernel_rfl, Tryd.ntmps16⟩
/-- what a lossy reading answers -/
def losR (b : List Int) : List Int := lossF b.length b []
theorem loss_one {f : Nat} {b acc : List Int} (hne : b ≠ []) (hok : okB b = true) : lossF (f + 1) b acc = lossF f (b.drop (lng (hd b))) (acc ++ [valF (b.take (lng (hd b)))]) := by
 rw [lossF, if_neg hne, if_pos hok]
theorem loss_bad {f : Nat} {b acc : List Int} (hne : b ≠ []) (hok : okB b = false) : lossF (f + 1) b acc = lossF f (b.drop (st b)) (acc ++ [65533]) := by
 rw [lossF, if_neg hne, if_neg (by rw [hok]; simp)]
theorem loss_nil {f : Nat} {acc : List Int} : lossF f [] acc = acc := by
 cases f with
 | zero => rfl
 | succ f => rw [lossF, if_pos rfl]
def LInv (b : List Int) (s : Nat × List Int) : Prop := s.1 ≤ b.length ∧ s.2.length ≤ s.1 ∧ ∃ f, b.length - s.1 ≤ f ∧ lossF f (b.drop s.1) s.2 = losR b
theorem LInv.start {b : List Int} : LInv b (0, []) := ⟨Nat.zero_le _, Nat.le_refl _, b.length, by simp, rfl⟩
theorem LInv.last {b : List Int} {s : Nat × List Int} (h : LInv b s) (hl : ¬ s.1 < b.length) : losR b = s.2 := by
 obtain ⟨h1, h2, f, hf, e⟩ := h
 rw [List.drop_eq_nil_of_le (by omega), loss_nil] at e
 exact e.symm
theorem LInv.go {b : List Int} {t : Nat} {X : List Int} (h : LInv b (t, X)) (hl : t < b.length) (hok : okB (b.drop t) = true) :
  LInv b (t + lng (hd (b.drop t)), X ++ [valF ((b.drop t).take (lng (hd (b.drop t))))]) := by
 obtain ⟨h1, h2, f, hf, e⟩ := h
 have hlng := ok_lng hok
 simp only at h1 h2 hf e
 have hdl : (b.drop t).length = b.length - t := List.length_drop
 cases f with
 | zero => omega
 | succ f =>
  rw [loss_one (drop_ne hl) hok, List.drop_drop] at e
  refine ⟨by simp only; omega, by simp only [List.length_append, List.length_cons, List.length_nil]; omega, f, by simp only; omega, ?_⟩
  simp only
  rw [← e]
theorem LInv.bad {b : List Int} {t : Nat} {X : List Int} (h : LInv b (t, X)) (hl : t < b.length) (hok : okB (b.drop t) = false) :
  LInv b (t + st (b.drop t), X ++ [65533]) := by
 obtain ⟨h1, h2, f, hf, e⟩ := h
 have hst := st_pos (drop_ne hl)
 simp only at h1 h2 hf e
 have hdl : (b.drop t).length = b.length - t := List.length_drop
 cases f with
 | zero => omega
 | succ f =>
  rw [loss_bad (drop_ne hl) hok, List.drop_drop] at e
  refine ⟨by simp only; omega, by simp only [List.length_append, List.length_cons, List.length_nil]; omega, f, by simp only; omega, ?_⟩
  simp only
  rw [← e]
theorem sameu_q (a b : List Int) : FnQ Tryd.prog 16 [.sl (a.map U), .sl (b.map U)] [.bool (decide (a = b))] := by
 refine k16.q (by simp) ?_
 unfold c16
 simp only [*, vmp,↓vmd,seval]
 refine onIf_intro fun ha => ?_
 simp only [*, vmp,↓vmd,seval]
 refine onIf_intro fun hb => ?_
 simp only [*, vmp,↓vmd,seval]
 refine onB_dec (fun h0 => ?_) (fun h0 => ?_)
 ·simp only [*, vmp,↓vmd,seval]
  rw [show decide (a = b) = false by simp; rintro rfl; simp at h0]
  exact gives_pure
 simp only [*, vmp,↓vmd,seval]
 have hab : a.length = b.length := by simp at h0; omega
 refine loop_at (T := Nat) (fun k => [(5, .pure (I k)), (0, .pure (.sl (a.map U))), (1, .pure (.sl (b.map U)))]) (fun _ => []) (fun k => k ≤ a.length ∧ (a.drop k = b.drop k ↔ a = b)) (fun k => a.length - k)
  0 [] (by simp) rfl ⟨by simp, by simp⟩ (by simp only [kpp,seval]) (by simp only [kpp,seval]) ?_
 rintro k ⟨hk, hr⟩
 unfold c16_1
 simp only [vmp,↓vmd,seval]
 refine onIf_intro fun hlen => ?_
 simp only [vmp,↓vmd,seval]
 refine onB_dec (fun h1 => ?_) (fun h1 => ?_)
 ·have hlt : k < a.length := by simpa using h1
  have hlt' : k < b.length := by omega
  have hlen' : a.length ≤ 9223372036854775807 := by simpa using hlen
  rw [drop_at hlt, drop_at hlt'] at hr
  simp only [map_at (f := U) hlt, map_at (f := U) hlt', Int.natCast_nonneg, *, vmp,↓vmd,seval]
  refine onB_dec (fun h2 => ?_) (fun h2 => ?_)
  ·simp only [*, vmp,↓vmd,seval]
   rw [show decide (a = b) = false by rw [decide_eq_false_iff_not]; intro e; subst e; exact h2 rfl]
   exact gives_pure
  ·simp only [*, vmp,↓vmd,seval]
   refine onBk_to (k + 1) [] (by simp) rfl (by omega) ⟨hlt, by rw [← hr, List.cons.injEq]; exact ⟨fun h => ⟨Classical.not_not.1 h2, h⟩, fun h => h.2⟩⟩ (by simp only [next_at hlt hlen', kpp,seval]) (by simp only [kpp,seval])
 ·simp only [*, vmp,↓vmd,seval]
  unfold c16_0
  simp only [*, vmp,↓vmd,seval]
  have hk' : a.length ≤ k := by simp at h1; omega
  rw [List.drop_of_length_le hk', List.drop_of_length_le (by omega)] at hr
  rw [show decide (a = b) = true by simp [← hr]]
  exact gives_pure
end Go.Proofs.YtcngcapbikfbnaaDoor.W
