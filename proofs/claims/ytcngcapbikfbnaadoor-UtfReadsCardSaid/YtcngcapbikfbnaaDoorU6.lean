/-
  Texts: reading bytes with losses; two texts compared. No condition but on sizes.
-/
import Derived.Test.YtcngcapbikfbnaaDoorU5
namespace Go.Proofs.YtcngcapbikfbnaaDoor.W
open Go Go.Vm Go.Proofs
set_option maxRecDepth 100000
set_option linter.unusedSimpArgs false
set_option maxHeartbeats 1000000
/-! typecase/utf.Lossy -/
def c24_0 : AC :=
 (.seq (.reg [oo 32 (.mov (.s 3)),
 oo 2 (.mov (.s 32))])
 .ret)
def c24_1 : AC :=
 (.seq (.seq (.reg [oo 7 (.mov (.s 4)),
 oo 8 (.mov (.s 0)),
 oo 9 (.len (.s 8)),
 oo 10 (.bin .lss (.s 7) (.s 9))])
 (.cond (.s 10)
 .skip
 (.exit 0)))
 (.block 1
 (.seq (.reg [oo 12 (.mov (.s 0)),
 oo 13 (.mov (.s 4)),
 oo 14 (.slc 1 (.s 12) (some (.s 13)) none none),
 oo 15 (.call 33 [(.s 14)]),
 oo 11 (.mov (.s 15)),
 oo 16 (.ext 0 (.s 11)),
 oo 17 (.ext 1 (.s 11)),
 oo 5 (.mov (.s 16)),
 oo 6 (.mov (.s 17))])
 (.seq (.seq (.reg [oo 18 (.mov (.s 6)),
 oo 19 (.bin .eql (.s 18) (nI 0))])
 (.cond (.s 19)
 (.reg [oo 20 (.mov (.s 0)),
 oo 21 (.mov (.s 4)),
 oo 22 (.slc 1 (.s 20) (some (.s 21)) none none),
 oo 23 (.call 34 [(.s 22)]),
 oo 24 (.mx (.s 23) (nI 1)),
 oo 5 (.mov (.c (.pure (.int .i32 65533)))),
 oo 6 (.mov (.s 24))])
 .skip))
 (.seq (.reg [oo 25 (.mov (.s 3)),
 oo 26 (.mov (.s 5)),
 oo 27 (.bslice 1 [(.s 26)]),
 oo 28 (.app 1 4 (.s 25) (.s 27)),
 oo 3 (.mov (.s 28))])
 (.reg [oo 29 (.mov (.s 4)),
 oo 30 (.mov (.s 6)),
 oo 31 (.bin .add (.s 29) (.s 30)),
 oo 4 (.mov (.s 31))]))))))
def c24 : AC :=
 (.seq (.reg [oo 2 (.mov (.c .empty))])
 (.seq (.reg [oo 3 (.mov (.c .empty))])
 (.seq (.seq (.reg [oo 4 (.mov (nI 0))])
 (.block 0
 (.loop c24_1)))
 c24_0)))
theorem k24 : OkF 24 Tryd.f24 c24 [.t 2] 33 := ⟨Tryd.func24, by kernel_rfl, by kernel_rfl, by kernel_rfl, Tryd.ntmps24⟩
/-! typecase/typecaseref02.Lossy -/
def c25_0 : AC :=
 (.seq (.reg [oo 34 (.mov (.s 3)),
 oo 2 (.mov (.s 34))])
 .ret)
def c25_1 : AC :=
 (.seq (.seq (.reg [oo 7 (.mov (.s 4)),
 oo 8 (.mov (.s 0)),
 oo 9 (.len (.s 8)),
 oo 10 (.bin .lss (.s 7) (.s 9))])
 (.cond (.s 10)
 .skip
 (.exit 0)))
 (.block 1
 (.seq (.reg [oo 12 (.mov (.s 0)),
 oo 13 (.mov (.s 4)),
 oo 14 (.call 35 [(.s 12), (.s 13)]),
 oo 11 (.mov (.s 14)),
 oo 15 (.ext 0 (.s 11)),
 oo 16 (.ext 1 (.s 11)),
 oo 5 (.mov (.s 15)),
 oo 6 (.mov (.s 16))])
 (.seq (.seq (.reg [oo 17 (.mov (.s 6))])
 (.cond (.s 17)
 (.reg [oo 18 (.mov (.s 3)),
 oo 19 (.mov (.s 0)),
 oo 20 (.mov (.s 4)),
 oo 21 (.mov (.s 4)),
 oo 22 (.mov (.s 5)),
 oo 23 (.bin .add (.s 21) (.s 22)),
 oo 24 (.slc 1 (.s 19) (some (.s 20)) (some (.s 23)) none),
 oo 25 (.call 37 [(.s 24)]),
 oo 26 (.bslice 1 [(.s 25)]),
 oo 27 (.app 1 4 (.s 18) (.s 26)),
 oo 3 (.mov (.s 27))])
 (.reg [oo 28 (.mov (.s 3)),
 oo 29 (.bslice 1 [(.c (.pure (.int .i32 65533)))]),
 oo 30 (.app 1 4 (.s 28) (.s 29)),
 oo 3 (.mov (.s 30))])))
 (.reg [oo 31 (.mov (.s 4)),
 oo 32 (.mov (.s 5)),
 oo 33 (.bin .add (.s 31) (.s 32)),
 oo 4 (.mov (.s 33))])))))
def c25 : AC :=
 (.seq (.reg [oo 2 (.mov (.c .empty))])
 (.seq (.reg [oo 3 (.mov (.c .empty))])
 (.seq (.reg [oo 4 (.mov (nI 0))])
 (.seq (.block 0
 (.loop c25_1))
 c25_0))))
theorem k25 : OkF 25 Tryd.f25 c25 [.t 2] 35 := ⟨Tryd.func25, by kernel_rfl, by kernel_rfl, by kernel_rfl, Tryd.ntmps25⟩
/-! typecase/typecaseref02.Same -/
def c23_0 : AC :=
 (.seq (.reg [oo 4 (.mov (nB true))])
 .ret)
def c23_1 : AC :=
 (.seq (.seq (.reg [oo 11 (.mov (.s 5)),
 oo 12 (.mov (.s 0)),
 oo 13 (.len (.s 12)),
 oo 14 (.bin .lss (.s 11) (.s 13))])
 (.cond (.s 14)
 .skip
 (.exit 0)))
 (.seq (.block 1
 (.seq (.regq [oo 17 (.mov (.s 0)),
 oo 18 (.mov (.s 5)),
 oo 19 (.idxA 1 (.s 17) (.s 18)),
 oo 20 (.load false 1 (.s 19)),
 oo 21 (.mov (.s 1)),
 oo 22 (.mov (.s 5)),
 oo 23 (.idxA 1 (.s 21) (.s 22)),
 oo 24 (.load false 1 (.s 23))]
[oo 25 (.bin .neq (.s 20) (.s 24))])
 (.cond (.s 25)
 (.seq (.reg [oo 4 (.mov (nB false))])
 .ret)
 .skip)))
 (.reg [oo 15 (.mov (.s 5)),
 oo 16 (.bin .add (.s 15) (nI 1)),
 oo 5 (.mov (.s 16))])))
def c23 : AC :=
 (.seq (.reg [oo 4 (.mov (nB false))])
 (.seq (.seq (.reg [oo 6 (.mov (.s 0)),
 oo 7 (.len (.s 6)),
 oo 8 (.mov (.s 1)),
 oo 9 (.len (.s 8)),
 oo 10 (.bin .neq (.s 7) (.s 9))])
 (.cond (.s 10)
 (.seq (.reg [oo 4 (.mov (nB false))])
 .ret)
 .skip))
 (.seq (.seq (.reg [oo 5 (.mov (nI 0))])
 (.block 0
 (.loop c23_1)))
 c23_0)))
theorem k23 : OkF 23 Tryd.f23 c23 [.t 4] 26 := ⟨Tryd.func23, by kernel_rfl, by kernel_rfl, by kernel_rfl, Tryd.ntmps23⟩
/-! typecase/typecaselaw02.units -/
def c16_0 : AC :=
 (.seq (.reg [oo 4 (.mov (nB true))])
 .ret)
def c16_1 : AC :=
 (.seq (.seq (.reg [oo 11 (.mov (.s 5)),
 oo 12 (.mov (.s 0)),
 oo 13 (.len (.s 12)),
 oo 14 (.bin .lss (.s 11) (.s 13))])
 (.cond (.s 14)
 .skip
 (.exit 0)))
 (.seq (.block 1
 (.seq (.regq [oo 17 (.mov (.s 0)),
 oo 18 (.mov (.s 5)),
 oo 19 (.idxA 1 (.s 17) (.s 18)),
 oo 20 (.load false 1 (.s 19)),
 oo 21 (.mov (.s 1)),
 oo 22 (.mov (.s 5)),
 oo 23 (.idxA 1 (.s 21) (.s 22)),
 oo 24 (.load false 1 (.s 23))]
[oo 25 (.bin .neq (.s 20) (.s 24))])
 (.cond (.s 25)
 (.seq (.reg [oo 4 (.mov (nB false))])
 .ret)
 .skip)))
 (.reg [oo 15 (.mov (.s 5)),
 oo 16 (.bin .add (.s 15) (nI 1)),
 oo 5 (.mov (.s 16))])))
def c16 : AC :=
 (.seq (.reg [oo 4 (.mov (nB false))])
 (.seq (.seq (.reg [oo 6 (.mov (.s 0)),
 oo 7 (.len (.s 6)),
 oo 8 (.mov (.s 1)),
 oo 9 (.len (.s 8)),
 oo 10 (.bin .neq (.s 7) (.s 9))])
 (.cond (.s 10)
 (.seq (.reg [oo 4 (.mov (nB false))])
 .ret)
 .skip))
 (.seq (.seq (.reg [oo 5 (.mov (nI 0))])
 (.block 0
 (.loop c16_1)))
 c16_0)))
/-- what a lossy reading answers -/
def losR (b : List Int) : List Int := lossF b.length b []
theorem loss_one {f : Nat} {b acc : List Int} (hne : b ≠ []) (hok : okB b = true) : lossF (f + 1) b acc = lossF f (b.drop (lng (hd b))) (acc ++ [valF (b.take (lng (hd b)))]) := by
 rw [lossF, if_neg hne, if_pos hok]
theorem loss_bad {f : Nat} {b acc : List Int} (hne : b ≠ []) (hok : okB b = false) : lossF (f + 1) b acc = lossF f (b.drop (st b)) (acc ++ [65533]) := by
 rw [lossF, if_neg hne, if_neg (by rw [hok]; simp)]
theorem loss_nil {f : Nat} {acc : List Int} : lossF f [] acc = acc := by
 cases f with
 | zero => rfl
 | succ f => rw [lossF, if_pos rfl]
def LInv (b : List Int) (s : Nat × List Int) : Prop := s.1 ≤ b.length ∧ s.2.length ≤ s.1 ∧ ∃ f, b.length - s.1 ≤ f ∧ lossF f (b.drop s.1) s.2 = losR b
theorem LInv.start {b : List Int} : LInv b (0, []) := ⟨Nat.zero_le _, Nat.le_refl _, b.length, by simp, rfl⟩
theorem LInv.last {b : List Int} {s : Nat × List Int} (h : LInv b s) (hl : ¬ s.1 < b.length) : losR b = s.2 := by
 obtain ⟨h1, h2, f, hf, e⟩ := h
 rw [List.drop_eq_nil_of_le (by omega), loss_nil] at e
 exact e.symm
theorem LInv.go {b : List Int} {t : Nat} {X : List Int} (h : LInv b (t, X)) (hl : t < b.length) (hok : okB (b.drop t) = true) :
  LInv b (t + lng (hd (b.drop t)), X ++ [valF ((b.drop t).take (lng (hd (b.drop t))))]) := by
 obtain ⟨h1, h2, f, hf, e⟩ := h
 have hlng := ok_lng hok
 simp only at h1 h2 hf e
 have hdl : (b.drop t).length = b.length - t := List.length_drop
 cases f with
 | zero => omega
 | succ f =>
  rw [loss_one (drop_ne hl) hok, List.drop_drop] at e
  refine ⟨by simp only; omega, by simp only [List.length_append, List.length_cons, List.length_nil]; omega, f, by simp only; omega, ?_⟩
  simp only
  rw [← e]
theorem LInv.bad {b : List Int} {t : Nat} {X : List Int} (h : LInv b (t, X)) (hl : t < b.length) (hok : okB (b.drop t) = false) :
  LInv b (t + st (b.drop t), X ++ [65533]) := by
 obtain ⟨h1, h2, f, hf, e⟩ := h
 have hst := st_pos (drop_ne hl)
 simp only at h1 h2 hf e
 have hdl : (b.drop t).length = b.length - t := List.length_drop
 cases f with
 | zero => omega
 | succ f =>
  rw [loss_bad (drop_ne hl) hok, List.drop_drop] at e
  refine ⟨by simp only; omega, by simp only [List.length_append, List.length_cons, List.length_nil]; omega, f, by simp only; omega, ?_⟩
  simp only
  rw [← e]
theorem beg_max {b : List Int} (hne : b ≠ []) (hok : okB b = false) : (if 1 > begF b then 1 else begF b) = (st b : Int) := by
 have hst := st_pos hne
 rcases begF_st hne hok with ⟨e1, e2, e3⟩ | ⟨e1, e2, e3⟩
 ·rw [e1, e3]; rfl
 ·rw [e1]; split <;> omega
theorem lossy_q (b : List Int) (hb : Byt b) (hl : b.length ≤ 10000) : FnQ Tryd.prog 24 [.sl (b.map B)] [.sl ((losR b).map R)] := by
 refine k24.q (by simp) ?_
 unfold c24
 simp only [vmp,↓vmd,seval]
 refine loop_virt 3 1 rfl (by simp) ?_
 refine loop_at (T := Nat × List Int) (fun s => [(4, .pure (I s.1)), (3, .rsl 0 0 s.2.length), (0, .pure (.sl (b.map B)))]) (fun s => [rR s.2]) (LInv b) (fun s => b.length - s.1)
  (0, []) [0] (by simp) rfl LInv.start (by simp only [kpp,seval]) (by simp only [kpp,seval]) ?_
 rintro ⟨t, X⟩ hI
 unfold c24_1
 simp only [vmp,↓vmd,seval]
 refine onIf_intro fun hlen => ?_
 simp only [vmp,↓vmd,seval]
 by_cases c1 : (t : Int) < (b.length : Int)
 case' neg => (
  have e := hI.last (by simp only; omega)
  refine onB_neg c1 ?_
  simp only [c1, vmp,↓vmd,seval]
  unfold c24_0
  rw [e]
  simp only [vmp,↓vmd,seval]
  exact gives_row rfl (by simp))
 have ht : t < b.length := by omega
 have t0 : (0 : Int) ≤ (t : Int) := by omega
 have t1 : (t : Int) ≤ (b.length : Int) := by omega
 refine onB_pos c1 ?_
 simp only [c1, t0, t1, vmp,↓vmd,seval]
 refine onS_eq (slc_b (by omega)) ?_
 have hdl : (b.drop t).length = b.length - t := List.length_drop
 have hne := drop_ne ht
 have hX : X.length ≤ t := hI.2.1
 refine onC_q (frm_q (b.drop t) (hb.drop t) (by omega)) rfl ?_
 cases hok : okB (b.drop t)
 ·have hgo := hI.bad ht hok
  have hmx := beg_max hne hok
  have hst := st_pos hne
  have ef : frmF (b.drop t) = (0, 0) := by rw [frmF, if_neg (by rw [hok]; simp)]
  rw [ef]
  (first | apply envO | apply envQ); simp only [vmp,↓vmd,seval]; rfl
  simp only [t0, t1, vmp,↓vmd,seval]
  refine onS_eq (slc_b (by omega)) ?_
  refine onC_q (beg_q (b.drop t) (hb.drop t) (by omega)) rfl ?_
  generalize st (b.drop t) = L at *
  (first | apply envO | apply envQ); simp only [vmp,↓vmd,seval]; rfl
  simp only [hmx, vmp,↓vmd,seval]
  refine onIf'_intro (appOk_one rfl rfl (by omega) (by omega) (by simp only [maxLen]; omega)) ?_
  rw [show (S.pure (V.int .i32 65533)) = S.pure (R 65533) from rfl, row_push]
  have w : IntKind.wrap .i64 ((t : Int) + (L : Int)) = ((t + L : Nat) : Int) := by rw [wrap_id (by omega) (by omega)]; omega
  have hXl : (X ++ [65533]).length = X.length + 1 := by simp
  simp only [hmx, w, vmp,↓vmd,seval]
  refine onBk_to (t + L, X ++ [65533]) [2] (by simp) rfl (by simp only; omega) hgo (by simp only [hXl, kpp,seval]) (by simp only [kpp,seval])
 ·have ef : frmF (b.drop t) = (valF ((b.drop t).take (lng (hd (b.drop t)))), (lng (hd (b.drop t)) : Int)) := by rw [frmF, if_pos hok]
  have hgo := hI.go ht hok
  have hlng := ok_lng hok
  rw [ef]
  generalize valF ((b.drop t).take (lng (hd (b.drop t)))) = v at *
  generalize lng (hd (b.drop t)) = L at *
  have n0 : ¬ (L : Int) = 0 := by omega
  (first | apply envO | apply envQ); simp only [vmp,↓vmd,seval]; rfl
  simp only [n0, vmp,↓vmd,seval]
  refine onIf'_intro (appOk_one rfl rfl (by omega) (by omega) (by simp only [maxLen]; omega)) ?_
  rw [row_push]
  have w : IntKind.wrap .i64 ((t : Int) + (L : Int)) = ((t + L : Nat) : Int) := by rw [wrap_id (by omega) (by omega)]; omega
  have hXl : (X ++ [v]).length = X.length + 1 := by simp
  simp only [w, vmp,↓vmd,seval]
  refine onBk_to (t + L, X ++ [v]) [2] (by simp) rfl (by simp only; omega) hgo (by simp only [hXl, kpp,seval]) (by simp only [kpp,seval])
theorem rlossy_q (b : List Int) (hb : Byt b) (hl : b.length ≤ 10000) : FnQ Tryd.prog 25 [.sl (b.map B)] [.sl ((losR b).map R)] := by
 refine k25.q (by simp) ?_
 unfold c25
 simp only [vmp,↓vmd,seval]
 refine loop_virt 3 1 rfl (by simp) ?_
 refine loop_at (T := Nat × List Int) (fun s => [(4, .pure (I s.1)), (3, .rsl 0 0 s.2.length), (0, .pure (.sl (b.map B)))]) (fun s => [rR s.2]) (LInv b) (fun s => b.length - s.1)
  (0, []) [0] (by simp) rfl LInv.start (by simp only [kpp,seval]) (by simp only [kpp,seval]) ?_
 rintro ⟨t, X⟩ hI
 unfold c25_1
 simp only [vmp,↓vmd,seval]
 refine onIf_intro fun hlen => ?_
 simp only [vmp,↓vmd,seval]
 by_cases c1 : (t : Int) < (b.length : Int)
 case' neg => (
  have e := hI.last (by simp only; omega)
  refine onB_neg c1 ?_
  simp only [c1, vmp,↓vmd,seval]
  unfold c25_0
  rw [e]
  simp only [vmp,↓vmd,seval]
  exact gives_row rfl (by simp))
 have ht : t < b.length := by omega
 have t0 : (0 : Int) ≤ (t : Int) := by omega
 have t1 : (t : Int) ≤ (b.length : Int) := by omega
 have hdl : (b.drop t).length = b.length - t := List.length_drop
 have hne := drop_ne ht
 have hst := st_pos hne
 have hX : X.length ≤ t := hI.2.1
 refine onB_pos c1 ?_
 simp only [c1, t0, t1, vmp,↓vmd,seval]
 refine onC_q (stands_q b t hb ht (by omega)) rfl ?_
 have w : IntKind.wrap .i64 ((t : Int) + (st (b.drop t) : Int)) = ((t + st (b.drop t) : Nat) : Int) := by rw [wrap_id (by omega) (by omega)]; omega
 cases hok : okB (b.drop t)
 ·have hgo := hI.bad ht hok
  generalize st (b.drop t) = L at *
  (first | apply envO | apply envQ); simp only [vmp,↓vmd,seval]; rfl
  simp only [vmp,↓vmd,seval]
  refine onIf'_intro (appOk_one rfl rfl (by omega) (by omega) (by simp only [maxLen]; omega)) ?_
  rw [show (S.pure (V.int .i32 65533)) = S.pure (R 65533) from rfl, row_push]
  have hXl : (X ++ [65533]).length = X.length + 1 := by simp
  simp only [w, vmp,↓vmd,seval]
  refine onBk_to (t + L, X ++ [65533]) [2] (by simp) rfl (by simp only; omega) hgo (by simp only [hXl, kpp,seval]) (by simp only [kpp,seval])
 ·have hgo := hI.go ht hok
  have hlng := ok_lng hok
  have l4 := lng_le (c := hd (b.drop t))
  rw [hlng.2.2] at w ⊢
  (first | apply envO | apply envQ); simp only [vmp,↓vmd,seval]; rfl
  simp only [w, t0, t1, vmp,↓vmd,seval]
  refine onS_eq (slc_bt (by omega)) ?_
  refine onC_q (rune1_q _ ((hb.drop t).take _) (by simp; omega) (by simp; omega)) rfl ?_
  generalize valF ((b.drop t).take (lng (hd (b.drop t)))) = v at *
  generalize lng (hd (b.drop t)) = L at *
  refine ⟨fun o ho => by cases List.mem_singleton.1 ho; exact ⟨rfl, rfl⟩, ?_⟩
  show aOps _ _ _ _ _
  (first | apply envO | apply envQ); simp only [vmp,↓vmd,seval]; rfl
  simp only [vmp,↓vmd,seval]
  refine onIf'_intro (appOk_one rfl rfl (by omega) (by omega) (by simp only [maxLen]; omega)) ?_
  rw [row_push]
  have hXl : (X ++ [v]).length = X.length + 1 := by simp
  simp only [w, vmp,↓vmd,seval]
  refine onBk_to (t + L, X ++ [v]) [2] (by simp) rfl (by simp only; omega) hgo (by simp only [hXl, kpp,seval]) (by simp only [kpp,seval])
theorem samer_q (a b : List Int) : FnQ Tryd.prog 23 [.sl (a.map R), .sl (b.map R)] [.bool (decide (a = b))] := by
 refine k23.q (by simp) ?_
 unfold c23
 simp only [*, vmp,↓vmd,seval]
 refine onIf_intro fun ha => ?_
 simp only [*, vmp,↓vmd,seval]
 refine onIf_intro fun hb => ?_
 simp only [*, vmp,↓vmd,seval]
 refine onB_dec (fun h0 => ?_) (fun h0 => ?_)
 ·simp only [*, vmp,↓vmd,seval]
  rw [show decide (a = b) = false by simp; rintro rfl; simp at h0]
  exact gives_pure
 simp only [*, vmp,↓vmd,seval]
 have hab : a.length = b.length := by simp at h0; omega
 refine loop_at (T := Nat) (fun k => [(5, .pure (I k)), (0, .pure (.sl (a.map R))), (1, .pure (.sl (b.map R)))]) (fun _ => []) (fun k => k ≤ a.length ∧ (a.drop k = b.drop k ↔ a = b)) (fun k => a.length - k)
  0 [] (by simp) rfl ⟨by simp, by simp⟩ (by simp only [kpp,seval]) (by simp only [kpp,seval]) ?_
 rintro k ⟨hk, hr⟩
 unfold c23_1
 simp only [vmp,↓vmd,seval]
 refine onIf_intro fun hlen => ?_
 simp only [vmp,↓vmd,seval]
 refine onB_dec (fun h1 => ?_) (fun h1 => ?_)
 ·have hlt : k < a.length := by simpa using h1
  have hlt' : k < b.length := by omega
  have hlen' : a.length ≤ 9223372036854775807 := by simpa using hlen
  rw [drop_at hlt, drop_at hlt'] at hr
  simp only [map_at (f := R) hlt, map_at (f := R) hlt', Int.natCast_nonneg, *, vmp,↓vmd,seval]
  refine onB_dec (fun h2 => ?_) (fun h2 => ?_)
  ·simp only [*, vmp,↓vmd,seval]
   rw [show decide (a = b) = false by rw [decide_eq_false_iff_not]; intro e; subst e; exact h2 rfl]
   exact gives_pure
  ·simp only [*, vmp,↓vmd,seval]
   refine onBk_to (k + 1) [] (by simp) rfl (by omega) ⟨hlt, by rw [← hr, List.cons.injEq]; exact ⟨fun h => ⟨Classical.not_not.1 h2, h⟩, fun h => h.2⟩⟩ (by simp only [next_at hlt hlen', kpp,seval]) (by simp only [kpp,seval])
 ·simp only [*, vmp,↓vmd,seval]
  unfold c23_0
  simp only [*, vmp,↓vmd,seval]
  have hk' : a.length ≤ k := by simp at h1; omega
  rw [List.drop_of_length_le hk', List.drop_of_length_le (by omega)] at hr
  rw [show decide (a = b) = true by simp [← hr]]
  exact gives_pure
end Go.Proofs.YtcngcapbikfbnaaDoor.W
