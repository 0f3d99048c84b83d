/-
  Texts: reading units. No condition but on sizes.
-/
import Derived.Test.YtcngcapbikfbnaaDoorU4
import Derived.Test.YtcngcapbikfbnaaDoorU7
namespace Go.Proofs.YtcngcapbikfbnaaDoor.W
open Go Go.Vm Go.Proofs
set_option maxRecDepth 100000
set_option linter.unusedSimpArgs false
set_option maxHeartbeats 1000000
/-! typecase/utf.FromUnits -/
def c26_0 : AC :=
 (.seq (.reg [oo 83 (.mov (.s 5)),
 oo 84 (.mov (.s 0)),
 oo 85 (.len (.s 84)),
 oo 2 (.mov (.s 83)),
 oo 3 (.mov (.s 85)),
 oo 4 (.mov (nI 0))])
 .ret)
def c26_1 : AC :=
 (.seq (.seq (.reg [oo 8 (.mov (.s 6)),
 oo 9 (.mov (.s 0)),
 oo 10 (.len (.s 9)),
 oo 11 (.bin .lss (.s 8) (.s 10))])
 (.cond (.s 11)
 .skip
 (.exit 0)))
 (.seq (.block 1
 (.seq (.reg [oo 14 (.mov (.s 0)),
 oo 15 (.mov (.s 6)),
 oo 16 (.idxA 1 (.s 14) (.s 15)),
 oo 17 (.load false 1 (.s 16)),
 oo 7 (.mov (.s 17))])
 (.seq (.seq (.reg [oo 18 (.mov (.s 7)),
 oo 19 (.bin .lss (.s 18) (.c (.pure (.int .u16 55296)))),
 oo 20 (.mov (.s 19)),
 og 21 20 false (.mov (.s 7)),
 og 22 20 false (.bin .gtr (.s 21) (.c (.pure (.int .u16 57343)))),
 oo 23 (.pick (.s 20) (nB true) (.s 22))])
 (.cond (.s 23)
 (.seq (.reg [oo 24 (.mov (.s 5)),
 oo 25 (.mov (.s 7)),
 oo 26 (.conv .i32 (.s 25)),
 oo 27 (.bslice 1 [(.s 26)]),
 oo 28 (.app 1 4 (.s 24) (.s 27)),
 oo 5 (.mov (.s 28))])
 (.exit 1))
 .skip))
 (.seq (.seq (.reg [oo 29 (.mov (.s 7)),
 oo 30 (.bin .lss (.s 29) (.c (.pure (.int .u16 56320)))),
 oo 31 (.mov (.s 30)),
 og 32 31 true (.mov (.s 6)),
 og 33 31 true (.bin .add (.s 32) (nI 1)),
 og 34 31 true (.mov (.s 0)),
 og 35 31 true (.len (.s 34)),
 og 36 31 true (.bin .lss (.s 33) (.s 35)),
 oo 37 (.pick (.s 31) (.s 36) (nB false)),
 oo 38 (.mov (.s 37)),
 og 39 38 true (.mov (.s 0)),
 og 40 38 true (.mov (.s 6)),
 og 41 38 true (.bin .add (.s 40) (nI 1)),
 og 42 38 true (.idxA 1 (.s 39) (.s 41)),
 og 43 38 true (.load false 1 (.s 42)),
 og 44 38 true (.bin .geq (.s 43) (.c (.pure (.int .u16 56320)))),
 oo 45 (.pick (.s 38) (.s 44) (nB false)),
 oo 46 (.mov (.s 45)),
 og 47 46 true (.mov (.s 0)),
 og 48 46 true (.mov (.s 6)),
 og 49 46 true (.bin .add (.s 48) (nI 1)),
 og 50 46 true (.idxA 1 (.s 47) (.s 49)),
 og 51 46 true (.load false 1 (.s 50)),
 og 52 46 true (.bin .leq (.s 51) (.c (.pure (.int .u16 57343)))),
 oo 53 (.pick (.s 46) (.s 52) (nB false))])
 (.cond (.s 53)
 (.seq (.reg [oo 54 (.mov (.s 5)),
 oo 55 (.mov (.s 7)),
 oo 56 (.bin .sub (.s 55) (.c (.pure (.int .u16 55296)))),
 oo 57 (.conv .i32 (.s 56)),
 oo 58 (.bin .shl (.s 57) (.c (.pure (.int .u64 10)))),
 oo 59 (.bin .add (.c (.pure (.int .i32 65536))) (.s 58)),
 oo 60 (.mov (.s 0)),
 oo 61 (.mov (.s 6)),
 oo 62 (.bin .add (.s 61) (nI 1)),
 oo 63 (.idxA 1 (.s 60) (.s 62)),
 oo 64 (.load false 1 (.s 63)),
 oo 65 (.bin .sub (.s 64) (.c (.pure (.int .u16 56320)))),
 oo 66 (.conv .i32 (.s 65)),
 oo 67 (.bin .add (.s 59) (.s 66)),
 oo 68 (.bslice 1 [(.s 67)]),
 oo 69 (.app 1 4 (.s 54) (.s 68)),
 oo 5 (.mov (.s 69))])
 (.seq (.reg [oo 70 (.mov (.s 6)),
 oo 71 (.bin .add (.s 70) (nI 1)),
 oo 6 (.mov (.s 71))])
 (.exit 1)))
 .skip))
 (.seq (.seq (.reg [oo 72 (.mov (.s 7)),
 oo 73 (.bin .lss (.s 72) (.c (.pure (.int .u16 56320)))),
 oo 74 (.mov (.s 73)),
 og 75 74 true (.mov (.s 6)),
 og 76 74 true (.bin .add (.s 75) (nI 1)),
 og 77 74 true (.mov (.s 0)),
 og 78 74 true (.len (.s 77)),
 og 79 74 true (.bin .eql (.s 76) (.s 78)),
 oo 80 (.pick (.s 74) (.s 79) (nB false))])
 (.cond (.s 80)
 (.seq (.reg [oo 81 (.mov (.s 6)),
 oo 2 (.mov (.c .empty)),
 oo 3 (.mov (.s 81)),
 oo 4 (.mov (nI 4))])
 .ret)
 .skip))
 (.seq (.reg [oo 82 (.mov (.s 6)),
 oo 2 (.mov (.c .empty)),
 oo 3 (.mov (.s 82)),
 oo 4 (.mov (nI 3))])
 .ret))))))
 (.reg [oo 12 (.mov (.s 6)),
 oo 13 (.bin .add (.s 12) (nI 1)),
 oo 6 (.mov (.s 13))])))
def c26 : AC :=
 (.seq (.reg [oo 2 (.mov (.c .empty)),
 oo 3 (.mov (nI 0)),
 oo 4 (.mov (nI 0))])
 (.seq (.reg [oo 5 (.mov (.c .empty))])
 (.seq (.seq (.reg [oo 6 (.mov (nI 0))])
 (.block 0
 (.loop c26_1)))
 c26_0)))
/-! typecase/typecaseref02.FromUnits -/
def c27_0 : AC :=
 (.seq (.reg [oo 66 (.mov (.s 5)),
 oo 67 (.mov (.s 0)),
 oo 68 (.len (.s 67)),
 oo 2 (.mov (.s 66)),
 oo 3 (.mov (.s 68)),
 oo 4 (.mov (nI 0))])
 .ret)
def c27_1 : AC :=
 (.seq (.seq (.reg [oo 9 (.mov (.s 6)),
 oo 10 (.mov (.s 0)),
 oo 11 (.len (.s 10)),
 oo 12 (.bin .lss (.s 9) (.s 11))])
 (.cond (.s 12)
 .skip
 (.exit 0)))
 (.block 1
 (.seq (.reg [oo 13 (.mov (.s 0)),
 oo 14 (.mov (.s 6)),
 oo 15 (.idxA 1 (.s 13) (.s 14)),
 oo 16 (.load false 1 (.s 15)),
 oo 17 (.conv .i64 (.s 16)),
 oo 7 (.mov (.s 17))])
 (.seq (.seq (.reg [oo 18 (.mov (.s 7)),
 oo 19 (.bin .lss (.s 18) (nI 55296)),
 oo 20 (.mov (.s 19)),
 og 21 20 false (.mov (.s 7)),
 og 22 20 false (.bin .gtr (.s 21) (nI 57343)),
 oo 23 (.pick (.s 20) (nB true) (.s 22))])
 (.cond (.s 23)
 (.seq (.reg [oo 24 (.mov (.s 5)),
 oo 25 (.mov (.s 7)),
 oo 26 (.conv .i32 (.s 25)),
 oo 27 (.bslice 1 [(.s 26)]),
 oo 28 (.app 1 4 (.s 24) (.s 27)),
 oo 5 (.mov (.s 28))])
 (.seq (.reg [oo 29 (.mov (.s 6)),
 oo 30 (.bin .add (.s 29) (nI 1)),
 oo 6 (.mov (.s 30))])
 (.exit 1)))
 .skip))
 (.seq (.seq (.reg [oo 31 (.mov (.s 7)),
 oo 32 (.bin .gtr (.s 31) (nI 56319))])
 (.cond (.s 32)
 (.seq (.reg [oo 33 (.mov (.s 6)),
 oo 2 (.mov (.c .empty)),
 oo 3 (.mov (.s 33)),
 oo 4 (.mov (nI 3))])
 .ret)
 .skip))
 (.seq (.seq (.reg [oo 34 (.mov (.s 6)),
 oo 35 (.bin .add (.s 34) (nI 1)),
 oo 36 (.mov (.s 0)),
 oo 37 (.len (.s 36)),
 oo 38 (.bin .eql (.s 35) (.s 37))])
 (.cond (.s 38)
 (.seq (.reg [oo 39 (.mov (.s 6)),
 oo 2 (.mov (.c .empty)),
 oo 3 (.mov (.s 39)),
 oo 4 (.mov (nI 4))])
 .ret)
 .skip))
 (.seq (.reg [oo 40 (.mov (.s 0)),
 oo 41 (.mov (.s 6)),
 oo 42 (.bin .add (.s 41) (nI 1)),
 oo 43 (.idxA 1 (.s 40) (.s 42)),
 oo 44 (.load false 1 (.s 43)),
 oo 45 (.conv .i64 (.s 44)),
 oo 8 (.mov (.s 45))])
 (.seq (.seq (.reg [oo 46 (.mov (.s 8)),
 oo 47 (.bin .lss (.s 46) (nI 56320)),
 oo 48 (.mov (.s 47)),
 og 49 48 false (.mov (.s 8)),
 og 50 48 false (.bin .gtr (.s 49) (nI 57343)),
 oo 51 (.pick (.s 48) (nB true) (.s 50))])
 (.cond (.s 51)
 (.seq (.reg [oo 52 (.mov (.s 6)),
 oo 2 (.mov (.c .empty)),
 oo 3 (.mov (.s 52)),
 oo 4 (.mov (nI 3))])
 .ret)
 .skip))
 (.seq (.reg [oo 53 (.mov (.s 5)),
 oo 54 (.mov (.s 7)),
 oo 55 (.bin .sub (.s 54) (nI 55296)),
 oo 56 (.bin .mul (.s 55) (nI 1024)),
 oo 57 (.bin .add (nI 65536) (.s 56)),
 oo 58 (.mov (.s 8)),
 oo 59 (.bin .add (.s 57) (.s 58)),
 oo 60 (.bin .sub (.s 59) (nI 56320)),
 oo 61 (.conv .i32 (.s 60)),
 oo 62 (.bslice 1 [(.s 61)]),
 oo 63 (.app 1 4 (.s 53) (.s 62)),
 oo 5 (.mov (.s 63))])
 (.reg [oo 64 (.mov (.s 6)),
 oo 65 (.bin .add (.s 64) (nI 2)),
 oo 6 (.mov (.s 65))]))))))))))
def c27 : AC :=
 (.seq (.reg [oo 2 (.mov (.c .empty)),
 oo 3 (.mov (nI 0)),
 oo 4 (.mov (nI 0))])
 (.seq (.reg [oo 5 (.mov (.c .empty))])
 (.seq (.reg [oo 6 (.mov (nI 0))])
 (.seq (.block 0
 (.loop c27_1))
 c27_0))))
abbrev rF (X : List Int) : Row := ⟨(X.map R).map .pure, 1, .live⟩
/-- units -/
def Uns (u : List Int) : Prop := ∀ c ∈ u, 0 ≤ c ∧ c ≤ 65535
theorem Uns.at {u : List Int} (h : Uns u) {k : Nat} (hk : k < u.length) : 0 ≤ u[k] ∧ u[k] ≤ 65535 := h _ (List.getElem_mem hk)
/-- what a reading of units answers -/
def froR (u : List Int) : List Int × Int × Int := fromF u.length u 0 []
theorem from_nil {f : Nat} {acc : List Int} {a : Int} : fromF f [] a acc = (acc, a, 0) := by
 cases f with
 | zero => rfl
 | succ f => rw [fromF, if_pos rfl]
def FInv (u : List Int) (s : Nat × List Int) : Prop := s.1 ≤ u.length ∧ s.2.length ≤ s.1 ∧ ∃ f, u.length - s.1 ≤ f ∧ fromF f (u.drop s.1) s.1 s.2 = froR u
theorem FInv.start {u : List Int} : FInv u (0, []) := ⟨Nat.zero_le _, Nat.le_refl _, u.length, by simp, rfl⟩
theorem FInv.last {u : List Int} {s : Nat × List Int} (h : FInv u s) (hl : ¬ s.1 < u.length) : froR u = (s.2, (u.length : Int), 0) := by
 obtain ⟨h1, h2, f, hf, e⟩ := h
 rw [List.drop_eq_nil_of_le (by omega), from_nil] at e
 rw [← e, show s.1 = u.length by omega]
theorem FInv.step {u : List Int} {t : Nat} {X : List Int} (h : FInv u (t, X)) (hl : t < u.length) : ∃ f, u.length - t ≤ f + 1 ∧ froR u =
  (if u[t] < 55296 ∨ 57343 < u[t] then fromF f (u.drop (t + 1)) ((t + 1 : Nat) : Int) (X ++ [u[t]])
  else if 56319 < u[t] then ([], (t : Int), 3)
  else if u.length - t = 1 then ([], (t : Int), 4)
  else if 56320 ≤ hd (u.drop (t + 1)) ∧ hd (u.drop (t + 1)) ≤ 57343 then fromF f (u.drop (t + 2)) ((t + 2 : Nat) : Int) (X ++ [65536 + (u[t] - 55296) * 1024 + (hd (u.drop (t + 1)) - 56320)])
  else ([], (t : Int), 3)) := by
 obtain ⟨h1, h2, f, hf, e⟩ := h
 simp only at h1 h2 hf e
 have hdl : (u.drop t).length = u.length - t := List.length_drop
 cases f with
 | zero => omega
 | succ f =>
  rw [fromF, if_neg (drop_ne hl), hd_drop hl, List.drop_drop, List.drop_drop, hdl] at e
  exact ⟨f, hf, e.symm⟩
theorem FInv.one {u : List Int} {t : Nat} {X : List Int} (h : FInv u (t, X)) (hl : t < u.length) (hc : u[t] < 55296 ∨ 57343 < u[t]) : FInv u (t + 1, X ++ [u[t]]) := by
 obtain ⟨f, hf, e⟩ := h.step hl
 rw [if_pos hc] at e
 exact ⟨hl, by have := h.2.1; simp only [List.length_append, List.length_cons, List.length_nil] at this ⊢; omega, f, by simp only; omega, e.symm⟩
theorem FInv.two {u : List Int} {t : Nat} {X : List Int} (h : FInv u (t, X)) (hl : t + 1 < u.length) (h1 : 55296 ≤ u[t]) (h2 : u[t] ≤ 56319) (h3 : 56320 ≤ u[t + 1]) (h4 : u[t + 1] ≤ 57343) :
  FInv u (t + 2, X ++ [65536 + (u[t] - 55296) * 1024 + (u[t + 1] - 56320)]) := by
 obtain ⟨f, hf, e⟩ := h.step (by omega)
 rw [if_neg (by omega), if_neg (by omega), if_neg (by omega), hd_drop hl, if_pos ⟨h3, h4⟩] at e
 exact ⟨by simp only; omega, by have := h.2.1; simp only [List.length_append, List.length_cons, List.length_nil] at this ⊢; omega, f, by simp only; omega, e.symm⟩
theorem FInv.low {u : List Int} {t : Nat} {X : List Int} (h : FInv u (t, X)) (hl : t < u.length) (h1 : 56319 < u[t]) (h2 : u[t] ≤ 57343) : froR u = ([], (t : Int), 3) := by
 obtain ⟨f, hf, e⟩ := h.step hl
 rwa [if_neg (by omega), if_pos h1] at e
theorem FInv.cut {u : List Int} {t : Nat} {X : List Int} (h : FInv u (t, X)) (hl : t + 1 = u.length) (h1 : 55296 ≤ u[t]) (h2 : u[t] ≤ 56319) : froR u = ([], (t : Int), 4) := by
 obtain ⟨f, hf, e⟩ := h.step (by omega)
 rwa [if_neg (by omega), if_neg (by omega), if_pos (by omega)] at e
theorem FInv.bad {u : List Int} {t : Nat} {X : List Int} (h : FInv u (t, X)) (hl : t + 1 < u.length) (h1 : 55296 ≤ u[t]) (h2 : u[t] ≤ 56319) (h3 : ¬ (56320 ≤ u[t + 1] ∧ u[t + 1] ≤ 57343)) : froR u = ([], (t : Int), 3) := by
 obtain ⟨f, hf, e⟩ := h.step (by omega)
 rwa [if_neg (by omega), if_neg (by omega), if_neg (by omega), hd_drop hl, if_neg h3] at e
end Go.Proofs.YtcngcapbikfbnaaDoor.W
