/-
  Spans: Whole, At, Bounds, and the same by the document; what each does. No condition.
-/
import Derived.Test.YtalhohfhjniapaaRoll2
namespace Go.Proofs.Ytalhohfhjniapaa.W
open Go Go.Vm Go.Proofs
set_option maxRecDepth 100000
set_option linter.unusedSimpArgs false
/-! typecase/spans.Whole -/
def c10_0 : AC :=
 (.seq (.reg [oo 43 (.mov (.s 5)),
 oo 44 (.mov (.s 1)),
 oo 45 (.bin .eql (.s 43) (.s 44)),
 oo 4 (.mov (.s 45))])
 .ret)
def c10_1 : AC :=
 (.seq (.reg [oo 11 (.bin .lss (.s 10) (.s 9))])
 (.seq (.cond (.s 11)
 .skip
 (.exit 0))
 (.seq (.block 1
 (.seq (.reg [oo 12 (.mov (.s 10)),
 oo 13 (.idxA 3 (.s 8) (.s 10)),
 oo 14 (.load true 3 (.s 13)),
 oo 7 (.box (.c (.pure (.agg [(.int .i64 0), (.int .i64 0), (.int .i64 0)])))),
 oo 6 (.mov (.s 12)),
⟨none, none, .store 3 (.s 7) (.s 14)⟩])
 (.seq (.seq (.regq [oo 15 (.fldA 0 (.s 7)),
 oo 16 (.load false 1 (.s 15)),
 oo 17 (.mov (.s 5)),
 oo 18 (.bin .neq (.s 16) (.s 17)),
 oo 19 (.mov (.s 18)),
 og 20 19 false (.fldA 1 (.s 7)),
 og 21 19 false (.load false 1 (.s 20)),
 og 22 19 false (.mov (.s 5)),
 og 23 19 false (.bin .leq (.s 21) (.s 22)),
 oo 24 (.pick (.s 19) (nB true) (.s 23)),
 oo 25 (.mov (.s 24)),
 og 26 25 false (.mov (.s 6)),
 og 27 25 false (.bin .gtr (.s 26) (nI 0)),
 og 28 25 false (.mov (.s 27)),
 og 29 28 true (.fldA 2 (.s 7)),
 og 30 28 true (.load false 1 (.s 29)),
 og 31 28 true (.mov (.s 0)),
 og 32 28 true (.mov (.s 6)),
 og 33 28 true (.bin .sub (.s 32) (nI 1)),
 og 34 28 true (.idxA 3 (.s 31) (.s 33)),
 og 35 28 true (.fldA 2 (.s 34)),
 og 36 28 true (.load false 1 (.s 35))]
[og 37 28 true (.bin .eql (.s 30) (.s 36)),
 og 38 25 false (.pick (.s 28) (.s 37) (nB false)),
 oo 39 (.pick (.s 25) (nB true) (.s 38))])
 (.cond (.s 39)
 (.seq (.reg [oo 4 (.mov (nB false))])
 .ret)
 .skip))
 (.reg [oo 40 (.fldA 1 (.s 7)),
 oo 41 (.load false 1 (.s 40)),
 oo 5 (.mov (.s 41))]))))
 (.reg [oo 42 (.bin .add (.s 10) (nI 1)),
 oo 10 (.mov (.s 42))]))))
def c10 : AC :=
 (.seq (.reg [oo 4 (.mov (nB false))])
 (.seq (.reg [oo 5 (.mov (nI 0))])
 (.seq (.seq (.reg [oo 8 (.mov (.s 0)),
 oo 9 (.len (.s 8)),
 oo 10 (.mov (nI 0))])
 (.block 0
 (.loop c10_1)))
 c10_0)))
theorem k10 : OkF 10 Try.f10 c10 [.t 4] 46 := ⟨Try.func10, by kernel_rfl, by kernel_rfl, by kernel_rfl, Try.ntmps10⟩
/-! typecase/spans.At -/
def c14_0 : AC :=
 (.seq (.reg [oo 4 (.mov (nI 0))])
 .ret)
def c14_1 : AC :=
 (.seq (.reg [oo 10 (.bin .lss (.s 9) (.s 8))])
 (.seq (.cond (.s 10)
 .skip
 (.exit 0))
 (.seq (.block 1
 (.seq (.reg [oo 11 (.idxA 3 (.s 7) (.s 9)),
 oo 12 (.load true 3 (.s 11)),
 oo 6 (.box (.c (.pure (.agg [(.int .i64 0), (.int .i64 0), (.int .i64 0)])))),
⟨none, none, .store 3 (.s 6) (.s 12)⟩])
 (.seq (.reg [oo 13 (.fldA 0 (.s 6)),
 oo 14 (.load false 1 (.s 13)),
 oo 15 (.mov (.s 1)),
 oo 16 (.bin .leq (.s 14) (.s 15)),
 oo 17 (.mov (.s 16)),
 og 18 17 true (.mov (.s 1)),
 og 19 17 true (.fldA 1 (.s 6)),
 og 20 17 true (.load false 1 (.s 19)),
 og 21 17 true (.bin .lss (.s 18) (.s 20)),
 oo 22 (.pick (.s 17) (.s 21) (nB false))])
 (.cond (.s 22)
 (.seq (.reg [oo 23 (.fldA 2 (.s 6)),
 oo 24 (.load false 1 (.s 23)),
 oo 4 (.mov (.s 24))])
 .ret)
 .skip))))
 (.reg [oo 25 (.bin .add (.s 9) (nI 1)),
 oo 9 (.mov (.s 25))]))))
def c14 : AC :=
 (.seq (.reg [oo 4 (.mov (nI 0))])
 (.seq (.seq (.reg [oo 7 (.mov (.s 0)),
 oo 8 (.len (.s 7)),
 oo 9 (.mov (nI 0))])
 (.block 0
 (.loop c14_1)))
 c14_0))
def atF : List Sp → Int → Int
 | [], _ => 0
 | s :: r, i => if s.f ≤ i ∧ i < s.t then s.v else atF r i
/-- how far spans reach that stand one behind the other -/
def goW : List Sp → Int → Option Int → Option Int
 | [], a, _ => some a
 | s :: r, a, p => if s.f ≠ a ∨ s.t ≤ a ∨ p = some s.v then none else goW r s.t (some s.v)
def prevV (l : List Sp) (k : Nat) : Option Int := if k = 0 then none else (l[k - 1]?).map (·.v)
def wholeF (l : List Sp) (n : Int) : Bool := match goW l 0 none with
 | none => false
 | some a => decide (a = n)
theorem prevV_succ {l : List Sp} {k : Nat} (h : k < l.length) : prevV l (k + 1) = some l[k].v := by simp [prevV, List.getElem?_eq_getElem h]
theorem goW_bad {l r : List Sp} {s : Sp} {n a : Int} {p : Option Int} (hr : goW (s :: r) a p = goW l 0 none) (h : s.f ≠ a ∨ s.t ≤ a ∨ p = some s.v) : wholeF l n = false := by
 rw [goW, if_pos h] at hr
 simp [wholeF, ← hr]
theorem goW_good {l : List Sp} {k : Nat} (hlt : k < l.length) {a : Int} (hr : goW (l[k] :: l.drop (k + 1)) a (prevV l k) = goW l 0 none) (h : ¬ (l[k].f ≠ a ∨ l[k].t ≤ a ∨ prevV l k = some l[k].v)) :
  goW (l.drop (k + 1)) l[k].t (prevV l (k + 1)) = goW l 0 none := by
 rw [goW, if_neg h] at hr
 rw [prevV_succ hlt, hr]
theorem whole_q (l : List Sp) (n : Int) : FnQ Try.prog 10 [.sl (l.map sp), I n] [.bool (wholeF l n)] := by
 refine k10.q (by simp) ?_
 unfold c10
 simp only [*, vmp,↓vmd,seval]
 refine onIf_intro fun hlen => ?_
 simp only [*, vmp,↓vmd,seval]
 refine loop_at (T := Nat × Int) (fun x => [(10, .pure (I x.1)), (9, .pure (I l.length)), (8, .pure (.sl (l.map sp))), (0, .pure (.sl (l.map sp))), (1, .pure (I n)), (5, .pure (I x.2))]) (fun _ => []) (fun x => x.1 ≤ l.length ∧ goW (l.drop x.1) x.2 (prevV l x.1) = goW l 0 none) (fun x => l.length - x.1)
  (0, 0) [] (by simp) rfl ⟨by simp, by simp [prevV]⟩ (by simp only [kpp,seval]) (by simp only [kpp,seval]) ?_
 rintro ⟨k, a⟩ ⟨hk, hr⟩
 simp only at hk hr ⊢
 unfold c10_1
 simp only [vmp,↓vmd,seval]
 refine onB_dec (fun h1 => ?_) (fun h1 => ?_)
 ·have hlt : k < l.length := by omega
  rw [drop_at hlt] at hr
  simp only [map_at hlt, Int.natCast_nonneg, *, vmp,↓vmd,seval]
  refine onB_ne (fun h2 => ?_) (fun h2 => ?_)
  ·simp only [*, vmp,↓vmd,seval]
   rw [goW_bad hr (.inl h2)]
   exact gives_pure
  simp only [*, vmp,↓vmd,seval]
  refine onB_dec (fun h3 => ?_) (fun h3 => ?_)
  ·simp only [*, vmp,↓vmd,seval]
   rw [goW_bad hr (.inr (.inl h3))]
   exact gives_pure
  simp only [*, vmp,↓vmd,seval]
  refine onB_dec (fun h4 => ?_) (fun h4 => ?_)
  ·have h4' : 0 < k := by omega
   have hlt1 : k - 1 < l.length := by omega
   have hk1 : IntKind.wrap .i64 ((k : Int) - 1) = ((k - 1 : Nat) : Int) := by rw [wrap_id (by omega) (by omega)]; omega
   have hp : prevV l k = some l[k - 1].v := by simp [prevV, Nat.ne_of_gt h4', List.getElem?_eq_getElem hlt1]
   simp only [hk1, map_at hlt1, map_at hlt, Int.natCast_nonneg, *, vmp,↓vmd,seval]
   refine onB_dec (fun h5 => ?_) (fun h5 => ?_)
   ·simp only [*, vmp,↓vmd,seval]
    rw [goW_bad hr (.inr (.inr (by rw [hp, h5])))]
    exact gives_pure
   ·simp only [*, vmp,↓vmd,seval]
    refine onBk_to (k + 1, l[k].t) [] (by simp) rfl (by simp only; omega) ⟨hlt, goW_good hlt hr (by
     rintro (h | h | h)
     ·exact h h2
     ·exact h3 h
     ·rw [hp] at h; exact h5 (Option.some.inj h).symm)⟩ (by simp only [next_at hlt hlen, kpp,seval]) (by simp only [kpp,seval])
  ·simp only [*, vmp,↓vmd,seval]
   have hp : prevV l k = none := by simp [prevV, show k = 0 by omega]
   refine onBk_to (k + 1, l[k].t) [] (by simp) rfl (by simp only; omega) ⟨hlt, goW_good hlt hr (by
     rintro (h | h | h)
     ·exact h h2
     ·exact h3 h
     ·rw [hp] at h; cases h)⟩ (by simp only [next_at hlt hlen, kpp,seval]) (by simp only [kpp,seval])
 ·simp only [*, vmp,↓vmd,seval]
  unfold c10_0
  simp only [*, vmp,↓vmd,seval]
  rw [List.drop_of_length_le (by omega)] at hr
  rw [show wholeF l n = decide (a = n) by simp [wholeF, ← hr, goW]]
  exact gives_pure
end Go.Proofs.Ytalhohfhjniapaa.W
