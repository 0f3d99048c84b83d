/-
  The law of lookups at a place.
-/
import Derived.Test.YtcjmkpkhjhjepaaGreatPos4
import Derived.Test.YtcjmkpkhjhjepaaGreatPos5
import Derived.Test.YtcjmkpkhjhjepaaGreatRPos2
import Derived.Test.YtcjmkpkhjhjepaaGreatSame29
namespace Go.Proofs.YtcjmkpkhjhjepaaGreat.W
open Go Go.Vm Go.Proofs
set_option maxRecDepth 100000
set_option linter.unusedSimpArgs false
set_option maxHeartbeats 4000000
/-! typecase/pos.Once -/
def c8 : AC :=
 (.seq (.reg [oo 4 (.box (.s 0)),
 oo 8 (.mov (.c .empty)),
 oo 9 (.mov (nI 0)),
 oo 10 (.mov (nB false))])
 (.seq (.reg [oo 11 (.load true 6 (.s 4)),
 oo 12 (.call 19 [(.s 11)]),
 oo 13 (.mov (.s 1)),
 oo 14 (.mov (.s 2)),
 oo 15 (.mov (.s 3)),
 oo 16 (.call 20 [(.s 12), (.s 13), (.s 14), (.s 15), (nI 0)]),
 oo 17 (.ext 0 (.s 16)),
 oo 18 (.ext 1 (.s 16)),
 oo 19 (.ext 2 (.s 16)),
 oo 8 (.mov (.s 17)),
 oo 9 (.mov (.s 18)),
 oo 10 (.mov (.s 19))])
 .ret))
theorem k8 : OkF 8 Tryz.f8 c8 [.t 8, .t 9, .t 10] 20 := ⟨Tryz.func8, by kernel_rfl, by kernel_rfl, by kernel_rfl, Tryz.ntmps8⟩
/-! typecase/typecaseref35.Once -/
def c9 : AC :=
 (.seq (.reg [oo 4 (.box (.s 0)),
 oo 8 (.mov (.c .empty)),
 oo 9 (.mov (nI 0)),
 oo 10 (.mov (nB false))])
 (.seq (.reg [oo 12 (.load true 6 (.s 4)),
 oo 13 (.mov (.s 1)),
 oo 14 (.mov (.s 2)),
 oo 15 (.mov (.s 3)),
 oo 16 (.call 21 [(.s 12), (.s 13), (.s 14), (.s 15), (nI 65536), (nI 0)]),
 oo 11 (.box (.c (.agg [.empty, (pI 0), (.pure (.bool false)), (pI 0)]))),
⟨none, none, .store 4 (.s 11) (.s 16)⟩])
 (.seq (.seq (.reg [oo 17 (.fldA 2 (.s 11)),
 oo 18 (.load false 1 (.s 17)),
 oo 19 (.un .not (.s 18))])
 (.cond (.s 19)
 (.seq (.reg [oo 8 (.mov (.c .empty)),
 oo 9 (.mov (nI 0)),
 oo 10 (.mov (nB false))])
 .ret)
 .skip))
 (.seq (.regq [oo 20 (.fldA 0 (.s 11)),
 oo 21 (.load false 1 (.s 20)),
 oo 22 (.fldA 1 (.s 11)),
 oo 23 (.load false 1 (.s 22)),
 oo 8 (.mov (.s 21))]
[oo 9 (.mov (.s 23)),
 oo 10 (.mov (nB true))])
 .ret))))
theorem k9 : OkF 9 Tryz.f9 c9 [.t 8, .t 9, .t 10] 24 := ⟨Tryz.func9, by kernel_rfl, by kernel_rfl, by kernel_rfl, Tryz.ntmps9⟩
/-! typecase/typecaselaw35.PosOnce -/
def c3 : AC :=
 (.seq (.reg [oo 3 (.box (.s 0)),
 oo 5 (.box (.s 2)),
 oo 6 (.mov (nB false))])
 (.seq (.seq (.reg [oo 13 (.load true 6 (.s 3)),
 oo 14 (.mov (.s 1)),
 oo 15 (.call 7 [(.s 13), (.s 14)]),
 oo 16 (.un .not (.s 15))])
 (.cond (.s 16)
 (.seq (.reg [oo 6 (.mov (nB true))])
 .ret)
 .skip))
 (.seq (.reg [oo 18 (.load true 6 (.s 3)),
 oo 19 (.fldA 0 (.s 5)),
 oo 20 (.load false 1 (.s 19)),
 oo 21 (.mov (.s 1)),
 oo 22 (.fldA 1 (.s 5)),
 oo 23 (.load false 1 (.s 22)),
 oo 24 (.call 8 [(.s 18), (.s 20), (.s 21), (.s 23)]),
 oo 17 (.mov (.s 24)),
 oo 25 (.ext 0 (.s 17)),
 oo 26 (.ext 1 (.s 17)),
 oo 27 (.ext 2 (.s 17)),
 oo 7 (.mov (.s 25)),
 oo 8 (.mov (.s 26)),
 oo 9 (.mov (.s 27))])
 (.seq (.reg [oo 29 (.load true 6 (.s 3)),
 oo 30 (.fldA 0 (.s 5)),
 oo 31 (.load false 1 (.s 30)),
 oo 32 (.mov (.s 1)),
 oo 33 (.fldA 1 (.s 5)),
 oo 34 (.load false 1 (.s 33)),
 oo 35 (.call 9 [(.s 29), (.s 31), (.s 32), (.s 34)]),
 oo 28 (.mov (.s 35)),
 oo 36 (.ext 0 (.s 28)),
 oo 37 (.ext 1 (.s 28)),
 oo 38 (.ext 2 (.s 28)),
 oo 10 (.mov (.s 36)),
 oo 11 (.mov (.s 37)),
 oo 12 (.mov (.s 38))])
 (.seq (.reg [oo 39 (.mov (.s 7)),
 oo 40 (.mov (.s 10)),
 oo 41 (.call 10 [(.s 39), (.s 40)]),
 oo 42 (.mov (.s 41)),
 og 43 42 true (.mov (.s 8)),
 og 44 42 true (.mov (.s 11)),
 og 45 42 true (.bin .eql (.s 43) (.s 44)),
 oo 46 (.pick (.s 42) (.s 45) (nB false)),
 oo 47 (.mov (.s 46)),
 og 48 47 true (.mov (.s 9)),
 og 49 47 true (.mov (.s 12)),
 og 50 47 true (.eqb false (.s 48) (.s 49)),
 oo 51 (.pick (.s 47) (.s 50) (nB false)),
 oo 6 (.mov (.s 51))])
 .ret)))))
theorem k3 : OkF 3 Tryz.f3 c3 [.t 6] 52 := ⟨Tryz.func3, by kernel_rfl, by kernel_rfl, by kernel_rfl, Tryz.ntmps3⟩
theorem ponce_q (F : Ff) (hF : ∀ k ∈ F.lks, PosK k) (lookup : Int) (l : List Gl) (x : Int) (hl : l.length ≤ 100) : FnQ Tryz.prog 8 [ffV F, I lookup, .sl (l.map gl), I x] (adjR (onceF F 9 lookup l x 65536).1) := by
 refine k8.q (by simp) ?_
 unfold c8
 have hc := once_c F hF 9 lookup l x 65536 0 hl (by omega) (by omega) (by omega) (by omega)
 generalize onceF F 9 lookup l x 65536 = o at *
 obtain ⟨r, u⟩ := o
 simp only [vmp,↓vmd,seval]
 refine onC_fr (begin_c F) [] (by simp) trivial rfl rfl (by simp) ?_
 (first | apply envO | apply envQ); simp only [vmp,↓vmd,seval]; rfl
 simp only [vmp,↓vmd,seval]
 refine onC_fr hc [1] (by simp) (by simp only [kpp,seval]) rfl rfl (by simp) ?_
 cases r with
 | none =>
  (first | apply envO | apply envQ); simp only [onceS, vmp,↓vmd,seval]; rfl
  simp only [onceS, adjR, vmp,↓vmd,seval]
  exact gives_tup rfl (by simp)
 | some q =>
  (first | apply envO | apply envQ); simp only [onceS, vmp,↓vmd,seval]; rfl
  simp only [onceS, adjR, vmp,↓vmd,seval]
  exact gives_tup rfl (by simp)
theorem rponce_q (F : Ff) (hF : ∀ k ∈ F.lks, PosK k) (lookup : Int) (l : List Gl) (x : Int) (hl : l.length ≤ 100) : FnQ Tryz.prog 9 [ffV F, I lookup, .sl (l.map gl), I x] (adjR (onceF F 9 lookup l x 65536).1) := by
 refine k9.q (by simp) ?_
 unfold c9
 have hq := doing_q F hF 9 lookup l x 65536 0 hl (by omega) (by omega) (by omega) (by omega)
 generalize onceF F 9 lookup l x 65536 = o at *
 obtain ⟨r, u⟩ := o
 simp only [vmp,↓vmd,seval]
 refine onC_q hq rfl ?_
 cases r with
 | none =>
  (first | apply envO | apply envQ); simp only [doneV, vmp,↓vmd,seval]; rfl
  simp only [doneV, adjR, vmp,↓vmd,seval]
  exact gives_tup rfl (by simp)
 | some q =>
  (first | apply envO | apply envQ); simp only [doneV, vmp,↓vmd,seval]; rfl
  simp only [doneV, adjR, vmp,↓vmd,seval]
  exact gives_tup rfl (by simp)
theorem po_law (F : Ff) (ls : List Gl) (lookup x : Int) : FnQ Tryz.prog 3 [ffV F, .sl (ls.map gl), .agg [I lookup, I x]] [.bool true] := by
 refine k3.q (by simp) ?_
 unfold c3
 have hmay := @may_of F ls
 simp only [vmp,↓vmd,seval]
 refine onC_q (may_q F ls) rfl ?_
 generalize mayF F ls = b at *
 cases b with
 | false =>
  (first | apply envO | apply envQ); simp only [vmp,↓vmd,seval]; rfl
  simp only [vmp,↓vmd,seval]
  exact gives_pure
 | true =>
  obtain ⟨hl, _, hF⟩ := hmay rfl
  have h1 := ponce_q F hF lookup ls x (by omega)
  have h2 := rponce_q F hF lookup ls x (by omega)
  obtain ⟨X, y, b3, e1⟩ : ∃ (X : List Gl) (y : Int) (b3 : Bool), adjR (onceF F 9 lookup ls x 65536).1 = [.sl (X.map gl), I y, .bool b3] := by
   cases (onceF F 9 lookup ls x 65536).1 with
   | none => exact ⟨[], 0, false, rfl⟩
   | some q => exact ⟨_, _, _, rfl⟩
  rw [e1] at h1 h2
  have hb : (b3 == b3) = true := by cases b3 <;> rfl
  (first | apply envO | apply envQ); simp only [vmp,↓vmd,seval]; rfl
  simp only [vmp,↓vmd,seval]
  refine onC_q h1 rfl ?_
  (first | apply envO | apply envQ); simp only [vmp,↓vmd,seval]; rfl
  simp only [vmp,↓vmd,seval]
  refine onC_q h2 rfl ?_
  (first | apply envO | apply envQ); simp only [vmp,↓vmd,seval]; rfl
  simp only [vmp,↓vmd,seval]
  refine onC_q (same29_q X X) rfl ?_
  rw [decide_eq_true rfl]
  (first | apply envO | apply envQ); simp only [hb, vmp,↓vmd,seval]; rfl
  simp only [hb, vmp,↓vmd,seval]
  exact gives_pure
theorem ty_place35 : tyC Tryz.prog 20 31 = some (true, [.int .i64, .int .i64]) := by kernel_rfl
theorem po_all (vs : List V) (h : OkTs Tryz.prog Tryz.f3.params.toList vs) : FnQ Tryz.prog 3 vs [.bool true] := by
 rw [Tryz.params3] at h
 match vs, h with
 | [x, y, z], h =>
  obtain ⟨h1, h2, h3, _⟩ := h
  obtain ⟨f, rfl⟩ := font_of' h1
  obtain ⟨l, rfl, _⟩ := gls_of (cell_of (h2 _ _ _ ty_glyphs))
  obtain ⟨l2, hl2, rfl⟩ := ints_of (k := 2) (h3 _ _ _ ty_place35)
  match l2, hl2 with
  | [a, b], _ => exact po_law f l a b
end Go.Proofs.YtcjmkpkhjhjepaaGreat.W
