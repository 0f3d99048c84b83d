/-
  Whether a context stands: the document's functions. No condition but on sizes.
-/
import Derived.Test.YtcjmkpkhjhjepaaGreatPCx0
namespace Go.Proofs.YtcjmkpkhjhjepaaGreat.W
open Go Go.Vm Go.Proofs
set_option maxRecDepth 100000
set_option linter.unusedSimpArgs false
set_option maxHeartbeats 4000000
/-! typecase/typecaseref29.stands -/
def c58 : AC :=
 (.seq (.reg [oo 5 (.box (.s 0)),
 oo 6 (.box (.s 1)),
 oo 7 (.box (.s 2)),
 oo 10 (.mov (.c .empty)),
 oo 11 (.mov (nB false))])
 (.seq (.seq (.regq [oo 19 (.fldA 4 (.s 7)),
 oo 20 (.load false 1 (.s 19)),
 oo 21 (.len (.s 20)),
 oo 22 (.bin .eql (.s 21) (nI 0)),
 oo 23 (.mov (.s 22)),
 og 24 23 false (.fldA 4 (.s 7)),
 og 25 23 false (.load false 1 (.s 24)),
 og 26 23 false (.idxA 1 (.s 25) (nI 0)),
 og 27 23 false (.load false 1 (.s 26)),
 og 28 23 false (.mov (.s 3)),
 og 29 23 false (.mov (.s 4)),
 og 30 23 false (.idxA 10 (.s 28) (.s 29)),
 og 31 23 false (.fldA 0 (.s 30)),
 og 32 23 false (.load false 1 (.s 31))]
[og 33 23 false (.call 55 [(.s 27), (.s 32)]),
 og 34 23 false (.un .not (.s 33)),
 oo 35 (.pick (.s 23) (nB true) (.s 34))])
 (.cond (.s 35)
 (.seq (.reg [oo 10 (.mov (.c .empty)),
 oo 11 (.mov (nB false))])
 .ret)
 .skip))
 (.seq (.regq [oo 37 (.load true 6 (.s 5)),
 oo 38 (.load true 4 (.s 6)),
 oo 39 (.mov (.s 3)),
 oo 40 (.mov (.s 4)),
 oo 41 (.fldA 4 (.s 7)),
 oo 42 (.load false 1 (.s 41)),
 oo 43 (.slc 1 (.s 42) (some (nI 1)) none none),
 oo 44 (.call 88 [(.s 37), (.s 38), (.s 39), (.s 40), (.s 43)]),
 oo 36 (.mov (.s 44)),
 oo 45 (.ext 0 (.s 36)),
 oo 46 (.ext 1 (.s 36)),
 oo 12 (.mov (.s 45))]
[oo 13 (.mov (.s 46))])
 (.seq (.seq (.reg [oo 47 (.mov (.s 13)),
 oo 48 (.un .not (.s 47))])
 (.cond (.s 48)
 (.seq (.reg [oo 10 (.mov (.c .empty)),
 oo 11 (.mov (nB false))])
 .ret)
 .skip))
 (.seq (.reg [oo 49 (.mov (.s 4)),
 oo 50 (.bslice 1 [(.s 49)]),
 oo 14 (.mov (.s 50))])
 (.seq (.reg [oo 51 (.mov (.s 14)),
 oo 52 (.mov (.s 12)),
 oo 53 (.app 1 8 (.s 51) (.s 52)),
 oo 14 (.mov (.s 53))])
 (.seq (.seq (.reg [oo 55 (.load true 6 (.s 5)),
 oo 56 (.load true 4 (.s 6)),
 oo 57 (.mov (.s 3)),
 oo 58 (.mov (.s 4)),
 oo 59 (.fldA 3 (.s 7)),
 oo 60 (.load false 1 (.s 59)),
 oo 61 (.call 89 [(.s 55), (.s 56), (.s 57), (.s 58), (.s 60)]),
 oo 54 (.mov (.s 61)),
 oo 62 (.ext 0 (.s 54)),
 oo 63 (.ext 1 (.s 54)),
 oo 15 (.mov (.s 62)),
 oo 16 (.mov (.s 63))])
 (.seq (.reg [oo 64 (.mov (.s 16)),
 oo 65 (.un .not (.s 64))])
 (.cond (.s 65)
 (.seq (.reg [oo 10 (.mov (.c .empty)),
 oo 11 (.mov (nB false))])
 .ret)
 .skip)))
 (.seq (.seq (.regq [oo 67 (.load true 6 (.s 5)),
 oo 68 (.load true 4 (.s 6)),
 oo 69 (.mov (.s 3)),
 oo 70 (.mov (.s 14)),
 oo 71 (.mov (.s 14)),
 oo 72 (.len (.s 71)),
 oo 73 (.bin .sub (.s 72) (nI 1)),
 oo 74 (.idxA 1 (.s 70) (.s 73)),
 oo 75 (.load false 1 (.s 74)),
 oo 76 (.fldA 5 (.s 7)),
 oo 77 (.load false 1 (.s 76)),
 oo 78 (.call 88 [(.s 67), (.s 68), (.s 69), (.s 75), (.s 77)]),
 oo 66 (.mov (.s 78)),
 oo 79 (.ext 0 (.s 66)),
 oo 80 (.ext 1 (.s 66)),
 oo 17 (.mov (.s 79))]
[oo 18 (.mov (.s 80))])
 (.seq (.reg [oo 81 (.mov (.s 18)),
 oo 82 (.un .not (.s 81))])
 (.cond (.s 82)
 (.seq (.reg [oo 10 (.mov (.c .empty)),
 oo 11 (.mov (nB false))])
 .ret)
 .skip)))
 (.seq (.reg [oo 83 (.mov (.s 14)),
 oo 10 (.mov (.s 83)),
 oo 11 (.mov (nB true))])
 .ret)))))))))
theorem k58 : OkF 58 Tryz.f58 c58 [.t 10, .t 11] 84 := ⟨Tryz.func58, by kernel_rfl, by kernel_rfl, by kernel_rfl, Tryz.ntmps58⟩
/-! typecase/typecaseref29.Match -/
def c35_0 : AC :=
 (.seq (.reg [oo 8 (.mov (nI 0)),
 oo 9 (.mov (.c .empty)),
 oo 10 (.mov (nB false))])
 .ret)
def c35_1 : AC :=
 (.seq (.seq (.reg [oo 22 (.mov (.s 11)),
 oo 23 (.fldA 3 (.s 5)),
 oo 24 (.load false 1 (.s 23)),
 oo 25 (.len (.s 24)),
 oo 26 (.bin .lss (.s 22) (.s 25))])
 (.cond (.s 26)
 .skip
 (.exit 0)))
 (.seq (.block 1
 (.seq (.regq [oo 30 (.load true 6 (.s 4)),
 oo 31 (.load true 4 (.s 5)),
 oo 32 (.fldA 3 (.s 5)),
 oo 33 (.load false 1 (.s 32)),
 oo 34 (.mov (.s 11)),
 oo 35 (.idxA 12 (.s 33) (.s 34)),
 oo 36 (.load true 12 (.s 35)),
 oo 37 (.mov (.s 2)),
 oo 38 (.mov (.s 3)),
 oo 39 (.call 58 [(.s 30), (.s 31), (.s 36), (.s 37), (.s 38)]),
 oo 29 (.mov (.s 39)),
 oo 40 (.ext 0 (.s 29)),
 oo 41 (.ext 1 (.s 29)),
 oo 12 (.mov (.s 40))]
[oo 13 (.mov (.s 41))])
 (.seq (.reg [oo 42 (.mov (.s 13))])
 (.cond (.s 42)
 (.seq (.reg [oo 43 (.mov (.s 11)),
 oo 44 (.mov (.s 12)),
 oo 8 (.mov (.s 43)),
 oo 9 (.mov (.s 44)),
 oo 10 (.mov (nB true))])
 .ret)
 .skip))))
 (.reg [oo 27 (.mov (.s 11)),
 oo 28 (.bin .add (.s 27) (nI 1)),
 oo 11 (.mov (.s 28))])))
def c35 : AC :=
 (.seq (.reg [oo 4 (.box (.s 0)),
 oo 5 (.box (.s 1)),
 oo 8 (.mov (nI 0)),
 oo 9 (.mov (.c .empty)),
 oo 10 (.mov (nB false))])
 (.seq (.seq (.reg [oo 14 (.mov (.s 3)),
 oo 15 (.bin .lss (.s 14) (nI 0)),
 oo 16 (.mov (.s 15)),
 og 17 16 false (.mov (.s 3)),
 og 18 16 false (.mov (.s 2)),
 og 19 16 false (.len (.s 18)),
 og 20 16 false (.bin .geq (.s 17) (.s 19)),
 oo 21 (.pick (.s 16) (nB true) (.s 20))])
 (.cond (.s 21)
 (.seq (.reg [oo 8 (.mov (nI 0)),
 oo 9 (.mov (.c .empty)),
 oo 10 (.mov (nB false))])
 .ret)
 .skip))
 (.seq (.seq (.reg [oo 11 (.mov (nI 0))])
 (.block 0
 (.loop c35_1)))
 c35_0)))
theorem k35 : OkF 35 Tryz.f35 c35 [.t 8, .t 9, .t 10] 45 := ⟨Tryz.func35, by kernel_rfl, by kernel_rfl, by kernel_rfl, Tryz.ntmps35⟩
theorem rstands_q (f : Fo) (k : Lk) (ls : List Gl) (hl : ls.length ≤ 1000) (x : Int) (h0 : 0 ≤ x) (h1 : x < ls.length) (s : Sub) (hs : s.back.length ≤ 16 ∧ s.inn.length ≤ 16 ∧ s.ahead.length ≤ 16) :
  FnQ Tryz.prog 58 [fo f, lk k, sub s, .sl (ls.map gl), I x] (rowR (stF f k.flags k.set ls x s)) := by
 obtain ⟨hb, hi, ha⟩ := hs
 obtain ⟨q, hq1, hq2⟩ := at_id h0 h1
 refine k58.q (by simp) ?_
 unfold c58
 simp only [*, vmp,↓vmd,seval]
 obtain hz | ⟨z, zs, hz⟩ : s.inn = [] ∨ ∃ z zs, s.inn = z :: zs := by cases s.inn <;> simp
 ·simp only [hz, vmp,↓vmd,seval]
  rw [show stF f k.flags k.set ls x s = none by rw [stF, hz]]
  exact gives_tup rfl (by simp)
 ·rw [hz] at hi
  simp only [List.length_cons] at hi
  obtain ⟨e0, en, es⟩ := inn_cons hz
  have hst : stF f k.flags k.set ls x s = if idAt ls x ∉ z then none else match rowF (nextF (seesF f k.flags k.set ls) ls.length) ls zs x with
    | none => none
    | some r => match rowF (prevF (seesF f k.flags k.set ls) ls.length) ls s.back x with
     | none => none
     | some _ => match rowF (nextF (seesF f k.flags k.set ls) ls.length) ls s.ahead (lastF x r) with
      | none => none
      | some _ => some (x :: r) := by rw [stF, hz] <;> rfl
  rw [hst]
  simp only [e0, en, hq1, h0, h1, vmp,↓vmd,seval]
  refine onC_q (in_q _ _) rfl ?_
  rw [hq2]
  by_cases hm : idAt ls x ∈ z
  ·rw [if_neg (by simp [hm])]
   simp only [hm, es, en, vmp,↓vmd,seval]
   have hr1 := rrowf_q f k.kind k.flags k.set (.sl (k.subs.map sub)) ls hl x zs (by omega)
   have hr2 := rrowb_q f k.kind k.flags k.set (.sl (k.subs.map sub)) ls hl x s.back (by omega)
   cases hc1 : rowF (nextF (seesF f k.flags k.set ls) ls.length) ls zs x with
   | none =>
    rw [hc1] at hr1
    have hr1' : FnQ Tryz.prog 88 [fo f, lk k, .sl (ls.map gl), I x, LL zs] [LI [], .bool false] := hr1
    refine onQ_q hr1' rfl ?_
    (first | apply envO | apply envQ); simp only [vmp,↓vmd,seval]; rfl
    simp only [vmp,↓vmd,seval]
    exact gives_tup rfl (by simp)
   | some r =>
    rw [hc1] at hr1
    have hrl := rowF_len hc1
    have hr1' : FnQ Tryz.prog 88 [fo f, lk k, .sl (ls.map gl), I x, LL zs] [LI r, .bool true] := hr1
    refine onQ_q hr1' rfl ?_
    (first | apply envO | apply envQ); simp only [vmp,↓vmd,seval]; rfl
    simp only [vmp,↓vmd,seval]
    refine onIf'_intro (appOk_map (fun _ => rfl) rfl (by simp) (by omega) (by simp [maxLen]; omega)) ?_
    simp only [vmp,↓vmd,seval]
    cases hc2 : rowF (prevF (seesF f k.flags k.set ls) ls.length) ls s.back x with
    | none =>
     rw [hc2] at hr2
     have hr2' : FnQ Tryz.prog 89 [fo f, lk k, .sl (ls.map gl), I x, LL s.back] [LI [], .bool false] := hr2
     refine onC_q hr2' rfl ?_
     (first | apply envO | apply envQ); simp only [vmp,↓vmd,seval]; rfl
     simp only [vmp,↓vmd,seval]
     exact gives_tup rfl (by simp)
    | some r2 =>
     rw [hc2] at hr2
     have hr2' : FnQ Tryz.prog 89 [fo f, lk k, .sl (ls.map gl), I x, LL s.back] [LI r2, .bool true] := hr2
     refine onC_q hr2' rfl ?_
     (first | apply envO | apply envQ); simp only [vmp,↓vmd,seval]; rfl
     have hwL : IntKind.wrap .i64 (((1 + r.length : Nat) : Int) - 1) = (r.length : Int) := by rw [wrap_id (by omega) (by omega)]; omega
     simp only [hwL, last_at, Int.natCast_nonneg, show (r.length : Int) < ((1 + r.length : Nat) : Int) by omega, vmp,↓vmd,seval]
     have hr3 := rrowf_q f k.kind k.flags k.set (.sl (k.subs.map sub)) ls hl (lastF x r) s.ahead (by omega)
     cases hc3 : rowF (nextF (seesF f k.flags k.set ls) ls.length) ls s.ahead (lastF x r) with
     | none =>
      rw [hc3] at hr3
      have hr3' : FnQ Tryz.prog 88 [fo f, lk k, .sl (ls.map gl), I (lastF x r), LL s.ahead] [LI [], .bool false] := hr3
      refine onQ_q hr3' rfl ?_
      (first | apply envO | apply envQ); simp only [vmp,↓vmd,seval]; rfl
      simp only [vmp,↓vmd,seval]
      rw [hc3]
      exact gives_tup rfl (by simp)
     | some r3 =>
      rw [hc3] at hr3
      have hr3' : FnQ Tryz.prog 88 [fo f, lk k, .sl (ls.map gl), I (lastF x r), LL s.ahead] [LI r3, .bool true] := hr3
      refine onQ_q hr3' rfl ?_
      (first | apply envO | apply envQ); simp only [vmp,↓vmd,seval]; rfl
      simp only [vmp,↓vmd,seval]
      rw [hc3]
      exact gives_tup (toVs_of (toV_row1 rfl (.inr ⟨rfl, rfl⟩) (by omega)) rfl) (by simp)
  ·rw [if_pos hm]
   simp only [hm, en, vmp,↓vmd,seval]
   exact gives_tup rfl (by simp)
theorem rmatch_q (f : Fo) (k : Lk) (ls : List Gl) (hl : ls.length ≤ 1000) (x : Int) (hs : ∀ s ∈ k.subs, s.back.length ≤ 16 ∧ s.inn.length ≤ 16 ∧ s.ahead.length ≤ 16) :
  FnQ Tryz.prog 35 [fo f, lk k, .sl (ls.map gl), I x] (matR (matchF f k ls x)) := by
 refine k35.q (by simp) ?_
 unfold c35
 simp only [*, vmp,↓vmd,seval]
 by_cases h0 : x < 0
 ·simp only [h0, vmp,↓vmd,seval]
  rw [matchF, if_pos (.inl h0)]
  exact gives_tup rfl (by simp)
 simp only [h0, vmp,↓vmd,seval]
 refine onIf_intro fun _ => ?_
 simp only [h0, vmp,↓vmd,seval]
 by_cases h1 : (ls.length : Int) ≤ x
 ·simp only [h1, vmp,↓vmd,seval]
  rw [matchF, if_pos (.inr h1)]
  exact gives_tup rfl (by simp)
 simp only [h1, vmp,↓vmd,seval]
 rw [matchF, if_neg (by omega)]
 refine loop_at (T := Nat) (fun i => [(11, .pure (I i)), (2, .pure (.sl (ls.map gl))), (3, .pure (I x)), (4, .ptr 0 0 0), (5, .ptr 1 0 0)]) (fun _ => [⟨[.pure (fo f)], 6, .live⟩, ⟨[.pure (lk k)], 4, .live⟩]) (fun i => i ≤ k.subs.length ∧ matF (stF f k.flags k.set ls x) i (k.subs.drop i) = matF (stF f k.flags k.set ls x) 0 k.subs) (fun i => k.subs.length - i)
  0 [0, 1] (by simp) rfl ⟨by simp, by simp⟩ (by simp only [kpp,seval]) (by simp only [kpp,seval]) ?_
 rintro i ⟨hi, hr⟩
 unfold c35_1
 simp only [vmp,↓vmd,seval]
 refine onIf_intro fun _ => ?_
 simp only [vmp,↓vmd,seval]
 by_cases h2 : (i : Int) < (k.subs.length : Int)
 ·have hlt : i < k.subs.length := by omega
  rw [drop_at hlt, matF] at hr
  have hq := rstands_q f k ls hl x (by omega) (by omega) k.subs[i] (hs _ (List.getElem_mem hlt))
  simp only [h2, map_at hlt, Int.natCast_nonneg, vmp,↓vmd,seval]
  cases hc : stF f k.flags k.set ls x k.subs[i] with
  | some p =>
   rw [hc] at hr hq
   have hq' : FnQ Tryz.prog 58 [fo f, lk k, sub k.subs[i], .sl (ls.map gl), I x] [LI p, .bool true] := hq
   refine onQ_q hq' rfl ?_
   simp only [vmp,↓vmd,seval]
   rw [← hr]
   exact gives_tup rfl (by simp)
  | none =>
   rw [hc] at hr hq
   have hq' : FnQ Tryz.prog 58 [fo f, lk k, sub k.subs[i], .sl (ls.map gl), I x] [LI [], .bool false] := hq
   refine onQ_q hq' rfl ?_
   simp only [vmp,↓vmd,seval]
   refine onBk_to (i + 1) [0, 1] (by simp) rfl (by omega) ⟨hlt, hr⟩ (by simp only [next_at hlt (by omega), kpp,seval]) (by simp only [kpp,seval])
 ·simp only [h2, vmp,↓vmd,seval]
  unfold c35_0
  simp only [vmp,↓vmd,seval]
  rw [List.drop_of_length_le (by omega)] at hr
  rw [← hr]
  exact gives_tup rfl (by simp)
end Go.Proofs.YtcjmkpkhjhjepaaGreat.W
