/-
  Whether a context stands, and where places come to lie: the program's functions. No condition but on sizes.
-/
import Derived.Test.YtcjmkpkhjhjepaaGreatPCx0
import Derived.Test.YtcjmkpkhjhjepaaGreatCIndex
namespace Go.Proofs.YtcjmkpkhjhjepaaGreat.W
open Go Go.Vm Go.Proofs
set_option maxRecDepth 100000
set_option linter.unusedSimpArgs false
set_option maxHeartbeats 4000000
/-! slices.Clone[[]int,int] -/
def c119 : AC :=
 (.seq (.reg [oo 2 (.mov (.c .empty))])
 (.seq (.seq (.reg [oo 3 (.mov (.s 0)),
 oo 4 (.slnil false (.s 3))])
 (.cond (.s 4)
 (.seq (.reg [oo 2 (.mov (.c .empty))])
 .ret)
 .skip))
 (.seq (.reg [oo 5 (.bslice 1 []),
 oo 6 (.mov (.s 0)),
 oo 7 (.app 1 8 (.s 5) (.s 6)),
 oo 2 (.mov (.s 7))])
 .ret)))
theorem k119 : OkF 119 Tryz.f119 c119 [.t 2] 8 := ⟨Tryz.func119, by kernel_rfl, by kernel_rfl, by kernel_rfl, Tryz.ntmps119⟩
/-! typecase/context.Moved -/
def c113_0 : AC :=
 (.seq (.reg [oo 53 (.mov (.s 10)),
 oo 8 (.mov (.s 53))])
 .ret)
def c113_1 : AC :=
 (.seq (.reg [oo 21 (.bin .lss (.s 20) (.s 19))])
 (.seq (.cond (.s 21)
 .skip
 (.exit 0))
 (.seq (.block 1
 (.seq (.reg [oo 22 (.mov (.s 20)),
 oo 23 (.idxA 1 (.s 18) (.s 20)),
 oo 24 (.load false 1 (.s 23)),
 oo 11 (.mov (.s 22)),
 oo 12 (.mov (.s 24))])
 (.block 2
 (.seq (.reg [oo 32 (.mov (.s 12)),
 oo 33 (.bin .eql (.s 32) (nI (-1))),
 oo 34 (.mov (.s 33)),
 og 35 34 false (.mov (.s 12)),
 og 36 34 false (.mov (.s 1)),
 og 37 34 false (.bin .leq (.s 35) (.s 36)),
 oo 38 (.pick (.s 34) (nB true) (.s 37)),
 oo 31 (.mov (.s 38))])
 (.cond (.s 31)
 .skip
 (.seq (.reg [oo 40 (.mov (.s 9)),
 oo 41 (.bin .lss (.s 40) (nI 0)),
 oo 42 (.mov (.s 41)),
 og 43 42 true (.mov (.s 12)),
 og 44 42 true (.mov (.s 1)),
 og 45 42 true (.mov (.s 9)),
 og 46 42 true (.bin .sub (.s 44) (.s 45)),
 og 47 42 true (.bin .leq (.s 43) (.s 46)),
 oo 48 (.pick (.s 42) (.s 47) (nB false)),
 oo 39 (.mov (.s 48))])
 (.cond (.s 39)
 (.reg [oo 49 (.mov (.s 10)),
 oo 50 (.mov (.s 11)),
 oo 51 (.idxA 1 (.s 49) (.s 50)),
⟨none, none, .store 1 (.s 51) (nI (-1))⟩])
 (.reg [oo 25 (.mov (.s 10)),
 oo 26 (.mov (.s 11)),
 oo 27 (.mov (.s 12)),
 oo 28 (.mov (.s 9)),
 oo 29 (.bin .add (.s 27) (.s 28)),
 oo 30 (.idxA 1 (.s 25) (.s 26)),
⟨none, none, .store 1 (.s 30) (.s 29)⟩]))))))))
 (.reg [oo 52 (.bin .add (.s 20) (nI 1)),
 oo 20 (.mov (.s 52))]))))
def c113 : AC :=
 (.seq (.reg [oo 8 (.mov (.c .empty))])
 (.seq (.reg [oo 13 (.mov (.s 3)),
 oo 14 (.mov (.s 2)),
 oo 15 (.bin .sub (.s 13) (.s 14)),
 oo 9 (.mov (.s 15))])
 (.seq (.reg [oo 16 (.mov (.s 0)),
 oo 17 (.call 119 [(.s 16)]),
 oo 10 (.mov (.s 17))])
 (.seq (.seq (.reg [oo 18 (.mov (.s 0)),
 oo 19 (.len (.s 18)),
 oo 20 (.mov (nI 0))])
 (.block 0
 (.loop c113_1)))
 c113_0))))
theorem k113 : OkF 113 Tryz.f113 c113 [.t 8] 54 := ⟨Tryz.func113, by kernel_rfl, by kernel_rfl, by kernel_rfl, Tryz.ntmps113⟩
/-! typecase/context.Match -/
def c48_0 : AC :=
 (.seq (.reg [oo 8 (.mov (nI 0)),
 oo 9 (.mov (.c .empty)),
 oo 10 (.mov (nB false))])
 .ret)
def c48_1 : AC :=
 (.seq (.reg [oo 32 (.bin .lss (.s 31) (.s 30))])
 (.seq (.cond (.s 32)
 .skip
 (.exit 0))
 (.seq (.block 1
 (.seq (.reg [oo 33 (.mov (.s 31)),
 oo 34 (.idxA 12 (.s 29) (.s 31)),
 oo 35 (.load true 12 (.s 34)),
 oo 12 (.box (.c (.agg [.empty, .empty, .empty, .empty, .empty, .empty, .empty, .empty, .empty, .empty, .empty, .empty]))),
 oo 11 (.mov (.s 33)),
⟨none, none, .store 12 (.s 12) (.s 35)⟩])
 (.seq (.seq (.regq [oo 36 (.fldA 4 (.s 12)),
 oo 37 (.load false 1 (.s 36)),
 oo 38 (.len (.s 37)),
 oo 39 (.bin .eql (.s 38) (nI 0)),
 oo 40 (.mov (.s 39)),
 og 41 40 false (.fldA 4 (.s 12)),
 og 42 40 false (.load false 1 (.s 41)),
 og 43 40 false (.idxA 1 (.s 42) (nI 0)),
 og 44 40 false (.load false 1 (.s 43)),
 og 45 40 false (.mov (.s 2)),
 og 46 40 false (.mov (.s 3)),
 og 47 40 false (.idxA 10 (.s 45) (.s 46)),
 og 48 40 false (.fldA 0 (.s 47)),
 og 49 40 false (.load false 1 (.s 48))]
[og 50 40 false (.call 73 [(.s 44), (.s 49)]),
 og 51 40 false (.un .not (.s 50)),
 oo 52 (.pick (.s 40) (nB true) (.s 51))])
 (.cond (.s 52)
 (.exit 1)
 .skip))
 (.seq (.regq [oo 54 (.load true 6 (.s 4)),
 oo 55 (.load true 4 (.s 5)),
 oo 56 (.mov (.s 2)),
 oo 57 (.mov (.s 3)),
 oo 58 (.fldA 4 (.s 12)),
 oo 59 (.load false 1 (.s 58)),
 oo 60 (.slc 1 (.s 59) (some (nI 1)) none none),
 oo 61 (.call 75 [(.s 54), (.s 55), (.s 56), (.s 57), (.s 60)]),
 oo 53 (.mov (.s 61)),
 oo 62 (.ext 0 (.s 53)),
 oo 63 (.ext 1 (.s 53)),
 oo 13 (.mov (.s 62))]
[oo 14 (.mov (.s 63))])
 (.seq (.seq (.reg [oo 64 (.mov (.s 14)),
 oo 65 (.un .not (.s 64))])
 (.cond (.s 65)
 (.exit 1)
 .skip))
 (.seq (.reg [oo 66 (.mov (.s 3)),
 oo 67 (.bslice 1 [(.s 66)]),
 oo 68 (.mov (.s 13)),
 oo 69 (.app 1 8 (.s 67) (.s 68)),
 oo 15 (.mov (.s 69))])
 (.seq (.seq (.reg [oo 71 (.load true 6 (.s 4)),
 oo 72 (.load true 4 (.s 5)),
 oo 73 (.mov (.s 2)),
 oo 74 (.mov (.s 3)),
 oo 75 (.fldA 3 (.s 12)),
 oo 76 (.load false 1 (.s 75)),
 oo 77 (.call 76 [(.s 71), (.s 72), (.s 73), (.s 74), (.s 76)]),
 oo 70 (.mov (.s 77)),
 oo 78 (.ext 0 (.s 70)),
 oo 79 (.ext 1 (.s 70)),
 oo 16 (.mov (.s 78)),
 oo 17 (.mov (.s 79))])
 (.seq (.reg [oo 80 (.mov (.s 17)),
 oo 81 (.un .not (.s 80))])
 (.cond (.s 81)
 (.exit 1)
 .skip)))
 (.seq (.regq [oo 83 (.load true 6 (.s 4)),
 oo 84 (.load true 4 (.s 5)),
 oo 85 (.mov (.s 2)),
 oo 86 (.mov (.s 15)),
 oo 87 (.mov (.s 15)),
 oo 88 (.len (.s 87)),
 oo 89 (.bin .sub (.s 88) (nI 1)),
 oo 90 (.idxA 1 (.s 86) (.s 89)),
 oo 91 (.load false 1 (.s 90)),
 oo 92 (.fldA 5 (.s 12)),
 oo 93 (.load false 1 (.s 92)),
 oo 94 (.call 75 [(.s 83), (.s 84), (.s 85), (.s 91), (.s 93)]),
 oo 82 (.mov (.s 94)),
 oo 95 (.ext 0 (.s 82)),
 oo 96 (.ext 1 (.s 82)),
 oo 18 (.mov (.s 95))]
[oo 19 (.mov (.s 96))])
 (.seq (.reg [oo 97 (.mov (.s 19))])
 (.cond (.s 97)
 (.seq (.reg [oo 98 (.mov (.s 11)),
 oo 99 (.mov (.s 15)),
 oo 8 (.mov (.s 98)),
 oo 9 (.mov (.s 99)),
 oo 10 (.mov (nB true))])
 .ret)
 .skip))))))))))
 (.reg [oo 100 (.bin .add (.s 31) (nI 1)),
 oo 31 (.mov (.s 100))]))))
def c48 : AC :=
 (.seq (.reg [oo 4 (.box (.s 0)),
 oo 5 (.box (.s 1)),
 oo 8 (.mov (nI 0)),
 oo 9 (.mov (.c .empty)),
 oo 10 (.mov (nB false))])
 (.seq (.seq (.reg [oo 20 (.mov (.s 3)),
 oo 21 (.bin .lss (.s 20) (nI 0)),
 oo 22 (.mov (.s 21)),
 og 23 22 false (.mov (.s 3)),
 og 24 22 false (.mov (.s 2)),
 og 25 22 false (.len (.s 24)),
 og 26 22 false (.bin .geq (.s 23) (.s 25)),
 oo 27 (.pick (.s 22) (nB true) (.s 26))])
 (.cond (.s 27)
 (.seq (.reg [oo 8 (.mov (nI 0)),
 oo 9 (.mov (.c .empty)),
 oo 10 (.mov (nB false))])
 .ret)
 .skip))
 (.seq (.seq (.reg [oo 28 (.fldA 3 (.s 5)),
 oo 29 (.load false 1 (.s 28)),
 oo 30 (.len (.s 29)),
 oo 31 (.mov (nI 0))])
 (.block 0
 (.loop c48_1)))
 c48_0)))
theorem k48 : OkF 48 Tryz.f48 c48 [.t 8, .t 9, .t 10] 101 := ⟨Tryz.func48, by kernel_rfl, by kernel_rfl, by kernel_rfl, Tryz.ntmps48⟩
theorem clone_c (l : List Int) (hl : l.length ≤ 1000) : CallA Tryz.prog 119 [.pure (LI l)] [] fun s H' => s = .rsl 0 0 l.length ∧ H' = [⟨(l.map I).map .pure, 1, .live⟩] := by
 refine CallA.virt 1 (by simp) ?_
 refine CallA.weak (K := fun s H' => (s = .rsl 1 0 l.length ∧ H' = [⟨[], 1, .dead⟩, ⟨(l.map I).map .pure, 1, .live⟩]) ∨ (l = [] ∧ s = .empty ∧ H' = [])) ?_ ?_
 ·refine k119.a (by simp) ?_
  unfold c119
  simp only [*, vmp,↓vmd,seval]
  refine onN_intro fun b hb => ?_
  simp only [*, vmp,↓vmd,seval]
  refine onB_intro (fun h => ?_) (fun h => ?_)
  ·simp only [h, vmp,↓vmd,seval]
   rcases Nat.eq_zero_or_pos l.length with h0 | h0
   ·exact List.eq_nil_of_length_eq_zero h0
   ·rw [hb (by omega)] at h; cases h
  ·simp only [h, vmp,↓vmd,seval]
   refine onIf'_intro (appOk_map (fun _ => rfl) rfl (by simp) (by omega) (by simp [maxLen]; omega)) ?_
   simp only [vmp,↓vmd,seval]
 ·rintro s H' (⟨rfl, rfl⟩ | ⟨rfl, rfl, rfl⟩)
  ·exact ⟨[1], .rsl 0 0 l.length, [⟨(l.map I).map .pure, 1, .live⟩], by simp, rfl, (by simp only [kpp,seval]), (by simp only [kpp,seval]), .inl ⟨rfl, rfl⟩⟩
  ·exact ⟨[], .empty, [], by simp, rfl, (by simp only [kpp,seval]), trivial, .inr ⟨rfl, rfl, rfl⟩⟩
def mvK (at' d : Int) (l : List Int) (k : Nat) : List Int := (l.take k).map (mv at' d) ++ l.drop k
theorem mvK_len {at' d : Int} {l : List Int} {k : Nat} : (mvK at' d l k).length = l.length := by simp [mvK]; omega
theorem mvK_zero {at' d : Int} {l : List Int} : mvK at' d l 0 = l := by simp [mvK]
theorem mvK_all {at' d : Int} {l : List Int} : mvK at' d l l.length = l.map (mv at' d) := by simp [mvK]
theorem mvK_set {at' d : Int} {l : List Int} {k : Nat} (h : k < l.length) : (mvK at' d l k).set k (mv at' d l[k]) = mvK at' d l (k + 1) := by
 have hk : ((l.take k).map (mv at' d)).length = k := by simp; omega
 rw [mvK, mvK, List.set_append_right _ _ (by omega), hk, Nat.sub_self, List.drop_eq_getElem_cons h, List.set_cons_zero, List.take_succ_eq_append_getElem h, List.map_append, List.append_assoc]
 rfl
theorem mvK_at {at' d : Int} {l : List Int} {k : Nat} (h : k < l.length) : (mvK at' d l k)[k]? = some l[k] := by
 have hk : ((l.take k).map (mv at' d)).length = k := by simp; omega
 rw [mvK, List.getElem?_append_right (by omega), hk, Nat.sub_self, List.drop_eq_getElem_cons h]
 rfl
theorem List.set_getElem_self' {α : Type} {l : List α} {k : Nat} {a : α} (h : l[k]? = some a) : l.set k a = l := by
 apply List.ext_getElem?
 intro i
 rw [List.getElem?_set]
 split
 ·rename_i hi
  subst hi
  split
  ·exact h.symm
  ·rename_i hlt
   rw [List.getElem?_eq_none (by omega)]
 ·rfl
theorem moved_q (l : List Int) (at' was now : Int) (hl : l.length ≤ 1000) : FnQ Tryz.prog 113 [LI l, I at', I was, I now] [LI (l.map (mv at' (IntKind.wrap .i64 (now - was))))] := by
 refine k113.q (by simp) ?_
 unfold c113
 simp only [*, vmp,↓vmd,seval]
 refine onC_fr (clone_c l hl) [] (by simp) trivial rfl rfl (by simp) ?_
 generalize IntKind.wrap .i64 (now - was) = d
 simp only [vmp,↓vmd,seval]
 refine onIf_intro fun hlen => ?_
 simp only [vmp,↓vmd,seval]
 refine loop_at (T := Nat) (fun k => [(20, .pure (I k)), (19, .pure (I l.length)), (18, .pure (LI l)), (1, .pure (I at')), (9, .pure (I d)), (10, .rsl 0 0 l.length)]) (fun k => [⟨((mvK at' d l k).map I).map .pure, 1, .live⟩]) (fun k => k ≤ l.length) (fun k => l.length - k)
  0 [0] (by simp) rfl (by simp) (by simp only [kpp,seval]) (by simp only [mvK_zero, kpp,seval]) ?_
 intro k hk
 unfold c113_1
 simp only [vmp,↓vmd,seval]
 refine onB_dec (fun h1 => ?_) (fun h1 => ?_)
 ·have hlt : k < l.length := by omega
  have hlt2 : k < (mvK at' d l k).length := by rw [mvK_len]; exact hlt
  simp only [h1, map_at hlt, Int.natCast_nonneg, vmp,↓vmd,seval]
  have bk : ∀ {e : Env} {X : List Int}, X = mvK at' d l (k + 1) → keepE e 1 (pick [0]) [(20, .pure (I ((k + 1 : Nat) : Int))), (19, .pure (I l.length)), (18, .pure (LI l)), (1, .pure (I at')), (9, .pure (I d)), (10, .rsl 0 0 l.length)] →
    @onBk 0 ⟨Nat, fun k => [(20, .pure (I k)), (19, .pure (I l.length)), (18, .pure (LI l)), (1, .pure (I at')), (9, .pure (I d)), (10, .rsl 0 0 l.length)], fun k => [⟨((mvK at' d l k).map I).map .pure, 1, .live⟩], fun k => k ≤ l.length, fun k => l.length - k⟩ k e [⟨(X.map I).map .pure, 1, .live⟩] := by
   rintro e X rfl he
   exact onBk_to (k + 1) [0] (by simp) rfl (by omega) hlt he (by simp only [kpp,seval])
  have same : mv at' d l[k] = l[k] → mvK at' d l k = mvK at' d l (k + 1) := by
   intro h
   rw [← mvK_set hlt, h]
   have := mvK_at (at' := at') (d := d) hlt
   exact (List.set_getElem_self' this).symm
  refine onB_dec (fun h2 => ?_) (fun h2 => ?_)
  ·simp only [h2, vmp,↓vmd,seval]
   exact bk (same (by simp [mv, h2])) (by simp only [next_at hlt hlen, kpp,seval])
  simp only [h2, vmp,↓vmd,seval]
  refine onB_dec (fun h3 => ?_) (fun h3 => ?_)
  ·simp only [h3, vmp,↓vmd,seval]
   exact bk (same (by simp [mv, h3])) (by simp only [next_at hlt hlen, kpp,seval])
  have hmv : mv at' d l[k] = if d < 0 ∧ l[k] ≤ IntKind.wrap .i64 (at' - d) then -1 else IntKind.wrap .i64 (l[k] + d) := by
   rw [mv, if_neg]
   rintro (h | h)
   ·exact h2 h
   ·exact h3 h
  simp only [h3, vmp,↓vmd,seval]
  refine onB_dec (fun h4 => ?_) (fun h4 => ?_)
  ·simp only [h4, vmp,↓vmd,seval]
   refine onB_dec (fun h5 => ?_) (fun h5 => ?_)
   ·simp only [h5, Int.natCast_nonneg, h1, row_at hlt2, row_set, vmp,↓vmd,seval]
    exact bk (by rw [← mvK_set hlt, hmv, if_pos ⟨h4, h5⟩]) (by simp only [next_at hlt hlen, kpp,seval])
   ·simp only [h5, Int.natCast_nonneg, h1, row_at hlt2, row_set, vmp,↓vmd,seval]
    exact bk (by rw [← mvK_set hlt, hmv, if_neg (by simp [h5])]) (by simp only [next_at hlt hlen, kpp,seval])
  ·simp only [h4, Int.natCast_nonneg, h1, row_at hlt2, row_set, vmp,↓vmd,seval]
   exact bk (by rw [← mvK_set hlt, hmv, if_neg (by simp [h4])]) (by simp only [next_at hlt hlen, kpp,seval])
 ·simp only [h1, vmp,↓vmd,seval]
  unfold c113_0
  simp only [vmp,↓vmd,seval]
  obtain rfl : k = l.length := by omega
  rw [mvK_all]
  exact gives_row' rfl (by simp) (by simp)
theorem match_q (f : Fo) (k : Lk) (ls : List Gl) (hl : ls.length ≤ 1000) (x : Int) (hs : ∀ s ∈ k.subs, s.back.length ≤ 16 ∧ s.inn.length ≤ 16 ∧ s.ahead.length ≤ 16) :
  FnQ Tryz.prog 48 [fo f, lk k, .sl (ls.map gl), I x] (matR (matchF f k ls x)) := by
 refine k48.q (by simp) ?_
 unfold c48
 simp only [*, vmp,↓vmd,seval]
 by_cases h0 : x < 0
 ·simp only [h0, vmp,↓vmd,seval]
  rw [matchF, if_pos (.inl h0)]
  exact gives_tup rfl (by simp)
 simp only [h0, vmp,↓vmd,seval]
 refine onIf_intro fun _ => ?_
 simp only [h0, vmp,↓vmd,seval]
 by_cases h1 : (ls.length : Int) ≤ x
 ·simp only [h1, vmp,↓vmd,seval]
  rw [matchF, if_pos (.inr h1)]
  exact gives_tup rfl (by simp)
 simp only [h1, vmp,↓vmd,seval]
 refine onIf_intro fun _ => ?_
 simp only [vmp,↓vmd,seval]
 rw [matchF, if_neg (by omega)]
 refine loop_at (T := Nat) (fun i => [(31, .pure (I i)), (30, .pure (I k.subs.length)), (29, .pure (.sl (k.subs.map sub))), (2, .pure (.sl (ls.map gl))), (3, .pure (I x)), (4, .ptr 0 0 0), (5, .ptr 1 0 0)]) (fun _ => [⟨[.pure (fo f)], 6, .live⟩, ⟨[.pure (lk k)], 4, .live⟩]) (fun i => i ≤ k.subs.length ∧ matF (stF f k.flags k.set ls x) i (k.subs.drop i) = matF (stF f k.flags k.set ls x) 0 k.subs) (fun i => k.subs.length - i)
  0 [0, 1] (by simp) rfl ⟨by simp, by simp⟩ (by simp only [kpp,seval]) (by simp only [kpp,seval]) ?_
 rintro i ⟨hi, hr⟩
 unfold c48_1
 simp only [vmp,↓vmd,seval]
 by_cases h2 : (i : Int) < (k.subs.length : Int)
 ·have hlt : i < k.subs.length := by omega
  rw [drop_at hlt, matF] at hr
  obtain ⟨hb, hin, ha⟩ := hs _ (List.getElem_mem hlt)
  obtain ⟨s, hs'⟩ : ∃ s, s = k.subs[i] := ⟨_, rfl⟩
  have hmap : (k.subs.map sub)[i]? = some (sub s) := by rw [map_at hlt, hs']
  rw [← hs'] at hr hb hin ha
  obtain ⟨q, hq1, hq2⟩ := at_id (ls := ls) (y := x) (by omega) (by omega)
  have hx0 : 0 ≤ x := by omega
  have hx1 : x < ls.length := by omega
  have back : ∀ {o : Option (List Int)}, stF f k.flags k.set ls x s = o → o = none → matF (stF f k.flags k.set ls x) (i + 1) (k.subs.drop (i + 1)) = matF (stF f k.flags k.set ls x) 0 k.subs := fun e1 e2 => by rw [e1, e2] at hr; exact hr
  simp only [h2, hmap, Int.natCast_nonneg, vmp,↓vmd,seval]
  obtain hz | ⟨z, zs, hz⟩ : s.inn = [] ∨ ∃ z zs, s.inn = z :: zs := by cases s.inn <;> simp
  ·simp only [hz, vmp,↓vmd,seval]
   refine onBk_to (i + 1) [0, 1] (by simp) rfl (by omega) ⟨hlt, back (o := none) (by rw [stF, hz]) rfl⟩ (by simp only [next_at hlt (by omega), kpp,seval]) (by simp only [kpp,seval])
  ·rw [hz] at hin
   simp only [List.length_cons] at hin
   obtain ⟨e0, en, es⟩ := inn_cons hz
   have hst : stF f k.flags k.set ls x s = if idAt ls x ∉ z then none else match rowF (nextF (seesF f k.flags k.set ls) ls.length) ls zs x with
     | none => none
     | some r => match rowF (prevF (seesF f k.flags k.set ls) ls.length) ls s.back x with
      | none => none
      | some _ => match rowF (nextF (seesF f k.flags k.set ls) ls.length) ls s.ahead (lastF x r) with
       | none => none
       | some _ => some (x :: r) := by rw [stF, hz] <;> rfl
   simp only [e0, en, hq1, hx0, hx1, vmp,↓vmd,seval]
   refine onC_q (contains_q _ _) rfl ?_
   rw [hq2]
   (first | apply envO | apply envQ); simp only [vmp,↓vmd,seval]; rfl
   by_cases hm : idAt ls x ∈ z
   ·rw [if_neg (by simp [hm])] at hst
    simp only [hm, es, en, vmp,↓vmd,seval]
    have hr1 := row_q f k.kind k.flags k.set (.sl (k.subs.map sub)) ls hl x zs (by omega)
    have hr2 := back_q f k.kind k.flags k.set (.sl (k.subs.map sub)) ls hl x s.back (by omega)
    cases hc1 : rowF (nextF (seesF f k.flags k.set ls) ls.length) ls zs x with
    | none =>
     rw [hc1] at hr1 hst
     have hr1' : FnQ Tryz.prog 75 [fo f, lk k, .sl (ls.map gl), I x, LL zs] [LI [], .bool false] := hr1
     refine onQ_q hr1' rfl ?_
     (first | apply envO | apply envQ); simp only [vmp,↓vmd,seval]; rfl
     simp only [vmp,↓vmd,seval]
     refine onBk_to (i + 1) [0, 1] (by simp) rfl (by omega) ⟨hlt, back hst rfl⟩ (by simp only [next_at hlt (by omega), kpp,seval]) (by simp only [kpp,seval])
    | some r =>
     rw [hc1] at hr1 hst
     have hrl := rowF_len hc1
     have hr1' : FnQ Tryz.prog 75 [fo f, lk k, .sl (ls.map gl), I x, LL zs] [LI r, .bool true] := hr1
     refine onQ_q hr1' rfl ?_
     (first | apply envO | apply envQ); simp only [vmp,↓vmd,seval]; rfl
     simp only [vmp,↓vmd,seval]
     refine onIf'_intro (appOk_map (fun _ => rfl) rfl (by simp) (by omega) (by simp [maxLen]; omega)) ?_
     simp only [vmp,↓vmd,seval]
     cases hc2 : rowF (prevF (seesF f k.flags k.set ls) ls.length) ls s.back x with
     | none =>
      rw [hc2] at hr2
      have hst2 : stF f k.flags k.set ls x s = none := by rw [hst]; simp only [hc2]
      have hr2' : FnQ Tryz.prog 76 [fo f, lk k, .sl (ls.map gl), I x, LL s.back] [LI [], .bool false] := hr2
      refine onC_q hr2' rfl ?_
      (first | apply envO | apply envQ); simp only [vmp,↓vmd,seval]; rfl
      simp only [vmp,↓vmd,seval]
      refine onBk_to (i + 1) [0, 1] (by simp) rfl (by omega) ⟨hlt, back hst2 rfl⟩ (by simp only [next_at hlt (by omega), kpp,seval]) (by simp only [kpp,seval])
     | some r2 =>
      rw [hc2] at hr2
      have hr2' : FnQ Tryz.prog 76 [fo f, lk k, .sl (ls.map gl), I x, LL s.back] [LI r2, .bool true] := hr2
      refine onC_q hr2' rfl ?_
      (first | apply envO | apply envQ); simp only [vmp,↓vmd,seval]; rfl
      have hwL : IntKind.wrap .i64 (((1 + r.length : Nat) : Int) - 1) = (r.length : Int) := by rw [wrap_id (by omega) (by omega)]; omega
      simp only [hwL, last_at, Int.natCast_nonneg, show (r.length : Int) < ((1 + r.length : Nat) : Int) by omega, vmp,↓vmd,seval]
      have hr3 := row_q f k.kind k.flags k.set (.sl (k.subs.map sub)) ls hl (lastF x r) s.ahead (by omega)
      cases hc3 : rowF (nextF (seesF f k.flags k.set ls) ls.length) ls s.ahead (lastF x r) with
      | none =>
       rw [hc3] at hr3
       have hst2 : stF f k.flags k.set ls x s = none := by rw [hst]; simp only [hc2, hc3]
       have hr3' : FnQ Tryz.prog 75 [fo f, lk k, .sl (ls.map gl), I (lastF x r), LL s.ahead] [LI [], .bool false] := hr3
       refine onQ_q hr3' rfl ?_
       (first | apply envO | apply envQ); simp only [vmp,↓vmd,seval]; rfl
       simp only [vmp,↓vmd,seval]
       refine onBk_to (i + 1) [0, 1] (by simp) rfl (by omega) ⟨hlt, back hst2 rfl⟩ (by simp only [next_at hlt (by omega), kpp,seval]) (by simp only [kpp,seval])
      | some r3 =>
       rw [hc3] at hr3
       have hst2 : stF f k.flags k.set ls x s = some (x :: r) := by rw [hst]; simp only [hc2, hc3]
       have hr3' : FnQ Tryz.prog 75 [fo f, lk k, .sl (ls.map gl), I (lastF x r), LL s.ahead] [LI r3, .bool true] := hr3
       refine onQ_q hr3' rfl ?_
       (first | apply envO | apply envQ); simp only [vmp,↓vmd,seval]; rfl
       simp only [vmp,↓vmd,seval]
       rw [hst2] at hr
       rw [← hr]
       exact gives_tup (toVs_of rfl (toVs_of (toV_row1 rfl (.inr ⟨rfl, rfl⟩) (by omega)) rfl)) (by simp)
   ·rw [if_pos hm] at hst
    simp only [hm, en, vmp,↓vmd,seval]
    refine onBk_to (i + 1) [0, 1] (by simp) rfl (by omega) ⟨hlt, back hst rfl⟩ (by simp only [next_at hlt (by omega), kpp,seval]) (by simp only [kpp,seval])
 ·simp only [h2, vmp,↓vmd,seval]
  unfold c48_0
  simp only [vmp,↓vmd,seval]
  rw [List.drop_of_length_le (by omega)] at hr
  rw [← hr]
  exact gives_tup rfl (by simp)
end Go.Proofs.YtcjmkpkhjhjepaaGreat.W
