/-
  The law of steps that change nothing, and of steps one by one.
-/
import Derived.Test.YtcjmkpkhjhjepaaGreatPos9
import Derived.Test.YtcjmkpkhjhjepaaGreatPosS
namespace Go.Proofs.YtcjmkpkhjhjepaaGreat.W
open Go Go.Vm Go.Proofs
set_option maxRecDepth 100000
set_option linter.unusedSimpArgs false
set_option maxHeartbeats 4000000
/-! typecase/typecaselaw35.PosQuiet -/
def c6_0 : AC :=
 (.seq (.regq [oo 107 (.mov (.s 7)),
 oo 108 (.load true 6 (.s 3)),
 oo 109 (.mov (.s 2)),
 oo 110 (.call 14 [(.s 109)]),
 oo 111 (.mov (.s 8)),
 oo 112 (.call 13 [(.s 108), (.s 110), (.s 111)])]
[oo 113 (.call 10 [(.s 107), (.s 112)]),
 oo 6 (.mov (.s 113))])
 .ret)
def c6_1 : AC :=
 (.seq (.seq (.reg [oo 87 (.mov (.s 13)),
 oo 88 (.mov (.s 2)),
 oo 89 (.len (.s 88)),
 oo 90 (.bin .lss (.s 87) (.s 89))])
 (.cond (.s 90)
 .skip
 (.exit 4)))
 (.seq (.block 5
 (.regq [oo 93 (.load true 6 (.s 3)),
 oo 94 (.mov (.s 2)),
 oo 95 (.mov (.s 13)),
 oo 96 (.idxA 2 (.s 94) (.s 95)),
 oo 97 (.fldA 0 (.s 96)),
 oo 98 (.load false 1 (.s 97)),
 oo 99 (.mov (.s 2)),
 oo 100 (.mov (.s 13)),
 oo 101 (.idxA 2 (.s 99) (.s 100)),
 oo 102 (.fldA 1 (.s 101)),
 oo 103 (.load false 1 (.s 102)),
 oo 104 (.build [(pI 0), (pI 0)] [(0, 1, (.s 98)), (1, 1, (.s 103))]),
 oo 105 (.mov (.s 7))]
[oo 106 (.call 11 [(.s 93), (.s 104), (.s 105)]),
 oo 7 (.mov (.s 106))]))
 (.reg [oo 91 (.mov (.s 13)),
 oo 92 (.bin .add (.s 91) (nI 1)),
 oo 13 (.mov (.s 92))])))
def c6_2 : AC :=
 (.seq (.seq (.regq [oo 64 (.load true 6 (.s 3)),
 oo 65 (.mov (.s 11)),
 oo 66 (.call 14 [(.s 65)]),
 oo 67 (.mov (.s 8)),
 oo 68 (.call 13 [(.s 64), (.s 66), (.s 67)]),
 oo 69 (.mov (.s 8)),
 oo 70 (.call 10 [(.s 68), (.s 69)]),
 oo 71 (.un .not (.s 70)),
 oo 72 (.mov (.s 71)),
 og 73 72 false (.mov (.s 8)),
 og 74 72 false (.call 15 [(.s 73)]),
 og 75 72 false (.mov (.s 8))]
[og 76 72 false (.call 10 [(.s 74), (.s 75)]),
 og 77 72 false (.un .not (.s 76)),
 oo 78 (.pick (.s 72) (nB true) (.s 77))])
 (.cond (.s 78)
 (.seq (.reg [oo 6 (.mov (nB false))])
 .ret)
 .skip))
 (.seq (.seq (.reg [oo 79 (.load true 6 (.s 3)),
 oo 80 (.mov (.s 2)),
 oo 81 (.mov (.s 8)),
 oo 82 (.call 16 [(.s 79), (.s 80), (.s 81)]),
 oo 83 (.bin .eql (.s 82) (nI 0))])
 (.cond (.s 83)
 (.seq (.reg [oo 6 (.mov (nB true))])
 .ret)
 .skip))
 (.seq (.reg [oo 84 (.mov (.s 7)),
 oo 85 (.mov (.s 8)),
 oo 86 (.app 10 80 (.s 84) (.s 85)),
 oo 7 (.mov (.s 86))])
 (.seq (.seq (.reg [oo 13 (.mov (nI 0))])
 (.block 4
 (.loop c6_1)))
 c6_0))))
def c6_3 : AC :=
 (.seq (.seq (.reg [oo 43 (.mov (.s 12)),
 oo 44 (.mov (.s 2)),
 oo 45 (.len (.s 44)),
 oo 46 (.bin .lss (.s 43) (.s 45))])
 (.cond (.s 46)
 .skip
 (.exit 2)))
 (.seq (.block 3
 (.regq [oo 49 (.mov (.s 11)),
 oo 50 (.mov (.s 2)),
 oo 51 (.mov (.s 12)),
 oo 52 (.idxA 2 (.s 50) (.s 51)),
 oo 53 (.fldA 0 (.s 52)),
 oo 54 (.load false 1 (.s 53)),
 oo 55 (.mov (.s 2)),
 oo 56 (.mov (.s 12)),
 oo 57 (.idxA 2 (.s 55) (.s 56)),
 oo 58 (.fldA 1 (.s 57)),
 oo 59 (.load false 1 (.s 58)),
 oo 60 (.bin .andNot (.s 59) (nI 6)),
 oo 61 (.build [(pI 0), (pI 0)] [(0, 1, (.s 54)), (1, 1, (.s 60))]),
 oo 62 (.bslice 2 [(.s 61)])]
[oo 63 (.app 2 16 (.s 49) (.s 62)),
 oo 11 (.mov (.s 63))]))
 (.reg [oo 47 (.mov (.s 12)),
 oo 48 (.bin .add (.s 47) (nI 1)),
 oo 12 (.mov (.s 48))])))
def c6_4 : AC :=
 (.seq (.reg [oo 11 (.mov (.c .empty))])
 (.seq (.seq (.reg [oo 12 (.mov (nI 0))])
 (.block 2
 (.loop c6_3)))
 c6_2))
def c6_5 : AC :=
 (.seq (.seq (.reg [oo 23 (.mov (.s 9)),
 oo 24 (.mov (.s 1)),
 oo 25 (.len (.s 24)),
 oo 26 (.bin .lss (.s 23) (.s 25))])
 (.cond (.s 26)
 .skip
 (.exit 0)))
 (.seq (.block 1
 (.seq (.reg [oo 29 (.mov (.s 1)),
 oo 30 (.mov (.s 9)),
 oo 31 (.idxA 10 (.s 29) (.s 30)),
 oo 32 (.load true 10 (.s 31)),
 oo 10 (.box (.c (.pure (.agg [(.int .i64 0), (.int .i64 0), (.int .i64 0), (.int .i64 0), (.int .i64 0), (.int .i64 0), (.int .i64 0), (.int .i64 0), (.int .i64 0), (.int .i64 0)])))),
⟨none, none, .store 10 (.s 10) (.s 32)⟩])
 (.seq (.reg [oo 33 (.fldA 9 (.s 10)),
 oo 34 (.load false 1 (.s 33)),
 oo 35 (.bin .and (.s 34) (nI 6)),
 oo 36 (.fldA 9 (.s 10)),
⟨none, none, .store 1 (.s 36) (.s 35)⟩])
 (.seq (.reg [oo 37 (.fldA 5 (.s 10)),
⟨none, none, .store 1 (.s 37) (nI (-1))⟩])
 (.seq (.reg [oo 38 (.fldA 6 (.s 10)),
⟨none, none, .store 1 (.s 38) (nI (-1))⟩])
 (.reg [oo 39 (.mov (.s 8)),
 oo 40 (.load true 10 (.s 10)),
 oo 41 (.bslice 10 [(.s 40)]),
 oo 42 (.app 10 80 (.s 39) (.s 41)),
 oo 8 (.mov (.s 42))]))))))
 (.reg [oo 27 (.mov (.s 9)),
 oo 28 (.bin .add (.s 27) (nI 1)),
 oo 9 (.mov (.s 28))])))
def c6 : AC :=
 (.seq (.reg [oo 3 (.box (.s 0)),
 oo 6 (.mov (nB false))])
 (.seq (.seq (.reg [oo 14 (.load true 6 (.s 3)),
 oo 15 (.mov (.s 1)),
 oo 16 (.call 7 [(.s 14), (.s 15)]),
 oo 17 (.un .not (.s 16)),
 oo 18 (.mov (.s 17)),
 og 19 18 false (.mov (.s 2)),
 og 20 18 false (.len (.s 19)),
 og 21 18 false (.bin .gtr (.s 20) (nI 6)),
 oo 22 (.pick (.s 18) (nB true) (.s 21))])
 (.cond (.s 22)
 (.seq (.reg [oo 6 (.mov (nB true))])
 .ret)
 .skip))
 (.seq (.reg [oo 7 (.mov (.c .empty)),
 oo 8 (.mov (.c .empty))])
 (.seq (.seq (.reg [oo 9 (.mov (nI 0))])
 (.block 0
 (.loop c6_5)))
 c6_4))))
theorem k6 : OkF 6 Tryz.f6 c6 [.t 6] 114 := ⟨Tryz.func6, by kernel_rfl, by kernel_rfl, by kernel_rfl, Tryz.ntmps6⟩
theorem pq_law (F : Ff) (ls : List Gl) (ts : List Stp) : FnQ Tryz.prog 6 [ffV F, .sl (ls.map gl), .sl (ts.map stp)] [.bool true] := by
 refine fnQ_of_p mixed k6.g k6.h k6.k k6.r (by rw [k6.n]; simp) ?_
 unfold c6
 have hmay := @may_of F ls
 refine aWp_seq ?_
 simp only [vmp,↓vmd,seval]
 refine aWp_seq ?_
 simp only [vmp,↓vmd,seval]
 refine onC_q (may_q F ls) rfl ?_
 generalize mayF F ls = b at *
 cases b with
 | false =>
  (first | apply envO | apply envQ); simp only [vmp,↓vmd,seval]; rfl
  simp only [vmp,↓vmd,seval]
  exact gives_pure
 | true =>
  obtain ⟨hl, _, hF⟩ := hmay rfl
  (first | apply envO | apply envQ); simp only [vmp,↓vmd,seval]; rfl
  simp only [vmp,↓vmd,seval]
  refine onIf_intro fun _ => ?_
  (first | apply envO | apply envQ); simp only [vmp,↓vmd,seval]; rfl
  simp only [vmp,↓vmd,seval]
  refine onB_dec (fun h0 => ?_) (fun h0 => ?_)
  ·(first | apply envO | apply envQ); simp only [h0, vmp,↓vmd,seval]; rfl
   simp only [h0, vmp,↓vmd,seval]
   exact gives_pure
  have hO : ∀ g ∈ ls.map ownG, g.to = -1 ∧ g.hang = -1 := fun g hg => by
   obtain ⟨x, _, rfl⟩ := List.mem_map.1 hg
   exact ⟨rfl, rfl⟩
  have hQ : ∀ t ∈ ts.map noneS, ∀ g ∈ ls.map ownG, andE g.mask t.m = 0 := fun t ht g hg => by
   obtain ⟨x, _, rfl⟩ := List.mem_map.1 hg
   obtain ⟨y, _, rfl⟩ := List.mem_map.1 ht
   exact and_none x.mask y.m
  have hOl : (ls.map ownG).length = ls.length := List.length_map _
  have hOi : ∀ (i : Nat) (h : i < ls.length), (ls.map ownG).take (i + 1) = (ls.map ownG).take i ++ [ownG ls[i]] := fun i h => by
   rw [List.take_succ_eq_append_getElem (by simpa using h), List.getElem_map]
  generalize ls.map ownG = O at *
  simp only [h0, vmp,↓vmd,seval]
  refine aWp_seq ?_
  simp only [vmp,↓vmd,seval]
  refine aWp_seq_frz 1 ?_
  simp only [vmp,↓vmd,seval]
  refine loop_virt 8 10 rfl (by simp) ?_
  refine loop_at (T := Nat) (fun i => [(9, .pure (I (i : Int))), (1, .pure (.sl (ls.map gl))), (2, .pure (.sl (ts.map stp))), (3, .ptr 0 0 0), (7, .empty), (8, .rsl 1 0 (O.take i).length)])
   (fun i => [⟨[.pure (ffV F)], 6, .live⟩, ⟨((O.take i).map gl).map .pure, 10, .live⟩]) (fun i => i ≤ ls.length) (fun i => ls.length - i)
   0 [0, 1] (by simp) rfl (by simp) (by simp only [List.take_zero, kpp,seval]) (by simp only [List.take_zero, kpp,seval]) ?_
  intro i hi
  unfold c6_5
  simp only [vmp,↓vmd,seval]
  refine onIf_intro fun _ => ?_
  (first | apply envO | apply envQ); simp only [vmp,↓vmd,seval]; rfl
  simp only [vmp,↓vmd,seval]
  refine onB_dec (fun h1 => ?_) (fun h1 => ?_)
  ·have hlt : i < ls.length := by omega
   have hi' : (O.take i).length = i := by simp; omega
   have hgi : (ls.map gl)[i]? = some (gl ls[i]) := map_at hlt
   have hs' := hOi i hlt
   generalize ls[i] = g at hgi hs'
   simp only [h1, hgi, Int.natCast_nonneg, vmp,↓vmd,seval]
   refine onIf'_intro (appOk_one rfl rfl (by simp) (by omega) (by simp [maxLen]; omega)) ?_
   (first | apply envO | apply envQ); simp only [vmp,↓vmd,seval]; rfl
   simp only [vmp,↓vmd,seval]
   refine onBk_to (i + 1) [0, 4] (by simp) rfl (by omega) hlt (by simp only [next_at hlt (by omega), hs', ownG, kpp,seval]) (by simp only [hs', ownG, kpp,seval])
  ·rw [List.take_of_length_le (by omega)]
   simp only [h1, vmp,↓vmd,seval]
   unfold c6_4
   have hNl : (ts.map noneS).length = ts.length := List.length_map _
   have hNi : ∀ (i : Nat) (h : i < ts.length), (ts.map noneS).take (i + 1) = (ts.map noneS).take i ++ [noneS ts[i]] := fun i h => by
    rw [List.take_succ_eq_append_getElem (by simpa using h), List.getElem_map]
   generalize ts.map noneS = N at *
   refine aWp_seq ?_
   simp only [vmp,↓vmd,seval]
   refine aWp_seq_frz 2 ?_
   simp only [vmp,↓vmd,seval]
   refine loop_virt 11 2 rfl (by simp) ?_
   refine loop_at (T := Nat) (fun i => [(12, .pure (I (i : Int))), (2, .pure (.sl (ts.map stp))), (3, .ptr 0 0 0), (7, .empty), (8, .rsl 1 0 O.length), (11, .rsl 2 0 (N.take i).length)])
    (fun i => [⟨[.pure (ffV F)], 6, .live⟩, ⟨(O.map gl).map .pure, 10, .frozen⟩, ⟨((N.take i).map stp).map .pure, 2, .live⟩]) (fun i => i ≤ ts.length) (fun i => ts.length - i)
    0 [0, 1, 2] (by simp) rfl (by simp) (by simp only [List.take_zero, kpp,seval]) (by simp only [List.take_zero, kpp,seval]) ?_
   intro i hi
   unfold c6_3
   simp only [vmp,↓vmd,seval]
   refine onIf_intro fun _ => ?_
   (first | apply envO | apply envQ); simp only [vmp,↓vmd,seval]; rfl
   simp only [vmp,↓vmd,seval]
   refine onB_dec (fun h2 => ?_) (fun h2 => ?_)
   ·have hlt : i < ts.length := by omega
    have hi' : (N.take i).length = i := by simp; omega
    have hgi : (ts.map stp)[i]? = some (stp ts[i]) := map_at hlt
    have hs' := hNi i hlt
    generalize ts[i] = g at hgi hs'
    simp only [h2, hgi, Int.natCast_nonneg, bin_andNot, vmp,↓vmd,seval]
    refine onIf'_intro (appOk_one rfl rfl (by simp) (by omega) (by simp [maxLen]; omega)) ?_
    (first | apply envO | apply envQ); simp only [vmp,↓vmd,seval]; rfl
    simp only [vmp,↓vmd,seval]
    refine onBk_to (i + 1) [0, 1, 4] (by simp) rfl (by omega) hlt (by simp only [next_at hlt (by omega), hs', noneS, kpp,seval]) (by simp only [hs', noneS, kpp,seval])
   ·rw [List.take_of_length_le (by omega)]
    simp only [h2, vmp,↓vmd,seval]
    unfold c6_2
    have w1 := steps_q N (by omega)
    have w2 := pall_q F hF N O (by omega)
    rw [allP_quiet F N O 65536 hQ] at w2
    have w3 := settleOwn_q O (by omega) hO
    have w4 := left_q F hF ts O (by omega)
    have w5 := steps_q ts (by omega)
    have w6 := pall_q F hF ts O (by omega)
    have w7 := each_all F ts O 65536 (by omega) (by omega)
    have w8 := allP_p F ts O 65536 (by omega)
    have same : FnQ Tryz.prog 10 [.sl (O.map gl), .sl (O.map gl)] [.bool true] := by
     have := same29_q O O
     rwa [decide_eq_true rfl] at this
    refine aWp_seq ?_
    simp only [vmp,↓vmd,seval]
    first | refine onQ_q w1 (toVs_of (toV_rowN rfl (.inl rfl) rfl) rfl) ?_ | refine onC_q w1 (toVs_of (toV_rowN rfl (.inl rfl) rfl) rfl) ?_
    (first | apply envO | apply envQ); simp only [vmp,↓vmd,seval]; rfl
    simp only [vmp,↓vmd,seval]
    first | refine onQ_q w2 (toVs_of rfl (toVs_of rfl (toVs_of (toV_rowN rfl (.inl rfl) rfl) rfl))) ?_ | refine onC_q w2 (toVs_of rfl (toVs_of rfl (toVs_of (toV_rowN rfl (.inl rfl) rfl) rfl))) ?_
    (first | apply envO | apply envQ); simp only [vmp,↓vmd,seval]; rfl
    simp only [vmp,↓vmd,seval]
    first | refine onQ_q same (toVs_of rfl (toVs_of (toV_rowN rfl (.inl rfl) rfl) rfl)) ?_ | refine onC_q same (toVs_of rfl (toVs_of (toV_rowN rfl (.inl rfl) rfl) rfl)) ?_
    (first | apply envO | apply envQ); simp only [vmp,↓vmd,seval]; rfl
    simp only [vmp,↓vmd,seval]
    first | refine onQ_q w3 (toVs_of (toV_rowN rfl (.inl rfl) rfl) rfl) ?_ | refine onC_q w3 (toVs_of (toV_rowN rfl (.inl rfl) rfl) rfl) ?_
    (first | apply envO | apply envQ); simp only [vmp,↓vmd,seval]; rfl
    simp only [vmp,↓vmd,seval]
    first | refine onQ_q same (toVs_of rfl (toVs_of (toV_rowN rfl (.inl rfl) rfl) rfl)) ?_ | refine onC_q same (toVs_of rfl (toVs_of (toV_rowN rfl (.inl rfl) rfl) rfl)) ?_
    simp only [vmp,↓vmd,seval]
    refine aWp_seq ?_
    simp only [vmp,↓vmd,seval]
    generalize allP F ts O 65536 = z at *
    obtain ⟨z1, z2⟩ := z
    simp only at w4 w6 w7 w8
    first | refine onQ_q w4 (toVs_of rfl (toVs_of rfl (toVs_of (toV_rowN rfl (.inl rfl) rfl) rfl))) ?_ | refine onC_q w4 (toVs_of rfl (toVs_of rfl (toVs_of (toV_rowN rfl (.inl rfl) rfl) rfl))) ?_
    (first | apply envO | apply envQ); simp only [vmp,↓vmd,seval]; rfl
    simp only [vmp,↓vmd,seval]
    refine onB_dec (fun h3 => ?_) (fun h3 => ?_)
    ·(first | apply envO | apply envQ); simp only [h3, vmp,↓vmd,seval]; rfl
     simp only [h3, vmp,↓vmd,seval]
     exact gives_pure
    simp only [h3, vmp,↓vmd,seval]
    refine aWp_seq_frz 3 ?_
    simp only [vmp,↓vmd,seval]
    refine onIf'_intro (appOk0_map (fun _ => rfl) (by omega) (by simp [maxLen]; omega)) ?_
    simp only [vmp,↓vmd,seval]
    refine aWp_seq ?_
    simp only [vmp,↓vmd,seval]
    refine loop_at (T := Nat × S × List Gl) (fun z => [(13, .pure (I (z.1 : Int))), (7, z.2.1), (2, .pure (.sl (ts.map stp))), (3, .ptr 0 0 0), (8, .rsl 1 0 O.length)])
     (fun _ => [⟨[.pure (ffV F)], 6, .live⟩, ⟨(O.map gl).map .pure, 10, .frozen⟩, ⟨(O.map gl).map .pure, 10, .frozen⟩])
     (fun z => z.1 ≤ ts.length ∧ z.2.2.length ≤ 100 ∧ eachP F (ts.drop z.1) z.2.2 = eachP F ts O ∧ (z.2.1 = .rsl 2 0 O.length ∧ z.2.2 = O ∨ z.2.1 = .pure (.sl (z.2.2.map gl)))) (fun z => ts.length - z.1)
     (0, .rsl 2 0 O.length, O) [0, 1, 3] (by simp) rfl ⟨by simp, by simp only; omega, by simp, .inl ⟨rfl, rfl⟩⟩ (by simp only [kpp,seval]) (by simp only [kpp,seval]) ?_
    rintro ⟨i, s, X⟩ ⟨hi, hX, hr, hs⟩
    simp only at hi hX hr hs
    unfold c6_1
    simp only [vmp,↓vmd,seval]
    refine onIf_intro fun _ => ?_
    (first | apply envO | apply envQ); simp only [vmp,↓vmd,seval]; rfl
    simp only [vmp,↓vmd,seval]
    refine onB_dec (fun h4 => ?_) (fun h4 => ?_)
    ·have hlt : i < ts.length := by omega
     rw [drop_at hlt, eachP] at hr
     have hgi : (ts.map stp)[i]? = some (stp ts[i]) := map_at hlt
     generalize ts[i] = t at *
     have hq := plookup_q F hF t X hX
     have hc := (passF_p F t.k t.m X.length X 0 65536 (by omega)).1
     have hlen := coreL_len hc
     generalize (passF F t.k t.m X.length X 0 65536).1 = Y at *
     simp only [h4, hgi, Int.natCast_nonneg, vmp,↓vmd,seval]
     rcases hs with ⟨rfl, rfl⟩ | rfl
     ·first | refine onQ_q hq (toVs_of rfl (toVs_of rfl (toVs_of (toV_rowN rfl (.inl rfl) rfl) rfl))) ?_ | refine onC_q hq (toVs_of rfl (toVs_of rfl (toVs_of (toV_rowN rfl (.inl rfl) rfl) rfl))) ?_
      (first | apply envO | apply envQ); simp only [vmp,↓vmd,seval]; rfl
      simp only [vmp,↓vmd,seval]
      refine onBk_to (i + 1, .pure (.sl (Y.map gl)), Y) [0, 1, 2] (by simp) rfl (by simp only; omega) ⟨hlt, by simp only; omega, hr, .inr rfl⟩ (by simp only [next_at hlt (by omega), kpp,seval]) (by simp only [kpp,seval])
     ·first | refine onQ_q hq rfl ?_ | refine onC_q hq rfl ?_
      (first | apply envO | apply envQ); simp only [vmp,↓vmd,seval]; rfl
      simp only [vmp,↓vmd,seval]
      refine onBk_to (i + 1, .pure (.sl (Y.map gl)), Y) [0, 1, 2] (by simp) rfl (by simp only; omega) ⟨hlt, by simp only; omega, hr, .inr rfl⟩ (by simp only [next_at hlt (by omega), kpp,seval]) (by simp only [kpp,seval])
    ·rw [List.drop_of_length_le (by omega), eachP] at hr
     subst hr
     have hz := w7 (by omega)
     rw [← hz] at w6
     simp only [h4, vmp,↓vmd,seval]
     unfold c6_0
     refine aWp_x ?_
     simp only [vmp,↓vmd,seval]
     first | refine onQ_q w5 rfl ?_ | refine onC_q w5 rfl ?_
     (first | apply envO | apply envQ); simp only [vmp,↓vmd,seval]; rfl
     simp only [vmp,↓vmd,seval]
     first | refine onQ_q w6 (toVs_of rfl (toVs_of rfl (toVs_of (toV_rowN rfl (.inl rfl) rfl) rfl))) ?_ | refine onC_q w6 (toVs_of rfl (toVs_of rfl (toVs_of (toV_rowN rfl (.inl rfl) rfl) rfl))) ?_
     (first | apply envO | apply envQ); simp only [vmp,↓vmd,seval]; rfl
     simp only [vmp,↓vmd,seval]
     rcases hs with ⟨rfl, e⟩ | rfl
     ·have fin := same29_q O (eachP F ts O)
      rw [decide_eq_true e.symm] at fin
      first | refine onQ_q fin (toVs_of (toV_rowN rfl (.inl rfl) rfl) rfl) ?_ | refine onC_q fin (toVs_of (toV_rowN rfl (.inl rfl) rfl) rfl) ?_
      (first | apply envO | apply envQ); simp only [vmp,↓vmd,seval]; rfl
      simp only [vmp,↓vmd,seval]
      exact gives_pure
     ·have fin := same29_q (eachP F ts O) (eachP F ts O)
      rw [decide_eq_true rfl] at fin
      first | refine onQ_q fin rfl ?_ | refine onC_q fin rfl ?_
      (first | apply envO | apply envQ); simp only [vmp,↓vmd,seval]; rfl
      simp only [vmp,↓vmd,seval]
      exact gives_pure
theorem pq_all (vs : List V) (h : OkTs Tryz.prog Tryz.f6.params.toList vs) : FnQ Tryz.prog 6 vs [.bool true] := by
 rw [Tryz.params6] at h
 match vs, h with
 | [x, y, z], h =>
  obtain ⟨h1, h2, h3, _⟩ := h
  obtain ⟨f, rfl⟩ := font_of' h1
  obtain ⟨l, rfl, _⟩ := gls_of (cell_of (h2 _ _ _ ty_glyphs))
  obtain ⟨t, rfl⟩ := steps_of h3
  exact pq_law f l t
end Go.Proofs.YtcjmkpkhjhjepaaGreat.W
