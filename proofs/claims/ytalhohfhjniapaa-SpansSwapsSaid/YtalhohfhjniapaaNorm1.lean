/-
  spans.Norm: what it answers. No condition but on sizes.
-/
import Derived.Test.YtalhohfhjniapaaNorm0
import Derived.Test.YtalhohfhjniapaaRoll2
import Derived.Test.YtalhohfhjniapaaSrt7
namespace Go.Proofs.Ytalhohfhjniapaa.W
open Go Go.Vm Go.Proofs
set_option maxRecDepth 100000
set_option linter.unusedSimpArgs false
set_option maxHeartbeats 4000000
/-! typecase/spans.Norm -/
def c8_0 : AC :=
 (.seq (.reg [oo 85 (.fldA 0 (.s 8)),
 oo 86 (.load false 1 (.s 85)),
 oo 4 (.mov (.s 86))])
 .ret)
def c8_1 : AC :=
 (.reg [oo 44 (.mov (.s 9)),
 oo 45 (.bin .add (.s 44) (nI 1)),
 oo 9 (.mov (.s 45))])
def c8_2 : AC :=
 (.reg [oo 80 (.mov (.s 11)),
 oo 81 (.mov (.s 10)),
 oo 82 (.bin .sub (.s 80) (.s 81)),
 oo 83 (.mov (.s 12)),
 oo 84 (.call 17 [(.s 8), (.s 82), (.s 83)])])
def c8_3 : AC :=
 (.seq (.reg [oo 64 (.bin .lss (.s 63) (.s 62))])
 (.seq (.cond (.s 64)
 .skip
 (.exit 4))
 (.seq (.block 5
 (.seq (.reg [oo 65 (.idxA 3 (.s 61) (.s 63)),
 oo 66 (.load true 3 (.s 65)),
 oo 14 (.box (.c (.pure (.agg [(.int .i64 0), (.int .i64 0), (.int .i64 0)])))),
⟨none, none, .store 3 (.s 14) (.s 66)⟩])
 (.seq (.reg [oo 67 (.fldA 0 (.s 14)),
 oo 68 (.load false 1 (.s 67)),
 oo 69 (.mov (.s 10)),
 oo 70 (.bin .leq (.s 68) (.s 69)),
 oo 71 (.mov (.s 70)),
 og 72 71 true (.mov (.s 10)),
 og 73 71 true (.fldA 1 (.s 14)),
 og 74 71 true (.load false 1 (.s 73)),
 og 75 71 true (.bin .lss (.s 72) (.s 74)),
 oo 76 (.pick (.s 71) (.s 75) (nB false))])
 (.cond (.s 76)
 (.reg [oo 77 (.fldA 2 (.s 14)),
 oo 78 (.load false 1 (.s 77)),
 oo 12 (.mov (.s 78))])
 .skip))))
 (.reg [oo 79 (.bin .add (.s 63) (nI 1)),
 oo 63 (.mov (.s 79))]))))
def c8_4 : AC :=
 (.seq (.seq (.reg [oo 40 (.mov (.s 9)),
 oo 41 (.mov (.s 5)),
 oo 42 (.len (.s 41)),
 oo 43 (.bin .lss (.s 40) (.s 42))])
 (.cond (.s 43)
 .skip
 (.exit 2)))
 (.seq (.block 3
 (.seq (.regq [oo 46 (.mov (.s 5)),
 oo 47 (.mov (.s 9)),
 oo 48 (.bin .sub (.s 47) (nI 1)),
 oo 49 (.idxA 1 (.s 46) (.s 48)),
 oo 50 (.load false 1 (.s 49)),
 oo 51 (.mx (.s 50) (nI 0)),
 oo 52 (.mov (.s 5)),
 oo 53 (.mov (.s 9)),
 oo 54 (.idxA 1 (.s 52) (.s 53)),
 oo 55 (.load false 1 (.s 54)),
 oo 56 (.mov (.s 1)),
 oo 57 (.mn (.s 55) (.s 56)),
 oo 10 (.mov (.s 51))]
[oo 11 (.mov (.s 57))])
 (.seq (.seq (.reg [oo 58 (.mov (.s 10)),
 oo 59 (.mov (.s 11)),
 oo 60 (.bin .geq (.s 58) (.s 59))])
 (.cond (.s 60)
 (.exit 3)
 .skip))
 (.seq (.reg [oo 12 (.mov (nI 0))])
 (.seq (.seq (.reg [oo 61 (.mov (.s 0)),
 oo 62 (.len (.s 61)),
 oo 63 (.mov (nI 0))])
 (.block 4
 (.loop c8_3)))
 c8_2)))))
 c8_1))
def c8_5 : AC :=
 (.seq (.reg [oo 36 (.mov (.s 5)),
 oo 37 (.call 15 [(.s 36)])])
 (.seq (.reg [oo 38 (.mov (.s 5)),
 oo 39 (.call 16 [(.s 38)]),
 oo 5 (.mov (.s 39))])
 (.seq (.reg [oo 8 (.box (.c (.agg [.empty])))])
 (.seq (.seq (.reg [oo 9 (.mov (nI 1))])
 (.block 2
 (.loop c8_4)))
 c8_0))))
def c8_6 : AC :=
 (.seq (.reg [oo 20 (.bin .lss (.s 19) (.s 18))])
 (.seq (.cond (.s 20)
 .skip
 (.exit 0))
 (.seq (.block 1
 (.seq (.reg [oo 21 (.idxA 3 (.s 17) (.s 19)),
 oo 22 (.load true 3 (.s 21)),
 oo 7 (.box (.c (.pure (.agg [(.int .i64 0), (.int .i64 0), (.int .i64 0)])))),
⟨none, none, .store 3 (.s 7) (.s 22)⟩])
 (.seq (.reg [oo 23 (.fldA 0 (.s 7)),
 oo 24 (.load false 1 (.s 23)),
 oo 25 (.fldA 1 (.s 7)),
 oo 26 (.load false 1 (.s 25)),
 oo 27 (.bin .lss (.s 24) (.s 26))])
 (.cond (.s 27)
 (.reg [oo 28 (.mov (.s 5)),
 oo 29 (.fldA 0 (.s 7)),
 oo 30 (.load false 1 (.s 29)),
 oo 31 (.fldA 1 (.s 7)),
 oo 32 (.load false 1 (.s 31)),
 oo 33 (.bslice 1 [(.s 30), (.s 32)]),
 oo 34 (.app 1 8 (.s 28) (.s 33)),
 oo 5 (.mov (.s 34))])
 .skip))))
 (.reg [oo 35 (.bin .add (.s 19) (nI 1)),
 oo 19 (.mov (.s 35))]))))
def c8 : AC :=
 (.seq (.reg [oo 4 (.mov (.c .empty))])
 (.seq (.reg [oo 15 (.mov (.s 1)),
 oo 16 (.bslice 1 [(nI 0), (.s 15)]),
 oo 5 (.mov (.s 16))])
 (.seq (.seq (.reg [oo 17 (.mov (.s 0)),
 oo 18 (.len (.s 17)),
 oo 19 (.mov (nI 0))])
 (.block 0
 (.loop c8_6)))
 c8_5)))
theorem k8 : OkF 8 Try.f8 c8 [.t 4] 87 := ⟨Try.func8, by kernel_rfl, by kernel_rfl, by kernel_rfl, Try.ntmps8⟩
theorem mk_app {l : List Sp} {n : Int} {k : Nat} (h : k < l.length) (hlt : l[k].f < l[k].t) : ((marksK l n k).map I).map S.pure ++ [.pure (I l[k].f), .pure (I l[k].t)] = ((marksK l n (k + 1)).map I).map S.pure := by
 rw [marksK_succ h, markS, if_pos hlt]
 simp
/-- a roll behind a row of marks -/
def rollZ (Z : List Int) (w : List Int) : Heap := [rI Z, ⟨[.agg [.rsl 2 0 (ofF w).length]], 1, .live⟩, ⟨((ofF w).map sp).map .pure, 3, .live⟩]
theorem rollZ_eq {Z w : List Int} : rollZ Z w = [rI Z, ⟨[.agg [.rsl 2 0 (ofF w).length]], 1, .live⟩, ⟨((ofF w).map sp).map .pure, 3, .live⟩] := rfl
def laidW (l : List Sp) (n : Int) (Z : List Int) (i : Nat) : List Int := valsF l (clp n (gA Z ((i : Int) - 1)))
theorem norms_q (l : List Sp) (n : Int) (hl : l.length ≤ 60) (hn : n ≤ 60) : FnQ Try.prog 8 [.sl (l.map sp), I n] [.sl ((ofF (valsF l n)).map sp)] := by
 refine OkF.p k8 (by simp) ?_
 unfold c8
 refine aWp_seq ?_
 simp only [*, vmp,↓vmd,seval]
 refine aWp_seq ?_
 simp only [*, vmp,↓vmd,seval]
 refine aWp_seq ?_
 simp only [*, vmp,↓vmd,seval]
 refine onIf_intro fun hlen => ?_
 simp only [*, vmp,↓vmd,seval]
 refine loop_at (T := Nat) (fun k => [(19, .pure (I k)), (18, .pure (I l.length)), (17, .pure (.sl (l.map sp))), (5, .rsl 0 0 (marksK l n k).length), (0, .pure (.sl (l.map sp))), (1, .pure (I n))]) (fun k => [rI (marksK l n k)]) (fun k => k ≤ l.length) (fun k => l.length - k)
  0 [0] (by simp) rfl (by simp) (by simp only [marksK_zero, kpp,seval]) (by simp only [marksK_zero, kpp,seval]) ?_
 intro k hk
 unfold c8_6
 by_cases h1 : (k : Int) < (l.length : Int)
 ·have hlt : k < l.length := by omega
  have hml := marksK_len (l := l) (n := n) k (by omega)
  have hsu := marksK_succ (n := n) hlt
  have hnx := next_at hlt hlen
  by_cases h2 : l[k].f < l[k].t
  ·have hap := mk_app (n := n) hlt h2
   simp only [h1, h2, map_at hlt, Int.natCast_nonneg, vmp,↓vmd,seval]
   refine onIf'_intro (appOk_map (f := I) (X := [l[k].f, l[k].t]) (fun _ => rfl) rfl (by omega) (by simp; omega) (by simp [maxLen]; omega)) ?_
   rw [hap]
   simp only [vmp,↓vmd,seval]
   have hln : (marksK l n (k + 1)).length = (marksK l n k).length + 2 := by rw [hsu, markS, if_pos h2]; simp
   refine onBk_to (k + 1) [3] (by simp) rfl (by omega) hlt (by simp only [hnx, hln, kpp,seval]) (by simp only [kpp,seval])
  ·rw [markS, if_neg h2, List.append_nil] at hsu
   simp only [h1, h2, map_at hlt, Int.natCast_nonneg, vmp,↓vmd,seval]
   refine onBk_to (k + 1) [0] (by simp) rfl (by omega) hlt (by simp only [hnx, hsu, kpp,seval]) (by simp only [hsu, kpp,seval])
 ·obtain rfl : k = l.length := by omega
  simp only [h1, vmp,↓vmd,seval]
  unfold c8_5
  have hml := marksK_len (l := l) (n := n) l.length (Nat.le_refl _)
  have hmm := fun v => marks_mem (l := l) (n := n) (v := v)
  refine aWp_seq ?_
  simp only [vmp,↓vmd,seval]
  refine onC_fr' (sort_c (marksK l n l.length) (by omega)) [0] (by simp) (by simp only [kpp,seval]) rfl rfl ?_
  rintro ⟨Y, hY, hS⟩
  refine ⟨by simp, ?_⟩
  have hyl := hY.len
  have hym := fun v => hY.mem (v := v)
  rw [← hyl] at hS
  have hc := cmp_c Y hS (by omega)
  rw [hyl] at hc
  simp only [vmp,↓vmd,seval]
  refine aWp_seq ?_
  simp only [vmp,↓vmd,seval]
  refine onC_fe hc [0] (by simp) (by simp only [kpp,seval]) rfl rfl ?_
  rintro ⟨Z, hZ⟩
  refine ⟨by simp, ?_⟩
  have hm : ∀ v, v ∈ Z ↔ v ∈ marksK l n l.length := fun v => (hZ.mem v).trans (hym v)
  have hu := hZ.up
  have hzl := hZ.len
  have hpos := nrm_pos hm
  simp only [vmp,↓vmd,seval]
  refine aWp_seq_up ?_
  simp only [vmp,↓vmd,seval]
  refine aWp_virtc 1 3 1 .live (by simp) rfl ?_
  refine aWp_x ?_
  simp only [vmp,↓vmd,seval]
  have w := fun (k : Int) (h1 : -5000 ≤ k) (h2 : k ≤ 5000) => wrap_id (n := k) (by omega) (by omega)
  have hW1 : laidW l n Z 1 = [] := nrm_init hm hu
  refine loop_at (T := Nat) (fun i => [(9, .pure (I i)), (8, .ptr 1 0 0), (5, .rsl 0 0 Z.length), (0, .pure (.sl (l.map sp))), (1, .pure (I n))]) (fun i => rollZ Z (laidW l n Z i)) (fun i => 1 ≤ i ∧ i ≤ Z.length) (fun i => Z.length - i)
   1 [0, 1, 2] (by simp) rfl ⟨by simp, hpos⟩ (by simp only [kpp,seval]) (by simp only [rollZ_eq, hW1, show ofF [] = [] from rfl, kpp,seval]) ?_
  rintro i ⟨i1, i2⟩
  rw [rollZ_eq]
  unfold c8_4
  simp only [vmp,↓vmd,seval]
  refine onIf_intro fun _ => ?_
  simp only [vmp,↓vmd,seval]
  by_cases h3 : (i : Int) < (Z.length : Int)
  case' neg => (
   refine onB_neg h3 ?_
   simp only [h3, vmp,↓vmd,seval]
   unfold c8_0
   simp only [vmp,↓vmd,seval]
   obtain rfl : i = Z.length := by omega
   rw [show laidW l n Z Z.length = valsF l n from nrm_end hm hu]
   exact gives_row rfl (by simp))
  have b1 : (0 : Int) ≤ (i : Int) - 1 := by omega
  have b2 : (i : Int) - 1 < (Z.length : Int) := by omega
  have b3 : (0 : Int) ≤ i := by omega
  have w1 := w ((i : Int) - 1) (by omega) (by omega)
  have w2 : IntKind.wrap .i64 ((i : Int) + 1) = ((i + 1 : Nat) : Int) := by rw [w _ (by omega) (by omega)]; omega
  have r1 := rI_nat (X := Z) (n := i) (by omega)
  have r2 := rI_at (X := Z) (i := (i : Int) - 1) (by omega) (by omega)
  refine onB_pos h3 ?_
  (first | apply envO | apply envQ); simp only [h3, vmp,↓vmd,seval]; rfl
  simp only [h3, b1, b2, b3, w1, r1, r2, vmp,↓vmd,seval]
  by_cases h4 : min (gA Z i) n ≤ max (gA Z ((i : Int) - 1)) 0
  case' pos => (
   have hWs : laidW l n Z (i + 1) = laidW l n Z i := by
    have := nrm_skip hu i1 (by omega) h4
    rw [laidW, laidW, show ((i + 1 : Nat) : Int) - 1 = i by omega, this]
   refine onB_pos h4 ?_
   (first | apply envO | apply envQ); simp only [h4, vmp,↓vmd,seval]; rfl
   simp only [h4, w2, vmp,↓vmd,seval]
   refine onBk_to (i + 1) [0, 1, 2] (by simp) rfl (by omega) ⟨by omega, by omega⟩ (by simp only [kpp,seval]) (by simp only [rollZ_eq, hWs, kpp,seval]))
  obtain ⟨hf, hv⟩ := nrm_step hm hu i1 (by omega) (by omega : max (gA Z ((i : Int) - 1)) 0 < min (gA Z i) n)
  have hfl : (laidW l n Z i).length = (max (gA Z ((i : Int) - 1)) 0).toNat := by rw [laidW, vals_len, hf]
  have hWs : laidW l n Z (i + 1) = laidW l n Z i ++ List.replicate (min (gA Z i) n - max (gA Z ((i : Int) - 1)) 0).toNat (valAt l (max (gA Z ((i : Int) - 1)) 0)) := by
   rw [laidW, show ((i + 1 : Nat) : Int) - 1 = i by omega, hv, laidW]
  refine onB_neg h4 ?_
  (first | apply envO | apply envQ); simp only [h4, vmp,↓vmd,seval]; rfl
  simp only [h4, vmp,↓vmd,seval]
  have hfr0 : 0 ≤ max (gA Z ((i : Int) - 1)) 0 := by omega
  generalize max (gA Z ((i : Int) - 1)) 0 = fr at *
  obtain ⟨to, hto⟩ : ∃ to, min (gA Z i) n = to := ⟨_, rfl⟩
  have hto60 : to ≤ 60 := by omega
  rw [hto] at h4 hWs ⊢
  clear hto hv hf
  refine onIf_intro fun _ => ?_
  simp only [vmp,↓vmd,seval]
  clear r1 r2 w1 b1 b2 b3 hc
  refine loop_at (T := Nat) (fun k => [(63, .pure (I k)), (62, .pure (I l.length)), (61, .pure (.sl (l.map sp))), (12, .pure (I (valAt (l.take k) fr))), (10, .pure (I fr)), (11, .pure (I to)), (9, .pure (I i)), (8, .ptr 1 0 0), (5, .rsl 0 0 Z.length), (0, .pure (.sl (l.map sp))), (1, .pure (I n))]) (fun _ => rollZ Z (laidW l n Z i)) (fun k => k ≤ l.length) (fun k => l.length - k)
   0 [0, 1, 2] (by simp) rfl (by simp) (by simp only [show valAt (l.take 0) fr = 0 from rfl, kpp,seval]) (by simp only [rollZ_eq, kpp,seval]) ?_
  intro k hk
  rw [rollZ_eq]
  unfold c8_3
  by_cases h5 : (k : Int) < (l.length : Int)
  case' neg => (
   obtain rfl : k = l.length := by omega
   have wd := w (to - fr) (by omega) (by omega)
   simp only [h5, List.take_length, vmp,↓vmd,seval]
   unfold c8_2
   simp only [wd, vmp,↓vmd,seval]
   have hly := lay_c (ofF (laidW l n Z i)) _ (to - fr) (valAt l fr) (ofF_chain _) (by omega) (by omega)
   rw [layI_of, ← hWs] at hly
   refine onC_fr' hly [1, 2] (by simp) (by simp only [rollH_f, kpp,seval]) rfl rfl (fun st => ?_)
   refine ⟨rollH_two, ?_⟩
   cases st
   ·rw [rollH_f]
    simp only [vmp,↓vmd,seval]
    unfold c8_1
    simp only [w2, vmp,↓vmd,seval]
    refine onBk_to (i + 1) [0, 1, 2] (by simp) rfl (by omega) ⟨by omega, by omega⟩ (by simp only [kpp,seval]) (by simp only [rollZ_eq, kpp,seval])
   ·rw [rollH_t]
    simp only [vmp,↓vmd,seval]
    unfold c8_1
    simp only [w2, vmp,↓vmd,seval]
    refine onBk_to (i + 1) [0, 1, 3] (by simp) rfl (by omega) ⟨by omega, by omega⟩ (by simp only [kpp,seval]) (by simp only [rollZ_eq, kpp,seval]))
  have hlt : k < l.length := by omega
  have hnx := next_at hlt hlen
  have hva : valAt (l.take (k + 1)) fr = if l[k].f ≤ fr ∧ fr < l[k].t then l[k].v else valAt (l.take k) fr := valAt_take hlt
  simp only [h5, map_at hlt, Int.natCast_nonneg, vmp,↓vmd,seval]
  refine onB_dec (fun h6 => ?_) (fun h6 => ?_)
  ·simp only [h6, vmp,↓vmd,seval]
   refine onB_dec (fun h7 => ?_) (fun h7 => ?_)
   ·rw [if_pos ⟨h6, h7⟩] at hva
    simp only [h7, vmp,↓vmd,seval]
    refine onBk_to (k + 1) [0, 1, 2] (by simp) rfl (by omega) hlt (by simp only [hnx, hva, kpp,seval]) (by simp only [rollZ_eq, kpp,seval])
   ·rw [if_neg (by omega)] at hva
    simp only [h7, vmp,↓vmd,seval]
    refine onBk_to (k + 1) [0, 1, 2] (by simp) rfl (by omega) hlt (by simp only [hnx, hva, kpp,seval]) (by simp only [rollZ_eq, kpp,seval])
  ·rw [if_neg (by omega)] at hva
   simp only [h6, vmp,↓vmd,seval]
   refine onBk_to (k + 1) [0, 1, 2] (by simp) rfl (by omega) hlt (by simp only [hnx, hva, kpp,seval]) (by simp only [rollZ_eq, kpp,seval])
end Go.Proofs.Ytalhohfhjniapaa.W
