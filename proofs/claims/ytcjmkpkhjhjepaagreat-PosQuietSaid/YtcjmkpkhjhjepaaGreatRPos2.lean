/-
  The document's machine of positions: a lookup at a place, however deep. No condition but on sizes.
-/
import Derived.Test.YtcjmkpkhjhjepaaGreatRPos1
import Derived.Test.YtcjmkpkhjhjepaaGreatRCx1
import Derived.Test.YtcjmkpkhjhjepaaGreatPos2
namespace Go.Proofs.YtcjmkpkhjhjepaaGreat.W
open Go Go.Vm Go.Proofs
set_option maxRecDepth 100000
set_option linter.unusedSimpArgs false
set_option maxHeartbeats 4000000
/-! typecase/typecaseref35.nested -/
def c36_0 : AC :=
 (.seq (.reg [oo 62 (.mov (.s 1)),
 oo 63 (.mov (.s 2)),
 oo 64 (.mov (.s 2)),
 oo 65 (.len (.s 64)),
 oo 66 (.bin .sub (.s 65) (nI 1)),
 oo 67 (.idxA 1 (.s 63) (.s 66)),
 oo 68 (.load false 1 (.s 67)),
 oo 69 (.bin .add (.s 68) (nI 1)),
 oo 70 (.mov (.s 4)),
 oo 71 (.build [.empty, (pI 0), (.pure (.bool false)), (pI 0)] [(0, 1, (.s 62)), (1, 1, (.s 69)), (2, 1, (nB true)), (3, 1, (.s 70))]),
⟨none, none, .store 4 (.s 12) (.s 71)⟩])
 .ret)
def c36_1 : AC :=
 (.seq (.seq (.reg [oo 15 (.mov (.s 13)),
 oo 16 (.mov (.s 3)),
 oo 17 (.len (.s 16)),
 oo 18 (.bin .lss (.s 15) (.s 17))])
 (.cond (.s 18)
 .skip
 (.exit 0)))
 (.seq (.block 1
 (.seq (.seq (.reg [oo 21 (.mov (.s 3)),
 oo 22 (.mov (.s 13)),
 oo 23 (.idxA 2 (.s 21) (.s 22)),
 oo 24 (.fldA 0 (.s 23)),
 oo 25 (.load false 1 (.s 24)),
 oo 26 (.bin .lss (.s 25) (nI 0)),
 oo 27 (.mov (.s 26)),
 og 28 27 false (.mov (.s 3)),
 og 29 27 false (.mov (.s 13)),
 og 30 27 false (.idxA 2 (.s 28) (.s 29)),
 og 31 27 false (.fldA 0 (.s 30)),
 og 32 27 false (.load false 1 (.s 31)),
 og 33 27 false (.mov (.s 2)),
 og 34 27 false (.len (.s 33)),
 og 35 27 false (.bin .geq (.s 32) (.s 34)),
 oo 36 (.pick (.s 27) (nB true) (.s 35))])
 (.cond (.s 36)
 (.exit 1)
 .skip))
 (.seq (.regq [oo 37 (.load true 6 (.s 6)),
 oo 38 (.mov (.s 3)),
 oo 39 (.mov (.s 13)),
 oo 40 (.idxA 2 (.s 38) (.s 39)),
 oo 41 (.fldA 1 (.s 40)),
 oo 42 (.load false 1 (.s 41)),
 oo 43 (.mov (.s 1)),
 oo 44 (.mov (.s 2)),
 oo 45 (.mov (.s 3)),
 oo 46 (.mov (.s 13)),
 oo 47 (.idxA 2 (.s 45) (.s 46)),
 oo 48 (.fldA 0 (.s 47)),
 oo 49 (.load false 1 (.s 48)),
 oo 50 (.idxA 1 (.s 44) (.s 49)),
 oo 51 (.load false 1 (.s 50)),
 oo 52 (.mov (.s 4)),
 oo 53 (.mov (.s 5)),
 oo 54 (.bin .add (.s 53) (nI 1)),
 oo 55 (.call 21 [(.s 37), (.s 42), (.s 43), (.s 51), (.s 52), (.s 54)]),
 oo 14 (.box (.c (.agg [.empty, (pI 0), (.pure (.bool false)), (pI 0)])))]
[⟨none, none, .store 4 (.s 14) (.s 55)⟩])
 (.seq (.reg [oo 56 (.fldA 3 (.s 14)),
 oo 57 (.load false 1 (.s 56)),
 oo 4 (.mov (.s 57))])
 (.seq (.reg [oo 58 (.fldA 2 (.s 14)),
 oo 59 (.load false 1 (.s 58))])
 (.cond (.s 59)
 (.reg [oo 60 (.fldA 0 (.s 14)),
 oo 61 (.load false 1 (.s 60)),
 oo 1 (.mov (.s 61))])
 .skip))))))
 (.reg [oo 19 (.mov (.s 13)),
 oo 20 (.bin .add (.s 19) (nI 1)),
 oo 13 (.mov (.s 20))])))
def c36 : AC :=
 (.seq (.reg [oo 6 (.box (.s 0)),
 oo 12 (.box (.c (.agg [.empty, (pI 0), (.pure (.bool false)), (pI 0)])))])
 (.seq (.seq (.reg [oo 13 (.mov (nI 0))])
 (.block 0
 (.loop c36_1)))
 c36_0))
theorem k36 : OkF 36 Tryz.f36 c36 [.c 12 true 4] 72 := ⟨Tryz.func36, by kernel_rfl, by kernel_rfl, by kernel_rfl, Tryz.ntmps36⟩
/-! typecase/typecaseref35.doing -/
def c21 : AC :=
 (.seq (.reg [oo 6 (.box (.s 0)),
 oo 12 (.box (.c (.agg [.empty, (pI 0), (.pure (.bool false)), (pI 0)])))])
 (.seq (.reg [oo 19 (.mov (.s 4)),
 oo 20 (.build [.empty, (pI 0), (.pure (.bool false)), (pI 0)] [(3, 1, (.s 19))]),
 oo 13 (.box (.c (.agg [.empty, (pI 0), (.pure (.bool false)), (pI 0)]))),
⟨none, none, .store 4 (.s 13) (.s 20)⟩])
 (.seq (.seq (.reg [oo 21 (.mov (.s 5)),
 oo 22 (.bin .gtr (.s 21) (nI 8)),
 oo 23 (.mov (.s 22)),
 og 24 23 false (.mov (.s 1)),
 og 25 23 false (.bin .lss (.s 24) (nI 0)),
 oo 26 (.pick (.s 23) (nB true) (.s 25)),
 oo 27 (.mov (.s 26)),
 og 28 27 false (.mov (.s 1)),
 og 29 27 false (.fldA 3 (.s 6)),
 og 30 27 false (.load false 1 (.s 29)),
 og 31 27 false (.len (.s 30)),
 og 32 27 false (.bin .geq (.s 28) (.s 31)),
 oo 33 (.pick (.s 27) (nB true) (.s 32)),
 oo 34 (.mov (.s 33)),
 og 35 34 false (.mov (.s 3)),
 og 36 34 false (.bin .lss (.s 35) (nI 0)),
 oo 37 (.pick (.s 34) (nB true) (.s 36)),
 oo 38 (.mov (.s 37)),
 og 39 38 false (.mov (.s 3)),
 og 40 38 false (.mov (.s 2)),
 og 41 38 false (.len (.s 40)),
 og 42 38 false (.bin .geq (.s 39) (.s 41)),
 oo 43 (.pick (.s 38) (nB true) (.s 42))])
 (.cond (.s 43)
 (.seq (.reg [oo 44 (.load true 4 (.s 13)),
⟨none, none, .store 4 (.s 12) (.s 44)⟩])
 .ret)
 .skip))
 (.seq (.reg [oo 45 (.fldA 3 (.s 6)),
 oo 46 (.load false 1 (.s 45)),
 oo 47 (.mov (.s 1)),
 oo 48 (.idxA 4 (.s 46) (.s 47)),
 oo 49 (.load true 4 (.s 48)),
 oo 14 (.box (.c (.agg [(pI 0), (pI 0), (pI 0), .empty]))),
⟨none, none, .store 4 (.s 14) (.s 49)⟩])
 (.seq (.seq (.regq [oo 50 (.load true 6 (.s 6)),
 oo 51 (.load true 4 (.s 14)),
 oo 52 (.mov (.s 2)),
 oo 53 (.mov (.s 3)),
 oo 54 (.idxA 10 (.s 52) (.s 53)),
 oo 55 (.fldA 0 (.s 54)),
 oo 56 (.load false 1 (.s 55))]
[oo 57 (.call 34 [(.s 50), (.s 51), (.s 56)])])
 (.cond (.s 57)
 (.seq (.reg [oo 58 (.load true 4 (.s 13)),
⟨none, none, .store 4 (.s 12) (.s 58)⟩])
 .ret)
 .skip))
 (.seq (.seq (.reg [oo 59 (.fldA 0 (.s 14)),
 oo 60 (.load false 1 (.s 59)),
 oo 61 (.bin .eql (.s 60) (nI 12))])
 (.cond (.s 61)
 (.seq (.reg [oo 63 (.load true 6 (.s 6)),
 oo 64 (.load true 4 (.s 14)),
 oo 65 (.mov (.s 2)),
 oo 66 (.mov (.s 3)),
 oo 67 (.call 35 [(.s 63), (.s 64), (.s 65), (.s 66)]),
 oo 62 (.mov (.s 67)),
 oo 68 (.ext 0 (.s 62)),
 oo 69 (.ext 1 (.s 62)),
 oo 70 (.ext 2 (.s 62)),
 oo 15 (.mov (.s 68)),
 oo 16 (.mov (.s 69)),
 oo 17 (.mov (.s 70))])
 (.seq (.seq (.reg [oo 71 (.mov (.s 17)),
 oo 72 (.un .not (.s 71)),
 oo 73 (.mov (.s 72)),
 og 74 73 false (.mov (.s 4)),
 og 75 73 false (.bin .eql (.s 74) (nI 0)),
 oo 76 (.pick (.s 73) (nB true) (.s 75))])
 (.cond (.s 76)
 (.seq (.reg [oo 77 (.load true 4 (.s 13)),
⟨none, none, .store 4 (.s 12) (.s 77)⟩])
 .ret)
 .skip))
 (.seq (.regq [oo 78 (.load true 6 (.s 6)),
 oo 79 (.mov (.s 2)),
 oo 80 (.mov (.s 16)),
 oo 81 (.fldA 3 (.s 14)),
 oo 82 (.load false 1 (.s 81)),
 oo 83 (.mov (.s 15)),
 oo 84 (.idxA 12 (.s 82) (.s 83)),
 oo 85 (.fldA 6 (.s 84)),
 oo 86 (.load false 1 (.s 85)),
 oo 87 (.mov (.s 4)),
 oo 88 (.bin .sub (.s 87) (nI 1)),
 oo 89 (.mov (.s 5))]
[oo 90 (.call 36 [(.s 78), (.s 79), (.s 80), (.s 86), (.s 88), (.s 89)]),
⟨none, none, .store 4 (.s 12) (.s 90)⟩])
 .ret)))
 .skip))
 (.seq (.reg [oo 91 (.load true 6 (.s 6)),
 oo 92 (.load true 4 (.s 14)),
 oo 93 (.mov (.s 2)),
 oo 94 (.mov (.s 3)),
 oo 95 (.call 37 [(.s 91), (.s 92), (.s 93), (.s 94)]),
 oo 18 (.box (.c (.agg [.empty, (pI 0), (.pure (.bool false)), (pI 0)]))),
⟨none, none, .store 4 (.s 18) (.s 95)⟩])
 (.seq (.seq (.reg [oo 96 (.fldA 2 (.s 18)),
 oo 97 (.load false 1 (.s 96)),
 oo 98 (.un .not (.s 97)),
 oo 99 (.mov (.s 98)),
 og 100 99 false (.mov (.s 4)),
 og 101 99 false (.bin .eql (.s 100) (nI 0)),
 oo 102 (.pick (.s 99) (nB true) (.s 101))])
 (.cond (.s 102)
 (.seq (.reg [oo 103 (.load true 4 (.s 13)),
⟨none, none, .store 4 (.s 12) (.s 103)⟩])
 .ret)
 .skip))
 (.seq (.reg [oo 104 (.mov (.s 4)),
 oo 105 (.bin .sub (.s 104) (nI 1)),
 oo 106 (.fldA 3 (.s 18)),
⟨none, none, .store 1 (.s 106) (.s 105)⟩])
 (.seq (.reg [oo 107 (.load true 4 (.s 18)),
⟨none, none, .store 4 (.s 12) (.s 107)⟩])
 .ret))))))))))
theorem k21 : OkF 21 Tryz.f21 c21 [.c 12 true 4] 108 := ⟨Tryz.func21, by kernel_rfl, by kernel_rfl, by kernel_rfl, Tryz.ntmps21⟩
def DoingR (F : Ff) (n : Nat) : Prop := ∀ (lookup : Int) (l : List Gl) (x left depth : Int), l.length ≤ 100 → 0 ≤ left → left ≤ 65536 → depth = 9 - (n : Int) → 0 ≤ depth →
 FnQ Tryz.prog 21 [ffV F, I lookup, .sl (l.map gl), I x, I left, I depth] [doneV (onceF F n lookup l x left).1 (onceF F n lookup l x left).2]
theorem nested_q (F : Ff) {m : Nat} (h : DoingR F m) (ps : List Int) (ns' : List Ns) (l : List Gl) (left depth : Int) (hl : l.length ≤ 100) (h0 : 0 ≤ left) (h1 : left ≤ 65536) (hd : depth + 1 = 9 - (m : Int)) (hd0 : 0 ≤ depth) (hps : 0 < ps.length) (hps1 : ps.length ≤ 1000) (hlast : 0 ≤ lastI ps) (hlast1 : lastI ps < 1000) :
  FnQ Tryz.prog 36 [ffV F, .sl (l.map gl), LI ps, .sl (ns'.map ns), I left, I depth] [doneV (some ((nestP (onceF F m) ps (l, left) ns').1, lastI ps + 1)) (nestP (onceF F m) ps (l, left) ns').2] := by
 refine k36.q (by simp) ?_
 unfold c36
 have hw : IntKind.wrap .i64 (depth + 1) = depth + 1 := wrap_id (by omega) (by omega)
 have hP := fun j => nestP_p (onceF_p F m) (ps := ps) (ns'.take j) (l, left) h0
 simp only [vmp,↓vmd,seval]
 refine loop_at (T := Nat) (fun j => [(13, .pure (I (j : Int))), (3, .pure (.sl (ns'.map ns))), (2, .pure (LI ps)), (1, .pure (.sl ((nestP (onceF F m) ps (l, left) (ns'.take j)).1.map gl))), (4, .pure (I (nestP (onceF F m) ps (l, left) (ns'.take j)).2)), (5, .pure (I depth)), (6, .ptr 0 0 0), (12, .ptr 1 0 0)])
  (fun _ => [⟨[.pure (ffV F)], 6, .live⟩, ⟨[.agg [.empty, .pure (I 0), .pure (.bool false), .pure (I 0)]], 4, .live⟩]) (fun j => j ≤ ns'.length) (fun j => ns'.length - j)
  0 [0, 1] (by simp) rfl (by simp) (by simp only [kpp,seval, List.take_zero, show nestP (onceF F m) ps (l, left) [] = (l, left) from rfl]) (by simp only [kpp,seval]) ?_
 intro j hj
 obtain ⟨c1, c2, c3, _⟩ := hP j
 have cl := coreL_len c1
 simp only at cl c3
 unfold c36_1
 simp only [vmp,↓vmd,seval]
 refine onIf_intro fun _ => ?_
 (first | apply envO | apply envQ); simp only [vmp,↓vmd,seval]; rfl
 simp only [vmp,↓vmd,seval]
 refine onB_dec (fun b1 => ?_) (fun b1 => ?_)
 ·have hlt : j < ns'.length := by omega
  have hsuc := nestP_succ (O := onceF F m) (ps := ps) (z := (l, left)) hlt
  have hgi : (ns'.map ns)[j]? = some (ns ns'[j]) := map_at hlt
  generalize nestP (onceF F m) ps (l, left) (ns'.take j) = z at *
  obtain ⟨z1, z2⟩ := z
  simp only at cl c2 c3
  generalize ns'[j] = nn at *
  rw [nestS] at hsuc
  simp only [b1, hgi, Int.natCast_nonneg, vmp,↓vmd,seval]
  by_cases n0 : nn.at_ < 0
  ·rw [if_pos (.inl n0)] at hsuc
   refine onB_pos n0 ?_
   simp only [n0, vmp,↓vmd,seval]
   refine onBk_to (j + 1) [0, 1] (by simp) rfl (by omega) hlt (by simp only [next_at hlt (by omega), hsuc, kpp,seval]) (by simp only [kpp,seval])
  refine onB_neg n0 ?_
  (first | apply envO | apply envQ); simp only [n0, hgi, Int.natCast_nonneg, vmp,↓vmd,seval]; rfl
  simp only [n0, hgi, Int.natCast_nonneg, vmp,↓vmd,seval]
  refine onIf_intro fun _ => ?_
  by_cases n1 : (ps.length : Int) ≤ nn.at_
  ·rw [if_pos (.inr n1)] at hsuc
   (first | apply envO | apply envQ); simp only [n1, vmp,↓vmd,seval]; rfl
   simp only [n1, vmp,↓vmd,seval]
   refine onBk_to (j + 1) [0, 1] (by simp) rfl (by omega) hlt (by simp only [next_at hlt (by omega), hsuc, kpp,seval]) (by simp only [kpp,seval])
  rw [if_neg (by omega)] at hsuc
  have m0 : 0 ≤ nn.at_ := by omega
  have m1 : nn.at_ < ps.length := by omega
  have hp := intAt_map m0 m1
  have hq := h nn.lookup z1 (intAt ps nn.at_) z2 (depth + 1) (by omega) c2 (by omega) hd (by omega)
  have hco := (onceF_p F m).core nn.lookup z1 (intAt ps nn.at_) z2
  simp only at hsuc
  generalize onceF F m nn.lookup z1 (intAt ps nn.at_) z2 = o at *
  obtain ⟨r, u⟩ := o
  (first | apply envO | apply envQ); simp only [n1, vmp,↓vmd,seval]; rfl
  simp only [n1, hgi, Int.natCast_nonneg, m0, m1, hp, hw, vmp,↓vmd,seval]
  refine onQ_q hq rfl ?_
  cases r with
  | none =>
   simp only at hsuc
   (first | apply envO | apply envQ); simp only [doneV, vmp,↓vmd,seval]; rfl
   simp only [doneV, vmp,↓vmd,seval]
   refine onBk_to (j + 1) [0, 1] (by simp) rfl (by omega) hlt (by simp only [next_at hlt (by omega), hsuc, kpp,seval]) (by simp only [kpp,seval])
  | some q =>
   simp only at hsuc
   (first | apply envO | apply envQ); simp only [doneV, vmp,↓vmd,seval]; rfl
   simp only [doneV, vmp,↓vmd,seval]
   refine onBk_to (j + 1) [0, 1] (by simp) rfl (by omega) hlt (by simp only [next_at hlt (by omega), hsuc, kpp,seval]) (by simp only [kpp,seval])
 ·obtain rfl : j = ns'.length := by omega
  rw [List.take_length] at cl c1 c2 c3 ⊢
  generalize nestP (onceF F m) ps (l, left) ns' = z at *
  have hwl : IntKind.wrap .i64 ((ps.length : Int) - 1) = (ps.length : Int) - 1 := wrap_id (by omega) (by omega)
  have hpl := intAt_map (ps := ps) (y := (ps.length : Int) - 1) (by omega) (by omega)
  have e : intAt ps ((ps.length : Int) - 1) = lastI ps := rfl
  rw [e] at hpl
  have w0 : 0 ≤ (ps.length : Int) - 1 := by omega
  have hwn : IntKind.wrap .i64 (lastI ps + 1) = lastI ps + 1 := wrap_id (by omega) (by omega)
  simp only [b1, vmp,↓vmd,seval]
  unfold c36_0
  simp only [vmp,↓vmd,seval]
  refine onIf_intro fun _ => ?_
  (first | apply envO | apply envQ); simp only [hwl, vmp,↓vmd,seval]; rfl
  simp only [hwl, hpl, w0, hwn, vmp,↓vmd,seval]
  exact gives_pure
theorem lkAt_map' {l : List Lk} {n : Int} (h0 : 0 ≤ n) (h1 : n < l.length) : (l.map lk)[n.toNat]? = some (lk (lkAt l n)) ∧ lkAt l n ∈ l := by
 have e : l[n.toNat]? = some (l[n.toNat]'(by omega)) := List.getElem?_eq_getElem (by omega)
 rw [List.getElem?_map, lkAt, e]
 exact ⟨rfl, List.getElem_mem _⟩
theorem doing_step (F : Ff) (hF : ∀ k ∈ F.lks, PosK k) (n : Nat) (ih : ∀ m, n = m + 1 → DoingR F m) : DoingR F n := by
 intro lookup l x left depth hl h0 h1 hd hd0
 have hno : lookup < 0 ∨ (F.lks.length : Int) ≤ lookup ∨ x < 0 ∨ (l.length : Int) ≤ x ∨ 8 < depth ∨ left < 1 → onceF F n lookup l x left = (none, left) := by
  intro hc
  cases n with
  | zero => rfl
  | succ n => rw [onceF, if_pos (by omega)]
 refine k21.q (by simp) ?_
 unfold c21
 generalize ho : onceF F n lookup l x left = out at *
 have hw : IntKind.wrap .i64 (left - 1) = left - 1 := wrap_id (by omega) (by omega)
 simp only [vmp,↓vmd,seval]
 by_cases c5 : 8 < depth
 ·have := hno (by omega)
  subst this
  refine onB_pos c5 ?_
  simp only [c5, doneV, vmp,↓vmd,seval]
  exact gives_one rfl
 refine onB_neg c5 ?_
 (first | apply envO | apply envQ); simp only [c5, vmp,↓vmd,seval]; rfl
 simp only [c5, vmp,↓vmd,seval]
 by_cases c1 : lookup < 0
 ·have := hno (by omega)
  subst this
  refine onB_pos c1 ?_
  (first | apply envO | apply envQ); simp only [c1, vmp,↓vmd,seval]; rfl
  simp only [c1, doneV, vmp,↓vmd,seval]
  exact gives_one rfl
 refine onB_neg c1 ?_
 (first | apply envO | apply envQ); simp only [c1, vmp,↓vmd,seval]; rfl
 simp only [c1, vmp,↓vmd,seval]
 refine onIf_intro fun _ => ?_
 (first | apply envO | apply envQ); simp only [c1, vmp,↓vmd,seval]; rfl
 simp only [c1, vmp,↓vmd,seval]
 by_cases c2 : (F.lks.length : Int) ≤ lookup
 ·have := hno (by omega)
  subst this
  refine onB_pos c2 ?_
  (first | apply envO | apply envQ); simp only [c2, vmp,↓vmd,seval]; rfl
  simp only [c2, doneV, vmp,↓vmd,seval]
  exact gives_one rfl
 refine onB_neg c2 ?_
 (first | apply envO | apply envQ); simp only [c2, vmp,↓vmd,seval]; rfl
 simp only [c2, vmp,↓vmd,seval]
 by_cases c3 : x < 0
 ·have := hno (by omega)
  subst this
  refine onB_pos c3 ?_
  (first | apply envO | apply envQ); simp only [c3, vmp,↓vmd,seval]; rfl
  simp only [c3, doneV, vmp,↓vmd,seval]
  exact gives_one rfl
 refine onB_neg c3 ?_
 (first | apply envO | apply envQ); simp only [c3, vmp,↓vmd,seval]; rfl
 simp only [c3, vmp,↓vmd,seval]
 refine onIf_intro fun _ => ?_
 by_cases c4 : (l.length : Int) ≤ x
 ·have := hno (by omega)
  subst this
  (first | apply envO | apply envQ); simp only [c4, vmp,↓vmd,seval]; rfl
  simp only [c4, doneV, vmp,↓vmd,seval]
  exact gives_one rfl
 (first | apply envO | apply envQ); simp only [c4, vmp,↓vmd,seval]; rfl
 have k0 : 0 ≤ lookup := by omega
 have x0 : 0 ≤ x := by omega
 obtain ⟨hgk, hmk⟩ := lkAt_map' (l := F.lks) (n := lookup) (by omega) (by omega)
 have hk := hF _ hmk
 have ho2 : ∀ m, n = m + 1 → 1 ≤ left → out = if skipsF F.fo (lkAt F.lks lookup).flags (lkAt F.lks lookup).set (glAt l x).id = true then (none, left)
  else match kindO (onceF F m) F.fo (lkAt F.lks lookup) l x (left - 1) with
   | (some q, left') => (some q, left')
   | (none, _) => (none, left) := by
  intro m e h2
  subst e
  rw [← ho, onceF, if_neg (by omega)]
  rfl
 obtain ⟨m, rfl⟩ : ∃ m, n = m + 1 := ⟨n - 1, by omega⟩
 have ho2 := ho2 m rfl
 clear ho
 generalize lkAt F.lks lookup = k at *
 have hgx := glAt_map (ls := l) (y := x) (by omega) (by omega)
 have hsk := rskips_q F.fo k.kind k.flags k.set (glAt l x).id (.sl (k.subs.map sub))
 rw [ffV_fo] at hsk
 generalize skipsF F.fo k.flags k.set (glAt l x).id = b1 at *
 simp only [c4, hgk, k0, vmp,↓vmd,seval]
 simp only [hgx, x0, vmp,↓vmd,seval]
 first | refine onC_q hsk rfl ?_ | refine onQ_q hsk rfl ?_
 cases b1 with
 | true =>
  have : out = (none, left) := by
   by_cases h2 : left < 1
   ·exact hno (by omega)
   ·rw [ho2 (by omega), if_pos rfl]
  subst this
  (first | apply envO | apply envQ); simp only [vmp,↓vmd,seval]; rfl
  simp only [doneV, vmp,↓vmd,seval]
  exact gives_one rfl
 | false =>
  (first | apply envO | apply envQ); simp only [vmp,↓vmd,seval]; rfl
  simp only [vmp,↓vmd,seval]
  by_cases h12 : k.kind = 12
  ·obtain ⟨hs, hn⟩ := hk.cx h12
   have hm := rmatch_q F.fo k l (by omega) x hs
   rw [ffV_fo] at hm
   have hin := fun i p => @matchF_in F.fo k l x i p
   have ek : kindO (onceF F m) F.fo k l x (left - 1) = match matchF F.fo k l x with
    | none => (none, left - 1)
    | some q => (some ((nestP (onceF F m) q.2 (l, left - 1) (subK k.subs q.1).nests).1, lastI q.2 + 1), (nestP (onceF F m) q.2 (l, left - 1) (subK k.subs q.1).nests).2) := by rw [kindO, if_pos h12]; rfl
   rw [if_neg (by simp), ek] at ho2
   clear ek
   generalize matchF F.fo k l x = o at *
   refine onB_pos h12 ?_
   simp only [h12, vmp,↓vmd,seval]
   cases o with
   | none =>
    have hm' : FnQ Tryz.prog 35 [ffV F, lk k, .sl (l.map gl), I x] [I 0, LI [], .bool false] := hm
    have : out = (none, left) := by
     by_cases h2 : left < 1
     ·exact hno (by omega)
     ·rw [ho2 (by omega)]
    subst this
    refine onC_q hm' rfl ?_
    (first | apply envO | apply envQ); simp only [vmp,↓vmd,seval]; rfl
    simp only [doneV, vmp,↓vmd,seval]
    exact gives_one rfl
   | some q =>
    obtain ⟨i, p⟩ := q
    have M := hin i p rfl
    obtain ⟨s, hsi, hpl⟩ := M.sub
    have hsm := List.mem_of_getElem? hsi
    obtain ⟨g0, g1, g2⟩ := M.last
    have hp16 := (hs s hsm).2.1
    have hx0 := M.x0
    have hsK : subK k.subs i = s := by rw [subK, hsi]; rfl
    have hsub : (k.subs.map sub)[i]? = some (sub s) := by rw [List.getElem?_map, hsi]; rfl
    have hm' : FnQ Tryz.prog 35 [ffV F, lk k, .sl (l.map gl), I x] [I (i : Int), LI p, .bool true] := hm
    simp only [hsK] at ho2
    refine onC_q hm' rfl ?_
    by_cases l0 : left = 0
    ·have := hno (by omega)
     subst this
     (first | apply envO | apply envQ); simp only [vmp,↓vmd,seval]; rfl
     simp only [vmp,↓vmd,seval]
     refine onB_pos l0 ?_
     simp only [l0, doneV, vmp,↓vmd,seval]
     exact gives_one rfl
    ·have ho3 := ho2 (by omega)
     have hq := nested_q F (ih m rfl) p s.nests l (left - 1) depth hl (by omega) (by omega) (by omega) hd0 g0 (by omega) (by omega) (by omega)
     subst ho3
     (first | apply envO | apply envQ); simp only [vmp,↓vmd,seval]; rfl
     simp only [vmp,↓vmd,seval]
     refine onB_neg l0 ?_
     (first | apply envO | apply envQ); simp only [l0, vmp,↓vmd,seval]; rfl
     simp only [l0, hsub, Int.natCast_nonneg, hw, vmp,↓vmd,seval]
     first | refine onC_q hq rfl ?_ | refine onQ_q hq rfl ?_
     (first | apply envO | apply envQ); simp only [vmp,↓vmd,seval]; rfl
     simp only [vmp,↓vmd,seval]
     exact gives_pure
  ·have ek : kindO (onceF F m) F.fo k l x (left - 1) = (singleF F.fo k l x, left - 1) := by rw [kindO, if_neg h12]
   rw [if_neg (by simp), ek] at ho2
   clear ek
   obtain ⟨v, hR, hq⟩ := rsingle_q F k hk l x hl
   generalize singleF F.fo k l x = o at *
   refine onB_neg h12 ?_
   simp only [h12, vmp,↓vmd,seval]
   refine onC_q hq rfl ?_
   cases o with
   | none =>
    obtain ⟨X, u, rfl⟩ := hR
    have : out = (none, left) := by
     by_cases h2 : left < 1
     ·exact hno (by omega)
     ·rw [ho2 (by omega)]
    subst this
    (first | apply envO | apply envQ); simp only [vmp,↓vmd,seval]; rfl
    simp only [doneV, vmp,↓vmd,seval]
    exact gives_one rfl
   | some q =>
    have hR : v = .agg [.sl (q.1.map gl), I q.2, .bool true, I 0] := hR
    subst hR
    by_cases l0 : left = 0
    ·have := hno (by omega)
     subst this
     (first | apply envO | apply envQ); simp only [vmp,↓vmd,seval]; rfl
     simp only [vmp,↓vmd,seval]
     refine onB_pos l0 ?_
     simp only [l0, doneV, vmp,↓vmd,seval]
     exact gives_one rfl
    ·have ho3 := ho2 (by omega)
     subst ho3
     (first | apply envO | apply envQ); simp only [vmp,↓vmd,seval]; rfl
     simp only [vmp,↓vmd,seval]
     refine onB_neg l0 ?_
     (first | apply envO | apply envQ); simp only [l0, vmp,↓vmd,seval]; rfl
     simp only [l0, hw, vmp,↓vmd,seval]
     exact gives_pure
theorem doing_q (F : Ff) (hF : ∀ k ∈ F.lks, PosK k) : ∀ n, DoingR F n := by
 intro n
 induction n with
 | zero => exact doing_step F hF 0 (fun _ h => by omega)
 | succ n ih => exact doing_step F hF (n + 1) (fun m h => by
   obtain rfl : n = m := by omega
   exact ih)
end Go.Proofs.YtcjmkpkhjhjepaaGreat.W
