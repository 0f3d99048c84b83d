/-
  The machine of positions: whether a lookup starts, and one nest of a context. No condition but on sizes.
-/
import Derived.Test.YtcjmkpkhjhjepaaGreatPosD
import Derived.Test.YtcjmkpkhjhjepaaGreatPCx1
namespace Go.Proofs.YtcjmkpkhjhjepaaGreat.W
open Go Go.Vm Go.Proofs
set_option maxRecDepth 100000
set_option linter.unusedSimpArgs false
set_option maxHeartbeats 4000000
/-! (*typecase/pos.machine).starts -/
def c32 : AC :=
 (.seq (.reg [oo 5 (.box (.s 1)),
 oo 8 (.mov (nB false))])
 (.seq (.seq (.reg [oo 12 (.fldA 0 (.s 5)),
 oo 13 (.load false 1 (.s 12)),
 oo 14 (.bin .neq (.s 13) (nI 12))])
 (.cond (.s 14)
 (.seq (.reg [oo 8 (.mov (nB true))])
 .ret)
 .skip))
 (.seq (.regq [oo 16 (.mov (.s 0)),
 oo 17 (.nilck (.s 16)),
 oo 18 (.fldA 0 (.s 17)),
 oo 19 (.load true 6 (.s 18)),
 oo 20 (.load true 4 (.s 5)),
 oo 21 (.mov (.s 2)),
 oo 22 (.mov (.s 3)),
 oo 23 (.call 48 [(.s 19), (.s 20), (.s 21), (.s 22)]),
 oo 15 (.mov (.s 23)),
 oo 24 (.ext 0 (.s 15)),
 oo 25 (.ext 1 (.s 15)),
 oo 26 (.ext 2 (.s 15)),
 oo 9 (.mov (.s 24)),
 oo 10 (.mov (.s 25))]
[oo 11 (.mov (.s 26))])
 (.seq (.reg [oo 27 (.mov (.s 11)),
 oo 8 (.mov (.s 27))])
 .ret))))
theorem k32 : OkF 32 Tryz.f32 c32 [.t 8] 28 := ⟨Tryz.func32, by kernel_rfl, by kernel_rfl, by kernel_rfl, Tryz.ntmps32⟩
/-! (*typecase/pos.machine).kind$1 -/
def c53 : AC :=
 (.seq (.reg [oo 8 (.mov (.c .empty)),
 oo 9 (.mov (nB false))])
 (.seq (.reg [oo 14 (.load false 1 (.s 3)),
 oo 15 (.mov (.s 1)),
 oo 16 (.mov (.s 0)),
 oo 17 (.mov (.s 2)),
 oo 18 (.load false 1 (.s 4)),
 oo 19 (.bin .add (.s 18) (nI 1)),
 oo 20 (.call 20 [(.s 14), (.s 15), (.s 16), (.s 17), (.s 19)]),
 oo 13 (.mov (.s 20)),
 oo 21 (.ext 0 (.s 13)),
 oo 22 (.ext 1 (.s 13)),
 oo 23 (.ext 2 (.s 13)),
 oo 10 (.mov (.s 21)),
 oo 11 (.mov (.s 22)),
 oo 12 (.mov (.s 23))])
 (.seq (.reg [oo 24 (.mov (.s 10)),
 oo 25 (.mov (.s 12)),
 oo 8 (.mov (.s 24)),
 oo 9 (.mov (.s 25))])
 .ret)))
theorem k53 : OkF 53 Tryz.f53 c53 [.t 8, .t 9] 26 := ⟨Tryz.func53, by kernel_rfl, by kernel_rfl, by kernel_rfl, Tryz.ntmps53⟩
/-! (*typecase/context.work).nest -/
def c86 : AC :=
 (.seq (.reg [oo 3 (.box (.s 1))])
 (.seq (.seq (.regq [oo 7 (.fldA 0 (.s 3)),
 oo 8 (.load false 1 (.s 7)),
 oo 9 (.bin .lss (.s 8) (nI 0)),
 oo 10 (.mov (.s 9)),
 og 11 10 false (.fldA 0 (.s 3)),
 og 12 10 false (.load false 1 (.s 11)),
 og 13 10 false (.mov (.s 0)),
 og 14 10 false (.nilck (.s 13)),
 og 15 10 false (.fldA 2 (.s 14)),
 og 16 10 false (.load false 1 (.s 15)),
 og 17 10 false (.len (.s 16))]
[og 18 10 false (.bin .geq (.s 12) (.s 17)),
 oo 19 (.pick (.s 10) (nB true) (.s 18))])
 (.cond (.s 19)
 .ret
 .skip))
 (.seq (.regq [oo 20 (.mov (.s 0)),
 oo 21 (.nilck (.s 20)),
 oo 22 (.fldA 2 (.s 21)),
 oo 23 (.load false 1 (.s 22)),
 oo 24 (.fldA 0 (.s 3)),
 oo 25 (.load false 1 (.s 24))]
[oo 26 (.idxA 1 (.s 23) (.s 25)),
 oo 27 (.load false 1 (.s 26)),
 oo 4 (.mov (.s 27))])
 (.seq (.seq (.reg [oo 28 (.mov (.s 4)),
 oo 29 (.bin .lss (.s 28) (nI 0)),
 oo 30 (.mov (.s 29)),
 og 31 30 false (.mov (.s 4)),
 og 32 30 false (.mov (.s 0)),
 og 33 30 false (.nilck (.s 32)),
 og 34 30 false (.fldA 1 (.s 33)),
 og 35 30 false (.load false 1 (.s 34)),
 og 36 30 false (.len (.s 35)),
 og 37 30 false (.bin .geq (.s 31) (.s 36)),
 oo 38 (.pick (.s 30) (nB true) (.s 37))])
 (.cond (.s 38)
 .ret
 .skip))
 (.seq (.regd [oo 40 (.mov (.s 0)),
 oo 41 (.nilck (.s 40)),
 oo 42 (.fldA 0 (.s 41)),
 oo 43 (.load false 1 (.s 42)),
 oo 44 (.mov (.s 0)),
 oo 45 (.nilck (.s 44)),
 oo 46 (.fldA 1 (.s 45)),
 oo 47 (.load false 1 (.s 46)),
 oo 48 (.fldA 1 (.s 3)),
 oo 49 (.load false 1 (.s 48)),
 oo 50 (.mov (.s 4))]
[oo 51 (.callv (.s 43) [(.s 47), (.s 49), (.s 50)])]
[oo 39 (.mov (.s 51)),
 oo 52 (.ext 0 (.s 39)),
 oo 53 (.ext 1 (.s 39)),
 oo 5 (.mov (.s 52))]
[oo 6 (.mov (.s 53))])
 (.seq (.reg [oo 54 (.mov (.s 6))])
 (.cond (.s 54)
 (.seq (.regq [oo 55 (.mov (.s 0)),
 oo 56 (.mov (.s 0)),
 oo 57 (.nilck (.s 56)),
 oo 58 (.fldA 2 (.s 57)),
 oo 59 (.load false 1 (.s 58)),
 oo 60 (.mov (.s 4)),
 oo 61 (.mov (.s 0)),
 oo 62 (.nilck (.s 61)),
 oo 63 (.fldA 1 (.s 62)),
 oo 64 (.load false 1 (.s 63)),
 oo 65 (.len (.s 64)),
 oo 66 (.mov (.s 5)),
 oo 67 (.len (.s 66)),
 oo 68 (.call 113 [(.s 59), (.s 60), (.s 65), (.s 67)])]
[oo 69 (.nilck (.s 55)),
 oo 70 (.fldA 2 (.s 69)),
⟨none, none, .store 1 (.s 70) (.s 68)⟩])
 (.reg [oo 71 (.mov (.s 0)),
 oo 72 (.mov (.s 5)),
 oo 73 (.nilck (.s 71)),
 oo 74 (.fldA 1 (.s 73)),
⟨none, none, .store 1 (.s 74) (.s 72)⟩]))
 .skip)))))))
theorem k86 : OkF 86 Tryz.f86 c86 [] 75 := ⟨Tryz.func86, by kernel_rfl, by kernel_rfl, by kernel_rfl, Tryz.ntmps86⟩
/-- what the machine asks of a lookup of its font -/
structure PosK (k : Lk) : Prop where
 cx : k.kind = 12 → (∀ s ∈ k.subs, s.back.length ≤ 16 ∧ s.inn.length ≤ 16 ∧ s.ahead.length ≤ 16) ∧ ∀ s ∈ k.subs, s.nests.length ≤ 16
 hang : k.kind = 9 ∨ k.kind = 10 ∨ k.kind = 11 → ∀ s ∈ k.subs, s.marks.length ≤ 5000 ∧ s.hosts.length ≤ 5000
 cov : k.kind = 6 ∨ k.kind = 7 → ∀ s ∈ k.subs, s.cover.length ≤ 5000
abbrev mV (F : Ff) (left : Int) : V := .agg [I F.em, .sl (F.gs.map gi), .sl (F.maps.map mp), .sl (F.lks.map lk), .sl (F.fts.map ft), LL F.sets, I left]
abbrev mR (F : Ff) (left : Int) : Row := ⟨[.pure (mV F left)], 7, .live⟩
theorem starts_c (F : Ff) (k : Lk) (hk : PosK k) (l : List Gl) (hl : l.length ≤ 1000) (x left : Int) : CallA Tryz.prog 32 [.ptr 0 0 0, .pure (lk k), .pure (.sl (l.map gl)), .pure (I x)] [mR F left]
  fun s H' => s = .pure (.bool (!decide (k.kind = 12) || (matchF F.fo k l x).isSome)) ∧ H' = [mR F left] := by
 refine CallA.weak (K := fun s H' => s = .pure (.bool (!decide (k.kind = 12) || (matchF F.fo k l x).isSome)) ∧ ∃ R, H' = mR F left :: R) ?_ ?_
 ·refine k32.a (by simp) ?_
  unfold c32
  simp only [vmp,↓vmd,seval]
  refine onB_dec (fun h1 => ?_) (fun h1 => ?_)
  ·have hd : decide (k.kind = 12) = false := decide_eq_false h1
   rw [hd]
   (first | apply envO | apply envQ); simp only [h1, vmp,↓vmd,seval]; rfl
   simp only [h1, vmp,↓vmd,seval]
   exact ⟨_, rfl⟩
  ·have h1' := Classical.not_not.1 h1
   have hd : decide (k.kind = 12) = true := decide_eq_true h1'
   have hm := match_q F.fo k l hl x (hk.cx h1').1
   rw [ffV_fo] at hm
   rw [hd]
   generalize matchF F.fo k l x = o at *
   (first | apply envO | apply envQ); simp only [h1, vmp,↓vmd,seval]; rfl
   simp only [h1, vmp,↓vmd,seval]
   cases o with
   | none =>
    have hm' : FnQ Tryz.prog 48 [ffV F, lk k, .sl (l.map gl), I x] [I 0, LI [], .bool false] := hm
    refine onQ_q hm' rfl ?_
    (first | apply envO | apply envQ); simp only [vmp,↓vmd,seval]; rfl
    simp only [vmp,↓vmd,seval]
    exact ⟨_, rfl⟩
   | some q =>
    have hm' : FnQ Tryz.prog 48 [ffV F, lk k, .sl (l.map gl), I x] [I (q.1 : Int), LI q.2, .bool true] := hm
    refine onQ_q hm' rfl ?_
    (first | apply envO | apply envQ); simp only [vmp,↓vmd,seval]; rfl
    simp only [vmp,↓vmd,seval]
    exact ⟨_, rfl⟩
 ·rintro r H' ⟨rfl, R, rfl⟩
  exact ⟨[0], _, _, by simp, rfl, (by simp only [kpp,seval]), (by simp only [kpp,seval]), rfl, rfl⟩
def onceS : Option (List Gl × Int) → S
 | some q => .tup [.pure (.sl (q.1.map gl)), .pure (I q.2), .pure (.bool true)]
 | none => .tup [.empty, .pure (I 0), .pure (.bool false)]
/-- a lookup at a place, so deep -/
def OnceC (F : Ff) (n : Nat) : Prop := ∀ (lookup : Int) (l : List Gl) (x left deep : Int), l.length ≤ 100 → 0 ≤ left → left ≤ 65536 → deep = 9 - (n : Int) → 0 ≤ deep →
 CallA Tryz.prog 20 [.ptr 0 0 0, .pure (I lookup), .pure (.sl (l.map gl)), .pure (I x), .pure (I deep)] [mR F left]
  fun s H' => s = onceS (onceF F n lookup l x left).1 ∧ H' = [mR F (onceF F n lookup l x left).2]
def dS : Option (List Gl × Int) → S
 | some q => .tup [.pure (.sl (q.1.map gl)), .pure (.bool true)]
 | none => .tup [.empty, .pure (.bool false)]
abbrev pR : Row := ⟨[.ptr 0 0 0], 1, .live⟩
abbrev dR (deep : Int) : Row := ⟨[.pure (I deep)], 1, .live⟩
theorem kind1_c (F : Ff) {n : Nat} (h : OnceC F n) (lookup : Int) (l : List Gl) (x left deep : Int) (hl : l.length ≤ 100) (h0 : 0 ≤ left) (h1 : left ≤ 65536) (hd : deep + 1 = 9 - (n : Int)) (hd0 : 0 ≤ deep) :
  CallA Tryz.prog 53 [.pure (.sl (l.map gl)), .pure (I lookup), .pure (I x), .ptr 1 0 0, .ptr 2 0 0] [mR F left, pR, dR deep]
   fun s H' => s = dS (onceF F n lookup l x left).1 ∧ H' = [mR F (onceF F n lookup l x left).2, pR, dR deep] := by
 have hc := h lookup l x left (deep + 1) hl h0 h1 hd (by omega)
 have hw : IntKind.wrap .i64 (deep + 1) = deep + 1 := wrap_id (by omega) (by omega)
 refine k53.a (by simp) ?_
 unfold c53
 generalize onceF F n lookup l x left = o at *
 obtain ⟨r, left'⟩ := o
 simp only [hw, vmp,↓vmd,seval]
 refine onC_fr hc [0] (by simp) (by simp only [kpp,seval]) rfl rfl (by simp) ?_
 cases r with
 | none =>
  (first | apply envO | apply envQ); simp only [vmp,↓vmd,seval]; rfl
  simp only [onceS, dS, vmp,↓vmd,seval]
 | some q =>
  (first | apply envO | apply envQ); simp only [vmp,↓vmd,seval]; rfl
  simp only [onceS, dS, vmp,↓vmd,seval]
/-- a context that is being done -/
abbrev wR (l : List Gl) (ps : List Int) : Row := ⟨[.agg [.func (.func 53) [] [.ptr 1 0 0, .ptr 2 0 0], .pure (.sl (l.map gl)), .pure (LI ps)]], 3, .live⟩
theorem mv_zero {ps : List Int} {a : Int} (h : ∀ p ∈ ps, -9223372036854775808 ≤ p ∧ p ≤ 9223372036854775807) : ps.map (mv a (IntKind.wrap .i64 0)) = ps := by
 have e : IntKind.wrap .i64 0 = 0 := wrap_id (by omega) (by omega)
 rw [e]
 conv => rhs; rw [← List.map_id ps]
 refine List.map_congr_left fun p hp => ?_
 have := h p hp
 rw [mv]
 split
 ·rfl
 ·split
  ·omega
  ·rw [wrap_id (by omega) (by omega)]; simp
theorem nest_c (F : Ff) {m : Nat} (h : OnceC F m) (n : Ns) (l : List Gl) (ps : List Int) (left deep : Int) (hl : l.length ≤ 100) (h0 : 0 ≤ left) (h1 : left ≤ 65536) (hd : deep + 1 = 9 - (m : Int)) (hd0 : 0 ≤ deep) (hps : ps.length ≤ 900) (hpi : ∀ p ∈ ps, 0 ≤ p ∧ p < (l.length : Int)) :
  CallA Tryz.prog 86 [.ptr 3 0 0, .pure (ns n)] [mR F left, pR, dR deep, wR l ps]
   fun s H' => s = .tup [] ∧ H' = [mR F (nestS (onceF F m) ps (l, left) n).2, pR, dR deep, wR (nestS (onceF F m) ps (l, left) n).1 ps] := by
 refine CallA.weak (K := fun s H' => s = .tup [] ∧ ∃ R, H' = mR F (nestS (onceF F m) ps (l, left) n).2 :: pR :: dR deep :: wR (nestS (onceF F m) ps (l, left) n).1 ps :: R) ?_ ?_
 ·refine k86.a (by simp) ?_
  unfold c86
  generalize hv : nestS (onceF F m) ps (l, left) n = v
  rw [nestS] at hv
  simp only [vmp,↓vmd,seval]
  by_cases n0 : n.at_ < 0
  ·rw [if_pos (.inl n0)] at hv
   subst hv
   refine onB_pos n0 ?_
   (first | apply envO | apply envQ); simp only [n0, vmp,↓vmd,seval]; rfl
   simp only [n0, vmp,↓vmd,seval]
   exact ⟨_, rfl⟩
  refine onB_neg n0 ?_
  (first | apply envO | apply envQ); simp only [n0, vmp,↓vmd,seval]; rfl
  simp only [n0, vmp,↓vmd,seval]
  by_cases n1 : (ps.length : Int) ≤ n.at_
  ·rw [if_pos (.inr n1)] at hv
   subst hv
   refine onB_pos n1 ?_
   simp only [n1, vmp,↓vmd,seval]
   exact ⟨_, rfl⟩
  refine onB_neg n1 ?_
  have m0 : 0 ≤ n.at_ := by omega
  have m1 : n.at_ < ps.length := by omega
  have hp := intAt_map m0 m1
  have hpm : 0 ≤ intAt ps n.at_ ∧ intAt ps n.at_ < (l.length : Int) := by
   have e : ps[n.at_.toNat]? = some (ps[n.at_.toNat]'(by omega)) := List.getElem?_eq_getElem (by omega)
   rw [intAt, e]
   exact hpi _ (List.getElem_mem _)
  rw [if_neg (by omega)] at hv
  simp only at hv
  have p0 : ¬ intAt ps n.at_ < 0 := by omega
  have p1 : ¬ (l.length : Int) ≤ intAt ps n.at_ := by omega
  simp only [n1, m0, m1, hp, vmp,↓vmd,seval]
  have hc := kind1_c F h n.lookup l (intAt ps n.at_) left deep hl h0 h1 hd hd0
  have hco := (onceF_p F m).core n.lookup l (intAt ps n.at_) left
  generalize intAt ps n.at_ = p at *
  generalize onceF F m n.lookup l p left = o at *
  obtain ⟨r, left'⟩ := o
  refine onB_neg p0 ?_
  (first | apply envO | apply envQ); simp only [p0, vmp,↓vmd,seval]; rfl
  simp only [p0, vmp,↓vmd,seval]
  refine onIf_intro fun _ => ?_
  (first | apply envO | apply envQ); simp only [p1, vmp,↓vmd,seval]; rfl
  simp only [p1, vmp,↓vmd,seval]
  refine onC_fr hc [0, 1, 2] (by simp) (by simp only [kpp,seval]) rfl rfl (by simp) ?_
  cases r with
  | none =>
   subst hv
   (first | apply envO | apply envQ); simp only [dS, vmp,↓vmd,seval]; rfl
   simp only [dS, vmp,↓vmd,seval]
   exact ⟨_, rfl⟩
  | some q =>
   subst hv
   have hlen := coreL_len (hco q rfl)
   have hmq := moved_q ps p l.length q.1.length (by omega)
   rw [show ((q.1.length : Nat) : Int) - ((l.length : Nat) : Int) = 0 by omega, mv_zero (fun p hp => by have := hpi p hp; omega)] at hmq
   (first | apply envO | apply envQ); simp only [dS, vmp,↓vmd,seval]; rfl
   simp only [dS, vmp,↓vmd,seval]
   refine onQ_q hmq rfl ?_
   (first | apply envO | apply envQ); simp only [vmp,↓vmd,seval]; rfl
   simp only [vmp,↓vmd,seval]
   exact ⟨_, rfl⟩
 ·rintro r H' ⟨rfl, R, rfl⟩
  exact ⟨[0, 1, 2, 3], _, _, by simp, rfl, (by simp only [kpp,seval]), (by simp only [kpp,seval]), rfl, rfl⟩
end Go.Proofs.YtcjmkpkhjhjepaaGreat.W
