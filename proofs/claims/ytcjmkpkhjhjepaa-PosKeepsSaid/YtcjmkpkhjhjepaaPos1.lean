/-
  The machine of positions: whether a lookup starts, and one nest of a context. No condition but on sizes.
-/
import Derived.Test.YtcjmkpkhjhjepaaPosD
import Derived.Test.YtcjmkpkhjhjepaaPCx1
namespace Go.Proofs.Ytcjmkpkhjhjepaa.W
open Go Go.Vm Go.Proofs
set_option maxRecDepth 100000
set_option linter.unusedSimpArgs false
set_option maxHeartbeats 4000000
/-! (*typecase/pos.machine).starts -/
def c89 : AC :=
 (.seq (.reg [⟨some 5, none, .box (.s 1)⟩,
⟨some 8, none, .mov (.c (.pure (.bool false)))⟩])
 (.seq (.seq (.reg [⟨some 12, none, .fldA 0 (.s 5)⟩,
⟨some 13, none, .load false 1 (.s 12)⟩,
⟨some 14, none, .bin .neq (.s 13) (.c (.pure (.int .i64 12)))⟩])
 (.cond (.s 14)
 (.seq (.reg [⟨some 8, none, .mov (.c (.pure (.bool true)))⟩])
 .ret)
 .skip))
 (.seq (.regq [⟨some 16, none, .mov (.s 0)⟩,
⟨some 17, none, .nilck (.s 16)⟩,
⟨some 18, none, .fldA 0 (.s 17)⟩,
⟨some 19, none, .load true 6 (.s 18)⟩,
⟨some 20, none, .load true 4 (.s 5)⟩,
⟨some 21, none, .mov (.s 2)⟩,
⟨some 22, none, .mov (.s 3)⟩,
⟨some 23, none, .call 102 [(.s 19), (.s 20), (.s 21), (.s 22)]⟩,
⟨some 15, none, .mov (.s 23)⟩,
⟨some 24, none, .ext 0 (.s 15)⟩,
⟨some 25, none, .ext 1 (.s 15)⟩,
⟨some 26, none, .ext 2 (.s 15)⟩,
⟨some 9, none, .mov (.s 24)⟩,
⟨some 10, none, .mov (.s 25)⟩]
[⟨some 11, none, .mov (.s 26)⟩])
 (.seq (.reg [⟨some 27, none, .mov (.s 11)⟩,
⟨some 8, none, .mov (.s 27)⟩])
 .ret))))
theorem k89 : OkF 89 Try.f89 c89 [.t 8] 28 := ⟨Try.func89, by kernel_rfl, by kernel_rfl, by kernel_rfl, Try.ntmps89⟩
/-! (*typecase/pos.machine).kind$1 -/
def c106 : AC :=
 (.seq (.reg [⟨some 8, none, .mov (.c .empty)⟩,
⟨some 9, none, .mov (.c (.pure (.bool false)))⟩])
 (.seq (.reg [⟨some 14, none, .load false 1 (.s 3)⟩,
⟨some 15, none, .mov (.s 1)⟩,
⟨some 16, none, .mov (.s 0)⟩,
⟨some 17, none, .mov (.s 2)⟩,
⟨some 18, none, .load false 1 (.s 4)⟩,
⟨some 19, none, .bin .add (.s 18) (.c (.pure (.int .i64 1)))⟩,
⟨some 20, none, .call 74 [(.s 14), (.s 15), (.s 16), (.s 17), (.s 19)]⟩,
⟨some 13, none, .mov (.s 20)⟩,
⟨some 21, none, .ext 0 (.s 13)⟩,
⟨some 22, none, .ext 1 (.s 13)⟩,
⟨some 23, none, .ext 2 (.s 13)⟩,
⟨some 10, none, .mov (.s 21)⟩,
⟨some 11, none, .mov (.s 22)⟩,
⟨some 12, none, .mov (.s 23)⟩])
 (.seq (.reg [⟨some 24, none, .mov (.s 10)⟩,
⟨some 25, none, .mov (.s 12)⟩,
⟨some 8, none, .mov (.s 24)⟩,
⟨some 9, none, .mov (.s 25)⟩])
 .ret)))
theorem k106 : OkF 106 Try.f106 c106 [.t 8, .t 9] 26 := ⟨Try.func106, by kernel_rfl, by kernel_rfl, by kernel_rfl, Try.ntmps106⟩
/-! (*typecase/context.work).nest -/
def c115 : AC :=
 (.seq (.reg [⟨some 3, none, .box (.s 1)⟩])
 (.seq (.seq (.regq [⟨some 7, none, .fldA 0 (.s 3)⟩,
⟨some 8, none, .load false 1 (.s 7)⟩,
⟨some 9, none, .bin .lss (.s 8) (.c (.pure (.int .i64 0)))⟩,
⟨some 10, none, .mov (.s 9)⟩,
⟨some 11, some (10, false), .fldA 0 (.s 3)⟩,
⟨some 12, some (10, false), .load false 1 (.s 11)⟩,
⟨some 13, some (10, false), .mov (.s 0)⟩,
⟨some 14, some (10, false), .nilck (.s 13)⟩,
⟨some 15, some (10, false), .fldA 2 (.s 14)⟩,
⟨some 16, some (10, false), .load false 1 (.s 15)⟩,
⟨some 17, some (10, false), .len (.s 16)⟩]
[⟨some 18, some (10, false), .bin .geq (.s 12) (.s 17)⟩,
⟨some 19, none, .pick (.s 10) (.c (.pure (.bool true))) (.s 18)⟩])
 (.cond (.s 19)
 .ret
 .skip))
 (.seq (.regq [⟨some 20, none, .mov (.s 0)⟩,
⟨some 21, none, .nilck (.s 20)⟩,
⟨some 22, none, .fldA 2 (.s 21)⟩,
⟨some 23, none, .load false 1 (.s 22)⟩,
⟨some 24, none, .fldA 0 (.s 3)⟩,
⟨some 25, none, .load false 1 (.s 24)⟩]
[⟨some 26, none, .idxA 1 (.s 23) (.s 25)⟩,
⟨some 27, none, .load false 1 (.s 26)⟩,
⟨some 4, none, .mov (.s 27)⟩])
 (.seq (.seq (.reg [⟨some 28, none, .mov (.s 4)⟩,
⟨some 29, none, .bin .lss (.s 28) (.c (.pure (.int .i64 0)))⟩,
⟨some 30, none, .mov (.s 29)⟩,
⟨some 31, some (30, false), .mov (.s 4)⟩,
⟨some 32, some (30, false), .mov (.s 0)⟩,
⟨some 33, some (30, false), .nilck (.s 32)⟩,
⟨some 34, some (30, false), .fldA 1 (.s 33)⟩,
⟨some 35, some (30, false), .load false 1 (.s 34)⟩,
⟨some 36, some (30, false), .len (.s 35)⟩,
⟨some 37, some (30, false), .bin .geq (.s 31) (.s 36)⟩,
⟨some 38, none, .pick (.s 30) (.c (.pure (.bool true))) (.s 37)⟩])
 (.cond (.s 38)
 .ret
 .skip))
 (.seq (.regd [⟨some 40, none, .mov (.s 0)⟩,
⟨some 41, none, .nilck (.s 40)⟩,
⟨some 42, none, .fldA 0 (.s 41)⟩,
⟨some 43, none, .load false 1 (.s 42)⟩,
⟨some 44, none, .mov (.s 0)⟩,
⟨some 45, none, .nilck (.s 44)⟩,
⟨some 46, none, .fldA 1 (.s 45)⟩,
⟨some 47, none, .load false 1 (.s 46)⟩,
⟨some 48, none, .fldA 1 (.s 3)⟩,
⟨some 49, none, .load false 1 (.s 48)⟩,
⟨some 50, none, .mov (.s 4)⟩]
[⟨some 51, none, .callv (.s 43) [(.s 47), (.s 49), (.s 50)]⟩]
[⟨some 39, none, .mov (.s 51)⟩,
⟨some 52, none, .ext 0 (.s 39)⟩,
⟨some 53, none, .ext 1 (.s 39)⟩,
⟨some 5, none, .mov (.s 52)⟩]
[⟨some 6, none, .mov (.s 53)⟩])
 (.seq (.reg [⟨some 54, none, .mov (.s 6)⟩])
 (.cond (.s 54)
 (.seq (.regq [⟨some 55, none, .mov (.s 0)⟩,
⟨some 56, none, .mov (.s 0)⟩,
⟨some 57, none, .nilck (.s 56)⟩,
⟨some 58, none, .fldA 2 (.s 57)⟩,
⟨some 59, none, .load false 1 (.s 58)⟩,
⟨some 60, none, .mov (.s 4)⟩,
⟨some 61, none, .mov (.s 0)⟩,
⟨some 62, none, .nilck (.s 61)⟩,
⟨some 63, none, .fldA 1 (.s 62)⟩,
⟨some 64, none, .load false 1 (.s 63)⟩,
⟨some 65, none, .len (.s 64)⟩,
⟨some 66, none, .mov (.s 5)⟩,
⟨some 67, none, .len (.s 66)⟩,
⟨some 68, none, .call 120 [(.s 59), (.s 60), (.s 65), (.s 67)]⟩]
[⟨some 69, none, .nilck (.s 55)⟩,
⟨some 70, none, .fldA 2 (.s 69)⟩,
⟨none, none, .store 1 (.s 70) (.s 68)⟩])
 (.reg [⟨some 71, none, .mov (.s 0)⟩,
⟨some 72, none, .mov (.s 5)⟩,
⟨some 73, none, .nilck (.s 71)⟩,
⟨some 74, none, .fldA 1 (.s 73)⟩,
⟨none, none, .store 1 (.s 74) (.s 72)⟩]))
 .skip)))))))
theorem k115 : OkF 115 Try.f115 c115 [] 75 := ⟨Try.func115, by kernel_rfl, by kernel_rfl, by kernel_rfl, Try.ntmps115⟩
/-- what the machine asks of a lookup of its font -/
structure PosK (k : Lk) : Prop where
 cx : k.kind = 12 → (∀ s ∈ k.subs, s.back.length ≤ 16 ∧ s.inn.length ≤ 16 ∧ s.ahead.length ≤ 16) ∧ ∀ s ∈ k.subs, s.nests.length ≤ 16
 hang : k.kind = 9 ∨ k.kind = 10 ∨ k.kind = 11 → ∀ s ∈ k.subs, s.marks.length ≤ 5000 ∧ s.hosts.length ≤ 5000
 cov : k.kind = 6 ∨ k.kind = 7 → ∀ s ∈ k.subs, s.cover.length ≤ 5000
abbrev mV (F : Ff) (left : Int) : V := .agg [I F.em, .sl (F.gs.map gi), .sl (F.maps.map mp), .sl (F.lks.map lk), .sl (F.fts.map ft), LL F.sets, I left]
abbrev mR (F : Ff) (left : Int) : Row := ⟨[.pure (mV F left)], 7, .live⟩
theorem starts_c (F : Ff) (k : Lk) (hk : PosK k) (l : List Gl) (hl : l.length ≤ 1000) (x left : Int) : CallA Try.prog 89 [.ptr 0 0 0, .pure (lk k), .pure (.sl (l.map gl)), .pure (I x)] [mR F left]
  fun s H' => s = .pure (.bool (!decide (k.kind = 12) || (matchF F.fo k l x).isSome)) ∧ H' = [mR F left] := by
 refine CallA.weak (K := fun s H' => s = .pure (.bool (!decide (k.kind = 12) || (matchF F.fo k l x).isSome)) ∧ ∃ R, H' = mR F left :: R) ?_ ?_
 ·refine k89.a (by simp) ?_
  unfold c89
  simp -implicitDefEqProofs only [vmp,↓vmd,seval]
  refine onB_dec (fun h1 => ?_) (fun h1 => ?_)
  ·have hd : decide (k.kind = 12) = false := decide_eq_false h1
   rw [hd]
   (first | apply envO | apply envQ); simp -implicitDefEqProofs only [h1, vmp,↓vmd,seval]; rfl
   simp -implicitDefEqProofs only [h1, vmp,↓vmd,seval]
   exact ⟨_, rfl⟩
  ·have h1' := Classical.not_not.1 h1
   have hd : decide (k.kind = 12) = true := decide_eq_true h1'
   have hm := match_q F.fo k l hl x (hk.cx h1').1
   rw [ffV_fo] at hm
   rw [hd]
   generalize matchF F.fo k l x = o at *
   (first | apply envO | apply envQ); simp -implicitDefEqProofs only [h1, vmp,↓vmd,seval]; rfl
   simp -implicitDefEqProofs only [h1, vmp,↓vmd,seval]
   cases o with
   | none =>
    have hm' : FnQ Try.prog 102 [ffV F, lk k, .sl (l.map gl), I x] [I 0, LI [], .bool false] := hm
    refine onQ_q hm' rfl ?_
    (first | apply envO | apply envQ); simp -implicitDefEqProofs only [vmp,↓vmd,seval]; rfl
    simp -implicitDefEqProofs only [vmp,↓vmd,seval]
    exact ⟨_, rfl⟩
   | some q =>
    have hm' : FnQ Try.prog 102 [ffV F, lk k, .sl (l.map gl), I x] [I (q.1 : Int), LI q.2, .bool true] := hm
    refine onQ_q hm' rfl ?_
    (first | apply envO | apply envQ); simp -implicitDefEqProofs only [vmp,↓vmd,seval]; rfl
    simp -implicitDefEqProofs only [vmp,↓vmd,seval]
    exact ⟨_, rfl⟩
 ·rintro r H' ⟨rfl, R, rfl⟩
  exact ⟨[0], _, _, by simp, rfl, (by simp -implicitDefEqProofs only [kpp,seval]), (by simp -implicitDefEqProofs only [kpp,seval]), rfl, rfl⟩
def onceS : Option (List Gl × Int) → S
 | some q => .tup [.pure (.sl (q.1.map gl)), .pure (I q.2), .pure (.bool true)]
 | none => .tup [.empty, .pure (I 0), .pure (.bool false)]
/-- a lookup at a place, so deep -/
def OnceC (F : Ff) (n : Nat) : Prop := ∀ (lookup : Int) (l : List Gl) (x left deep : Int), l.length ≤ 100 → 0 ≤ left → left ≤ 65536 → deep = 9 - (n : Int) → 0 ≤ deep →
 CallA Try.prog 74 [.ptr 0 0 0, .pure (I lookup), .pure (.sl (l.map gl)), .pure (I x), .pure (I deep)] [mR F left]
  fun s H' => s = onceS (onceF F n lookup l x left).1 ∧ H' = [mR F (onceF F n lookup l x left).2]
def dS : Option (List Gl × Int) → S
 | some q => .tup [.pure (.sl (q.1.map gl)), .pure (.bool true)]
 | none => .tup [.empty, .pure (.bool false)]
abbrev pR : Row := ⟨[.ptr 0 0 0], 1, .live⟩
abbrev dR (deep : Int) : Row := ⟨[.pure (I deep)], 1, .live⟩
theorem kind1_c (F : Ff) {n : Nat} (h : OnceC F n) (lookup : Int) (l : List Gl) (x left deep : Int) (hl : l.length ≤ 100) (h0 : 0 ≤ left) (h1 : left ≤ 65536) (hd : deep + 1 = 9 - (n : Int)) (hd0 : 0 ≤ deep) :
  CallA Try.prog 106 [.pure (.sl (l.map gl)), .pure (I lookup), .pure (I x), .ptr 1 0 0, .ptr 2 0 0] [mR F left, pR, dR deep]
   fun s H' => s = dS (onceF F n lookup l x left).1 ∧ H' = [mR F (onceF F n lookup l x left).2, pR, dR deep] := by
 have hc := h lookup l x left (deep + 1) hl h0 h1 hd (by omega)
 have hw : IntKind.wrap .i64 (deep + 1) = deep + 1 := wrap_id (by omega) (by omega)
 refine k106.a (by simp) ?_
 unfold c106
 generalize onceF F n lookup l x left = o at *
 obtain ⟨r, left'⟩ := o
 simp -implicitDefEqProofs only [hw, vmp,↓vmd,seval]
 refine onC_fr hc [0] (by simp) (by simp -implicitDefEqProofs only [kpp,seval]) rfl rfl (by simp) ?_
 cases r with
 | none =>
  (first | apply envO | apply envQ); simp -implicitDefEqProofs only [vmp,↓vmd,seval]; rfl
  simp -implicitDefEqProofs only [onceS, dS, vmp,↓vmd,seval]
 | some q =>
  (first | apply envO | apply envQ); simp -implicitDefEqProofs only [vmp,↓vmd,seval]; rfl
  simp -implicitDefEqProofs only [onceS, dS, vmp,↓vmd,seval]
/-- a context that is being done -/
abbrev wR (l : List Gl) (ps : List Int) : Row := ⟨[.agg [.func (.func 106) [] [.ptr 1 0 0, .ptr 2 0 0], .pure (.sl (l.map gl)), .pure (LI ps)]], 3, .live⟩
theorem mv_zero {ps : List Int} {a : Int} (h : ∀ p ∈ ps, -9223372036854775808 ≤ p ∧ p ≤ 9223372036854775807) : ps.map (mv a (IntKind.wrap .i64 0)) = ps := by
 have e : IntKind.wrap .i64 0 = 0 := wrap_id (by omega) (by omega)
 rw [e]
 conv => rhs; rw [← List.map_id ps]
 refine List.map_congr_left fun p hp => ?_
 have := h p hp
 rw [mv]
 split
 ·rfl
 ·split
  ·omega
  ·rw [wrap_id (by omega) (by omega)]; simp
theorem nest_c (F : Ff) {m : Nat} (h : OnceC F m) (n : Ns) (l : List Gl) (ps : List Int) (left deep : Int) (hl : l.length ≤ 100) (h0 : 0 ≤ left) (h1 : left ≤ 65536) (hd : deep + 1 = 9 - (m : Int)) (hd0 : 0 ≤ deep) (hps : ps.length ≤ 900) (hpi : ∀ p ∈ ps, 0 ≤ p ∧ p < (l.length : Int)) :
  CallA Try.prog 115 [.ptr 3 0 0, .pure (ns n)] [mR F left, pR, dR deep, wR l ps]
   fun s H' => s = .tup [] ∧ H' = [mR F (nestS (onceF F m) ps (l, left) n).2, pR, dR deep, wR (nestS (onceF F m) ps (l, left) n).1 ps] := by
 refine CallA.weak (K := fun s H' => s = .tup [] ∧ ∃ R, H' = mR F (nestS (onceF F m) ps (l, left) n).2 :: pR :: dR deep :: wR (nestS (onceF F m) ps (l, left) n).1 ps :: R) ?_ ?_
 ·refine k115.a (by simp) ?_
  unfold c115
  generalize hv : nestS (onceF F m) ps (l, left) n = v
  rw [nestS] at hv
  simp -implicitDefEqProofs only [vmp,↓vmd,seval]
  by_cases n0 : n.at_ < 0
  ·rw [if_pos (.inl n0)] at hv
   subst hv
   refine onB_pos n0 ?_
   (first | apply envO | apply envQ); simp -implicitDefEqProofs only [n0, vmp,↓vmd,seval]; rfl
   simp -implicitDefEqProofs only [n0, vmp,↓vmd,seval]
   exact ⟨_, rfl⟩
  refine onB_neg n0 ?_
  (first | apply envO | apply envQ); simp -implicitDefEqProofs only [n0, vmp,↓vmd,seval]; rfl
  simp -implicitDefEqProofs only [n0, vmp,↓vmd,seval]
  by_cases n1 : (ps.length : Int) ≤ n.at_
  ·rw [if_pos (.inr n1)] at hv
   subst hv
   refine onB_pos n1 ?_
   simp -implicitDefEqProofs only [n1, vmp,↓vmd,seval]
   exact ⟨_, rfl⟩
  refine onB_neg n1 ?_
  have m0 : 0 ≤ n.at_ := by omega
  have m1 : n.at_ < ps.length := by omega
  have hp := intAt_map m0 m1
  have hpm : 0 ≤ intAt ps n.at_ ∧ intAt ps n.at_ < (l.length : Int) := by
   have e : ps[n.at_.toNat]? = some (ps[n.at_.toNat]'(by omega)) := List.getElem?_eq_getElem (by omega)
   rw [intAt, e]
   exact hpi _ (List.getElem_mem _)
  rw [if_neg (by omega)] at hv
  simp only at hv
  have p0 : ¬ intAt ps n.at_ < 0 := by omega
  have p1 : ¬ (l.length : Int) ≤ intAt ps n.at_ := by omega
  simp -implicitDefEqProofs only [n1, m0, m1, hp, vmp,↓vmd,seval]
  have hc := kind1_c F h n.lookup l (intAt ps n.at_) left deep hl h0 h1 hd hd0
  have hco := (onceF_p F m).core n.lookup l (intAt ps n.at_) left
  generalize intAt ps n.at_ = p at *
  generalize onceF F m n.lookup l p left = o at *
  obtain ⟨r, left'⟩ := o
  refine onB_neg p0 ?_
  (first | apply envO | apply envQ); simp -implicitDefEqProofs only [p0, vmp,↓vmd,seval]; rfl
  simp -implicitDefEqProofs only [p0, vmp,↓vmd,seval]
  refine onIf_intro fun _ => ?_
  (first | apply envO | apply envQ); simp -implicitDefEqProofs only [p1, vmp,↓vmd,seval]; rfl
  simp -implicitDefEqProofs only [p1, vmp,↓vmd,seval]
  refine onC_fr hc [0, 1, 2] (by simp) (by simp -implicitDefEqProofs only [kpp,seval]) rfl rfl (by simp) ?_
  cases r with
  | none =>
   subst hv
   (first | apply envO | apply envQ); simp -implicitDefEqProofs only [dS, vmp,↓vmd,seval]; rfl
   simp -implicitDefEqProofs only [dS, vmp,↓vmd,seval]
   exact ⟨_, rfl⟩
  | some q =>
   subst hv
   have hlen := coreL_len (hco q rfl)
   have hmq := moved_q ps p l.length q.1.length (by omega)
   rw [show ((q.1.length : Nat) : Int) - ((l.length : Nat) : Int) = 0 by omega, mv_zero (fun p hp => by have := hpi p hp; omega)] at hmq
   (first | apply envO | apply envQ); simp -implicitDefEqProofs only [dS, vmp,↓vmd,seval]; rfl
   simp -implicitDefEqProofs only [dS, vmp,↓vmd,seval]
   refine onQ_q hmq rfl ?_
   (first | apply envO | apply envQ); simp -implicitDefEqProofs only [vmp,↓vmd,seval]; rfl
   simp -implicitDefEqProofs only [vmp,↓vmd,seval]
   exact ⟨_, rfl⟩
 ·rintro r H' ⟨rfl, R, rfl⟩
  exact ⟨[0, 1, 2, 3], _, _, by simp, rfl, (by simp -implicitDefEqProofs only [kpp,seval]), (by simp -implicitDefEqProofs only [kpp,seval]), rfl, rfl⟩
end Go.Proofs.Ytcjmkpkhjhjepaa.W
