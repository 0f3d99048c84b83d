/-
  Glyphs that hang on none: settling leaves them; and what steps leave of doings. No condition but on sizes.
-/
import Derived.Test.YtcjmkpkhjhjepaaGreatRPos3
import Derived.Test.YtcjmkpkhjhjepaaGreatCloneG
namespace Go.Proofs.YtcjmkpkhjhjepaaGreat.W
open Go Go.Vm Go.Proofs
set_option maxRecDepth 100000
set_option linter.unusedSimpArgs false
set_option maxHeartbeats 4000000
/-! typecase/pos.Settle -/
def c15_0 : AC :=
 (.seq (.reg [oo 93 (.mov (.s 3)),
 oo 2 (.mov (.s 93))])
 .ret)
def c15_1 : AC :=
 (.seq (.reg [oo 12 (.bin .lss (.s 11) (.s 10))])
 (.seq (.cond (.s 12)
 .skip
 (.exit 0))
 (.seq (.block 1
 (.seq (.reg [oo 13 (.mov (.s 11)),
 oo 5 (.mov (.s 13))])
 (.seq (.reg [oo 14 (.mov (.s 3)),
 oo 15 (.mov (.s 5)),
 oo 16 (.idxA 10 (.s 14) (.s 15)),
 oo 6 (.mov (.s 16))])
 (.seq (.block 2
 (.seq (.reg [oo 18 (.mov (.s 4)),
 oo 19 (.mov (.s 6)),
 oo 20 (.nilck (.s 19)),
 oo 21 (.fldA 5 (.s 20)),
 oo 22 (.load false 1 (.s 21)),
 oo 23 (.mov (.s 5)),
 oo 24 (.callv (.s 18) [(.s 22), (.s 23)]),
 oo 17 (.mov (.s 24))])
 (.cond (.s 17)
 (.seq (.regq [oo 25 (.mov (.s 6)),
 oo 26 (.nilck (.s 25)),
 oo 27 (.fldA 3 (.s 26)),
 oo 28 (.load false 1 (.s 27)),
 oo 29 (.mov (.s 3)),
 oo 30 (.mov (.s 6)),
 oo 31 (.nilck (.s 30)),
 oo 32 (.fldA 5 (.s 31)),
 oo 33 (.load false 1 (.s 32)),
 oo 34 (.idxA 10 (.s 29) (.s 33)),
 oo 35 (.fldA 3 (.s 34)),
 oo 36 (.load false 1 (.s 35))]
[oo 37 (.bin .add (.s 28) (.s 36)),
 oo 38 (.nilck (.s 25)),
 oo 39 (.fldA 3 (.s 38)),
⟨none, none, .store 1 (.s 39) (.s 37)⟩])
 (.regq [oo 40 (.mov (.s 6)),
 oo 41 (.nilck (.s 40)),
 oo 42 (.fldA 4 (.s 41)),
 oo 43 (.load false 1 (.s 42)),
 oo 44 (.mov (.s 3)),
 oo 45 (.mov (.s 6)),
 oo 46 (.nilck (.s 45)),
 oo 47 (.fldA 5 (.s 46)),
 oo 48 (.load false 1 (.s 47)),
 oo 49 (.idxA 10 (.s 44) (.s 48)),
 oo 50 (.fldA 4 (.s 49)),
 oo 51 (.load false 1 (.s 50))]
[oo 52 (.bin .add (.s 43) (.s 51)),
 oo 53 (.nilck (.s 40)),
 oo 54 (.fldA 4 (.s 53)),
⟨none, none, .store 1 (.s 54) (.s 52)⟩]))
 (.seq (.reg [oo 56 (.mov (.s 4)),
 oo 57 (.mov (.s 6)),
 oo 58 (.nilck (.s 57)),
 oo 59 (.fldA 6 (.s 58)),
 oo 60 (.load false 1 (.s 59)),
 oo 61 (.mov (.s 5)),
 oo 62 (.callv (.s 56) [(.s 60), (.s 61)]),
 oo 55 (.mov (.s 62))])
 (.cond (.s 55)
 (.regq [oo 63 (.mov (.s 6)),
 oo 64 (.nilck (.s 63)),
 oo 65 (.fldA 4 (.s 64)),
 oo 66 (.load false 1 (.s 65)),
 oo 67 (.mov (.s 3)),
 oo 68 (.mov (.s 6)),
 oo 69 (.nilck (.s 68)),
 oo 70 (.fldA 6 (.s 69)),
 oo 71 (.load false 1 (.s 70)),
 oo 72 (.idxA 10 (.s 67) (.s 71)),
 oo 73 (.fldA 4 (.s 72)),
 oo 74 (.load false 1 (.s 73))]
[oo 75 (.bin .add (.s 66) (.s 74)),
 oo 76 (.nilck (.s 63)),
 oo 77 (.fldA 4 (.s 76)),
⟨none, none, .store 1 (.s 77) (.s 75)⟩])
 .skip)))))
 (.seq (.seq (.reg [oo 78 (.mov (.s 4)),
 oo 79 (.mov (.s 6)),
 oo 80 (.nilck (.s 79)),
 oo 81 (.fldA 5 (.s 80)),
 oo 82 (.load false 1 (.s 81)),
 oo 83 (.mov (.s 5)),
 oo 84 (.callv (.s 78) [(.s 82), (.s 83)]),
 oo 85 (.un .not (.s 84))])
 (.cond (.s 85)
 (.reg [oo 86 (.mov (.s 6)),
 oo 87 (.nilck (.s 86)),
 oo 88 (.fldA 5 (.s 87)),
⟨none, none, .store 1 (.s 88) (nI (-1))⟩])
 .skip))
 (.reg [oo 89 (.mov (.s 6)),
 oo 90 (.nilck (.s 89)),
 oo 91 (.fldA 6 (.s 90)),
⟨none, none, .store 1 (.s 91) (nI (-1))⟩]))))))
 (.reg [oo 92 (.bin .add (.s 11) (nI 1)),
 oo 11 (.mov (.s 92))]))))
def c15 : AC :=
 (.seq (.reg [oo 2 (.mov (.c .empty))])
 (.seq (.reg [oo 7 (.mov (.s 0)),
 oo 8 (.call 24 [(.s 7)]),
 oo 3 (.mov (.s 8))])
 (.seq (.reg [oo 4 (.mov (.c (.pure (.func (.func 25) [] []))))])
 (.seq (.seq (.reg [oo 9 (.mov (.s 3)),
 oo 10 (.len (.s 9)),
 oo 11 (.mov (nI 0))])
 (.block 0
 (.loop c15_1)))
 c15_0))))
theorem k15 : OkF 15 Tryz.f15 c15 [.t 2] 94 := ⟨Tryz.func15, by kernel_rfl, by kernel_rfl, by kernel_rfl, Tryz.ntmps15⟩
/-! typecase/pos.Settle$1 -/
def c25 : AC :=
 (.seq (.reg [oo 4 (.mov (nB false))])
 (.seq (.reg [oo 5 (.mov (.s 0)),
 oo 6 (.bin .geq (.s 5) (nI 0)),
 oo 7 (.mov (.s 6)),
 og 8 7 true (.mov (.s 0)),
 og 9 7 true (.mov (.s 1)),
 og 10 7 true (.bin .lss (.s 8) (.s 9)),
 oo 11 (.pick (.s 7) (.s 10) (nB false)),
 oo 4 (.mov (.s 11))])
 .ret))
theorem k25 : OkF 25 Tryz.f25 c25 [.t 4] 12 := ⟨Tryz.func25, by kernel_rfl, by kernel_rfl, by kernel_rfl, Tryz.ntmps25⟩
/-! typecase/typecaseref35.Left -/
def c16_0 : AC :=
 (.seq (.reg [oo 32 (.mov (.s 7)),
 oo 6 (.mov (.s 32))])
 .ret)
def c16_1 : AC :=
 (.seq (.seq (.reg [oo 9 (.mov (.s 8)),
 oo 10 (.mov (.s 1)),
 oo 11 (.len (.s 10)),
 oo 12 (.bin .lss (.s 9) (.s 11))])
 (.cond (.s 12)
 .skip
 (.exit 0)))
 (.seq (.block 1
 (.regd [oo 16 (.load true 6 (.s 3)),
 oo 17 (.mov (.s 1)),
 oo 18 (.mov (.s 8)),
 oo 19 (.idxA 2 (.s 17) (.s 18)),
 oo 20 (.fldA 0 (.s 19)),
 oo 21 (.load false 1 (.s 20)),
 oo 22 (.mov (.s 1)),
 oo 23 (.mov (.s 8)),
 oo 24 (.idxA 2 (.s 22) (.s 23)),
 oo 25 (.fldA 1 (.s 24)),
 oo 26 (.load false 1 (.s 25)),
 oo 27 (.mov (.s 2)),
 oo 28 (.mov (.s 7))]
[oo 29 (.call 23 [(.s 16), (.s 21), (.s 26), (.s 27), (.s 28)])]
[oo 15 (.mov (.s 29)),
 oo 30 (.ext 0 (.s 15)),
 oo 31 (.ext 1 (.s 15)),
 oo 2 (.mov (.s 30))]
[oo 7 (.mov (.s 31))]))
 (.reg [oo 13 (.mov (.s 8)),
 oo 14 (.bin .add (.s 13) (nI 1)),
 oo 8 (.mov (.s 14))])))
def c16 : AC :=
 (.seq (.reg [oo 3 (.box (.s 0)),
 oo 6 (.mov (nI 0))])
 (.seq (.reg [oo 7 (.mov (nI 65536))])
 (.seq (.seq (.reg [oo 8 (.mov (nI 0))])
 (.block 0
 (.loop c16_1)))
 c16_0)))
theorem k16 : OkF 16 Tryz.f16 c16 [.t 6] 33 := ⟨Tryz.func16, by kernel_rfl, by kernel_rfl, by kernel_rfl, Tryz.ntmps16⟩
theorem ahead_none (i : Int) : FnQ Tryz.prog 25 [I (-1), I i] [.bool false] := by
 refine k25.q (by simp) ?_
 unfold c25
 simp only [vmp,↓vmd,seval]
 exact gives_pure
theorem row_own {X : List Gl} {i : Nat} {g : Gl} (h : X[i]? = some g) : ((X.map gl).map S.pure)[i]? = some (.pure (gl g)) := by
 rw [List.getElem?_map, List.getElem?_map, h]; rfl
theorem set_own {X : List Gl} {i : Nat} {g : Gl} (h : X[i]? = some g) : ((X.map gl).map S.pure).set i (.pure (gl g)) = (X.map gl).map S.pure := by
 apply List.ext_getElem?
 intro j
 by_cases e : i = j
 ·subst e
  rw [List.getElem?_set_self (by
   have := (List.getElem?_eq_some_iff.1 h).1
   simpa using this), row_own h]
 ·rw [List.getElem?_set_ne e]
theorem settleOwn_q (ls : List Gl) (hl : ls.length ≤ 1000) (ht : ∀ g ∈ ls, g.to = -1 ∧ g.hang = -1) : FnQ Tryz.prog 15 [.sl (ls.map gl)] [.sl (ls.map gl)] := by
 refine k15.q (by simp) ?_
 unfold c15
 simp only [vmp,↓vmd,seval]
 refine onC_fr (cloneG_c ls hl) [] (by simp) trivial rfl rfl (by simp) ?_
 (first | apply envO | apply envQ); simp only [vmp,↓vmd,seval]; rfl
 simp only [vmp,↓vmd,seval]
 refine onIf_intro fun _ => ?_
 (first | apply envO | apply envQ); simp only [vmp,↓vmd,seval]; rfl
 simp only [vmp,↓vmd,seval]
 refine loop_at (T := Nat) (fun i => [(11, .pure (I i)), (10, .pure (I ls.length)), (3, .rsl 0 0 ls.length), (4, .pure (.func (.func 25) [] []))]) (fun _ => [⟨(ls.map gl).map S.pure, 10, .live⟩]) (fun i => i ≤ ls.length) (fun i => ls.length - i)
  0 [0] (by simp) rfl (by simp) (by simp only [kpp,seval]) (by simp only [kpp,seval]) ?_
 intro i hi
 unfold c15_1
 simp only [vmp,↓vmd,seval]
 refine onB_dec (fun h1 => ?_) (fun h1 => ?_)
 ·have hlt : i < ls.length := by omega
  have hXi : ls[i]? = some ls[i] := List.getElem?_eq_getElem hlt
  have hti := ht ls[i] (List.getElem_mem _)
  generalize ls[i] = g at *
  obtain ⟨g0, g1, g2, g3, g4, g5, g6, g7, g8, g9⟩ := g
  simp only at hti
  obtain ⟨rfl, rfl⟩ := hti
  have hr := row_own hXi
  have hs := set_own hXi
  simp only [h1, hr, Int.natCast_nonneg, vmp,↓vmd,seval]
  refine onC_q (ahead_none _) rfl ?_
  (first | apply envO | apply envQ); simp only [hr, vmp,↓vmd,seval]; rfl
  simp only [hr, vmp,↓vmd,seval]
  refine onC_q (ahead_none _) rfl ?_
  (first | apply envO | apply envQ); simp only [hr, vmp,↓vmd,seval]; rfl
  simp only [hr, vmp,↓vmd,seval]
  refine onC_q (ahead_none _) rfl ?_
  (first | apply envO | apply envQ); simp only [hr, vmp,↓vmd,seval]; rfl
  simp only [hr, hs, vmp,↓vmd,seval]
  refine onBk_to (i + 1) [0] (by simp) rfl (by omega) hlt (by simp only [next_at hlt (by omega), kpp,seval]) (by simp only [hs, kpp,seval])
 ·simp only [h1, vmp,↓vmd,seval]
  unfold c15_0
  simp only [vmp,↓vmd,seval]
  exact gives_row rfl (by simp)
theorem left_q (F : Ff) (hF : ∀ k ∈ F.lks, PosK k) (ts : List Stp) (l : List Gl) (hl : l.length ≤ 100) : FnQ Tryz.prog 16 [ffV F, .sl (ts.map stp), .sl (l.map gl)] [I (allP F ts l 65536).2] := by
 refine k16.q (by simp) ?_
 unfold c16
 generalize ho : allP F ts l 65536 = out at *
 simp only [vmp,↓vmd,seval]
 refine loop_at (T := Nat × List Gl × Int) (fun z => [(8, .pure (I (z.1 : Int))), (1, .pure (.sl (ts.map stp))), (3, .ptr 0 0 0), (2, .pure (.sl (z.2.1.map gl))), (7, .pure (I z.2.2))])
  (fun _ => [⟨[.pure (ffV F)], 6, .live⟩]) (fun z => z.1 ≤ ts.length ∧ z.2.1.length ≤ 100 ∧ 0 ≤ z.2.2 ∧ z.2.2 ≤ 65536 ∧ allP F (ts.drop z.1) z.2.1 z.2.2 = out) (fun z => ts.length - z.1)
  (0, l, 65536) [0] (by simp) rfl ⟨by simp, hl, by simp, by simp, by simpa using ho⟩ (by simp only [kpp,seval]) (by simp only [kpp,seval]) ?_
 rintro ⟨i, ls, u⟩ ⟨hi, hll, hu0, hu1, hr⟩
 simp only at hi hll hu0 hu1 hr
 unfold c16_1
 simp only [vmp,↓vmd,seval]
 refine onIf_intro fun _ => ?_
 (first | apply envO | apply envQ); simp only [vmp,↓vmd,seval]; rfl
 simp only [vmp,↓vmd,seval]
 refine onB_dec (fun b1 => ?_) (fun b1 => ?_)
 ·have hlt : i < ts.length := by omega
  rw [drop_at hlt, allP] at hr
  have hgi : (ts.map stp)[i]? = some (stp ts[i]) := map_at hlt
  generalize ts[i] = t at *
  have hq := rstep_q F hF t ls hll u hu0 hu1
  obtain ⟨p1, p2, p3, _⟩ := passF_p F t.k t.m ls.length ls 0 u hu0
  have hlen := coreL_len p1
  generalize passF F t.k t.m ls.length ls 0 u = z at *
  obtain ⟨z1, z2⟩ := z
  simp only at p2 p3 hlen hr
  simp only [b1, hgi, Int.natCast_nonneg, vmp,↓vmd,seval]
  refine onC_q hq rfl ?_
  (first | apply envO | apply envQ); simp only [vmp,↓vmd,seval]; rfl
  simp only [vmp,↓vmd,seval]
  refine onBk_to (i + 1, z1, z2) [0] (by simp) rfl (by simp only; omega) ⟨hlt, by simp only; omega, p2, by simp only; omega, hr⟩ (by simp only [next_at hlt (by omega), kpp,seval]) (by simp only [kpp,seval])
 ·rw [List.drop_of_length_le (by omega), allP] at hr
  subst hr
  simp only [b1, vmp,↓vmd,seval]
  unfold c16_0
  simp only [vmp,↓vmd,seval]
  exact gives_pure
/-- glyphs with fewer masks, hung on none -/
def ownG (g : Gl) : Gl := ⟨g.id, g.cl, g.adv, g.dx, g.dy, -1, -1, g.lig, g.comp, andE g.mask 6⟩
abbrev andN (a b : Int) : Int := IntKind.wrap .i64 ((BitVec.ofInt (IntKind.bits .i64) a &&& ~~~BitVec.ofInt (IntKind.bits .i64) b).toNat : Int)
def noneS (s : Stp) : Stp := ⟨s.k, andN s.m 6⟩
theorem bin_andNot {a b : Int} : binF .andNot (.pure (I a)) (.pure (I b)) = some (.pure (I (andN a b))) := rfl
theorem ofInt_wrap (n : Int) : BitVec.ofInt 64 (IntKind.wrap .i64 n) = BitVec.ofInt 64 n := by
 apply BitVec.eq_of_toNat_eq
 simp only [BitVec.toNat_ofInt, IntKind.wrap, IntKind.bits, IntKind.signed]
 simp
 omega
theorem and_none (a m : Int) : andE (andE a 6) (andN m 6) = 0 := by
 have h : ∀ x y c : BitVec 64, (x &&& c) &&& (y &&& ~~~c) = 0#64 := fun x y c => by
  ext i hi
  simp only [BitVec.getElem_and, BitVec.getElem_not, BitVec.getElem_zero]
  cases x[i] <;> cases y[i] <;> cases c[i] <;> rfl
 have e : ∀ x : BitVec 64, BitVec.ofInt 64 (x.toNat : Int) = x := fun x => by
  apply BitVec.eq_of_toNat_eq
  rw [BitVec.toNat_ofInt]
  have := x.isLt
  omega
 have k : andE (andE a 6) (andN m 6) = IntKind.wrap .i64 ((BitVec.ofInt 64 (IntKind.wrap .i64 ((BitVec.ofInt 64 a &&& BitVec.ofInt 64 6).toNat : Int)) &&& BitVec.ofInt 64 (IntKind.wrap .i64 ((BitVec.ofInt 64 m &&& ~~~BitVec.ofInt 64 6).toNat : Int))).toNat : Int) := rfl
 rw [k, ofInt_wrap, ofInt_wrap, e, e, h]
 rfl
end Go.Proofs.YtcjmkpkhjhjepaaGreat.W
