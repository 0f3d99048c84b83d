/-
  What a glyph hangs by: two functions, one answer. No condition.
-/
import Derived.Test.YtcjmkpkhjhjepaaGreatCur0
import Derived.Test.YtcjmkpkhjhjepaaGreatStops
namespace Go.Proofs.YtcjmkpkhjhjepaaGreat.W
open Go Go.Vm Go.Proofs
set_option maxRecDepth 100000
set_option linter.unusedSimpArgs false
set_option maxHeartbeats 4000000
/-! typecase/cursive.Find -/
def c108_0 : AC :=
 (.seq (.reg [oo 35 (.build [(pI 0), (.pure (.bool false)), (.pure (.bool false)), (pI 0), (pI 0), (pI 0), (pI 0)] []),
⟨none, none, .store 7 (.s 4) (.s 35)⟩,
 oo 5 (.mov (nB false))])
 .ret)
def c108_1 : AC :=
 (.reg [oo 34 (.bin .add (.s 17) (nI 1)),
 oo 17 (.mov (.s 34))])
def c108_2 : AC :=
 (.seq (.reg [oo 25 (.bin .lss (.s 24) (.s 23))])
 (.seq (.cond (.s 25)
 .skip
 (.exit 2))
 (.seq (.block 3
 (.seq (.reg [oo 26 (.idxA 7 (.s 22) (.s 24)),
 oo 27 (.load true 7 (.s 26)),
 oo 9 (.box (.c (.pure (.agg [(.int .i64 0), (.bool false), (.bool false), (.int .i64 0), (.int .i64 0), (.int .i64 0), (.int .i64 0)])))),
⟨none, none, .store 7 (.s 9) (.s 27)⟩])
 (.seq (.reg [oo 28 (.fldA 0 (.s 9)),
 oo 29 (.load false 1 (.s 28)),
 oo 30 (.mov (.s 1)),
 oo 31 (.bin .eql (.s 29) (.s 30))])
 (.cond (.s 31)
 (.seq (.reg [oo 32 (.load true 7 (.s 9)),
⟨none, none, .store 7 (.s 4) (.s 32)⟩,
 oo 5 (.mov (nB true))])
 .ret)
 .skip))))
 (.reg [oo 33 (.bin .add (.s 24) (nI 1)),
 oo 24 (.mov (.s 33))]))))
def c108_3 : AC :=
 (.seq (.reg [oo 18 (.bin .lss (.s 17) (.s 16))])
 (.seq (.cond (.s 18)
 .skip
 (.exit 0))
 (.seq (.block 1
 (.seq (.reg [oo 19 (.idxA 12 (.s 15) (.s 17)),
 oo 20 (.load true 12 (.s 19)),
 oo 7 (.box (.c (.agg [.empty, .empty, .empty, .empty, .empty, .empty, .empty, .empty, .empty, .empty, .empty, .empty]))),
⟨none, none, .store 12 (.s 7) (.s 20)⟩])
 (.seq (.reg [oo 21 (.fldA 9 (.s 7)),
 oo 22 (.load false 1 (.s 21)),
 oo 23 (.len (.s 22)),
 oo 24 (.mov (nI 0))])
 (.block 2
 (.loop c108_2)))))
 c108_1)))
def c108 : AC :=
 (.seq (.reg [oo 2 (.box (.s 0)),
 oo 4 (.box (.c (.pure (.agg [(.int .i64 0), (.bool false), (.bool false), (.int .i64 0), (.int .i64 0), (.int .i64 0), (.int .i64 0)])))),
 oo 5 (.mov (nB false))])
 (.seq (.seq (.reg [oo 10 (.fldA 0 (.s 2)),
 oo 11 (.load false 1 (.s 10)),
 oo 12 (.bin .neq (.s 11) (nI 8))])
 (.cond (.s 12)
 (.seq (.reg [oo 13 (.build [(pI 0), (.pure (.bool false)), (.pure (.bool false)), (pI 0), (pI 0), (pI 0), (pI 0)] []),
⟨none, none, .store 7 (.s 4) (.s 13)⟩,
 oo 5 (.mov (nB false))])
 .ret)
 .skip))
 (.seq (.seq (.reg [oo 14 (.fldA 3 (.s 2)),
 oo 15 (.load false 1 (.s 14)),
 oo 16 (.len (.s 15)),
 oo 17 (.mov (nI 0))])
 (.block 0
 (.loop c108_3)))
 c108_0)))
theorem k108 : OkF 108 Tryz.f108 c108 [.c 4 true 7, .t 5] 36 := ⟨Tryz.func108, by kernel_rfl, by kernel_rfl, by kernel_rfl, Tryz.ntmps108⟩
/-! typecase/typecaseref33.Find -/
def c96_0 : AC :=
 (.seq (.reg [oo 51 (.build [(pI 0), (.pure (.bool false)), (.pure (.bool false)), (pI 0), (pI 0), (pI 0), (pI 0)] []),
⟨none, none, .store 7 (.s 4) (.s 51)⟩,
 oo 5 (.mov (nB false))])
 .ret)
def c96_1 : AC :=
 (.reg [oo 17 (.mov (.s 6)),
 oo 18 (.bin .add (.s 17) (nI 1)),
 oo 6 (.mov (.s 18))])
def c96_2 : AC :=
 (.seq (.seq (.reg [oo 19 (.mov (.s 7)),
 oo 20 (.fldA 3 (.s 2)),
 oo 21 (.load false 1 (.s 20)),
 oo 22 (.mov (.s 6)),
 oo 23 (.idxA 12 (.s 21) (.s 22)),
 oo 24 (.fldA 9 (.s 23)),
 oo 25 (.load false 1 (.s 24)),
 oo 26 (.len (.s 25)),
 oo 27 (.bin .lss (.s 19) (.s 26))])
 (.cond (.s 27)
 .skip
 (.exit 2)))
 (.seq (.block 3
 (.seq (.reg [oo 30 (.fldA 3 (.s 2)),
 oo 31 (.load false 1 (.s 30)),
 oo 32 (.mov (.s 6)),
 oo 33 (.idxA 12 (.s 31) (.s 32)),
 oo 34 (.fldA 9 (.s 33)),
 oo 35 (.load false 1 (.s 34)),
 oo 36 (.mov (.s 7)),
 oo 37 (.idxA 7 (.s 35) (.s 36)),
 oo 38 (.fldA 0 (.s 37)),
 oo 39 (.load false 1 (.s 38)),
 oo 40 (.mov (.s 1)),
 oo 41 (.bin .eql (.s 39) (.s 40))])
 (.cond (.s 41)
 (.seq (.reg [oo 42 (.fldA 3 (.s 2)),
 oo 43 (.load false 1 (.s 42)),
 oo 44 (.mov (.s 6)),
 oo 45 (.idxA 12 (.s 43) (.s 44)),
 oo 46 (.fldA 9 (.s 45)),
 oo 47 (.load false 1 (.s 46)),
 oo 48 (.mov (.s 7)),
 oo 49 (.idxA 7 (.s 47) (.s 48)),
 oo 50 (.load true 7 (.s 49)),
⟨none, none, .store 7 (.s 4) (.s 50)⟩,
 oo 5 (.mov (nB true))])
 .ret)
 .skip)))
 (.reg [oo 28 (.mov (.s 7)),
 oo 29 (.bin .add (.s 28) (nI 1)),
 oo 7 (.mov (.s 29))])))
def c96_3 : AC :=
 (.seq (.seq (.reg [oo 12 (.mov (.s 6)),
 oo 13 (.fldA 3 (.s 2)),
 oo 14 (.load false 1 (.s 13)),
 oo 15 (.len (.s 14)),
 oo 16 (.bin .lss (.s 12) (.s 15))])
 (.cond (.s 16)
 .skip
 (.exit 0)))
 (.seq (.block 1
 (.seq (.reg [oo 7 (.mov (nI 0))])
 (.block 2
 (.loop c96_2))))
 c96_1))
def c96 : AC :=
 (.seq (.reg [oo 2 (.box (.s 0)),
 oo 4 (.box (.c (.pure (.agg [(.int .i64 0), (.bool false), (.bool false), (.int .i64 0), (.int .i64 0), (.int .i64 0), (.int .i64 0)])))),
 oo 5 (.mov (nB false))])
 (.seq (.seq (.reg [oo 8 (.fldA 0 (.s 2)),
 oo 9 (.load false 1 (.s 8)),
 oo 10 (.bin .neq (.s 9) (nI 8))])
 (.cond (.s 10)
 (.seq (.reg [oo 11 (.build [(pI 0), (.pure (.bool false)), (.pure (.bool false)), (pI 0), (pI 0), (pI 0), (pI 0)] []),
⟨none, none, .store 7 (.s 4) (.s 11)⟩,
 oo 5 (.mov (nB false))])
 .ret)
 .skip))
 (.seq (.seq (.reg [oo 6 (.mov (nI 0))])
 (.block 0
 (.loop c96_3)))
 c96_0)))
theorem k96 : OkF 96 Tryz.f96 c96 [.c 4 true 7, .t 5] 52 := ⟨Tryz.func96, by kernel_rfl, by kernel_rfl, by kernel_rfl, Tryz.ntmps96⟩
theorem find_q (k : Lk) (g : Int) : FnQ Tryz.prog 108 [lk k, I g] (curR (curF k g)) := by
 refine k108.q (by simp) ?_
 unfold c108
 have ho : curF k g = if k.kind = 8 then cuS k.subs g else none := rfl
 generalize curF k g = out at *
 simp only [vmp,↓vmd,seval]
 refine onB_dec (fun h1 => ?_) (fun h1 => ?_)
 ·rw [if_neg h1] at ho
  subst ho
  (first | apply envO | apply envQ); simp only [h1, vmp,↓vmd,seval]; rfl
  simp only [h1, vmp,↓vmd,seval]
  exact gives_tup rfl (by simp)
 rw [if_pos (Classical.not_not.1 h1)] at ho
 (first | apply envO | apply envQ); simp only [h1, vmp,↓vmd,seval]; rfl
 simp only [h1, vmp,↓vmd,seval]
 refine onIf_intro fun _ => ?_
 (first | apply envO | apply envQ); simp only [h1, vmp,↓vmd,seval]; rfl
 simp only [h1, vmp,↓vmd,seval]
 refine loop_at (T := Nat) (fun i => [(17, .pure (I (i : Int))), (16, .pure (I k.subs.length)), (15, .pure (.sl (k.subs.map sub))), (1, .pure (I g)), (4, .ptr 0 0 0)])
  (fun _ => [⟨[.pure (cu cuZ)], 7, .live⟩]) (fun i => i ≤ k.subs.length ∧ cuS (k.subs.drop i) g = out) (fun i => k.subs.length - i)
  0 [1] (by simp) rfl ⟨by simp, ho.symm⟩ (by simp only [kpp,seval]) (by simp only [cuZ, kpp,seval]) ?_
 rintro i ⟨hi, hr⟩
 unfold c108_3
 simp only [vmp,↓vmd,seval]
 refine onB_dec (fun h2 => ?_) (fun h2 => ?_)
 ·have hlt : i < k.subs.length := by omega
  rw [drop_at hlt, cuS] at hr
  have hgi : (k.subs.map sub)[i]? = some (sub k.subs[i]) := map_at hlt
  generalize k.subs[i] = s at hr hgi
  simp only [h2, hgi, Int.natCast_nonneg, vmp,↓vmd,seval]
  refine onIf_intro fun _ => ?_
  (first | apply envO | apply envQ); simp only [h2, vmp,↓vmd,seval]; rfl
  simp only [h2, vmp,↓vmd,seval]
  refine loop_at (T := Nat) (fun j => [(24, .pure (I (j : Int))), (23, .pure (I s.curs.length)), (22, .pure (.sl (s.curs.map cu))), (17, .pure (I (i : Int))), (16, .pure (I k.subs.length)), (15, .pure (.sl (k.subs.map sub))), (1, .pure (I g)), (4, .ptr 0 0 0)])
   (fun _ => [⟨[.pure (cu cuZ)], 7, .live⟩]) (fun j => j ≤ s.curs.length ∧ cuIn (s.curs.drop j) g = cuIn s.curs g) (fun j => s.curs.length - j)
   0 [0] (by simp) rfl ⟨by simp, by simp⟩ (by simp only [kpp,seval]) (by simp only [cuZ, kpp,seval]) ?_
  rintro j ⟨hj, hrj⟩
  unfold c108_2
  simp only [vmp,↓vmd,seval]
  refine onB_dec (fun h3 => ?_) (fun h3 => ?_)
  ·have hltj : j < s.curs.length := by omega
   rw [drop_at hltj, cuIn] at hrj
   have hgj : (s.curs.map cu)[j]? = some (cu s.curs[j]) := map_at hltj
   generalize s.curs[j] = c at hrj hgj
   simp only [h3, hgj, Int.natCast_nonneg, vmp,↓vmd,seval]
   refine onB_dec (fun h4 => ?_) (fun h4 => ?_)
   ·rw [if_pos h4] at hrj
    rw [← hrj] at hr
    simp only at hr
    subst hr
    (first | apply envO | apply envQ); simp only [h4, vmp,↓vmd,seval]; rfl
    simp only [h4, vmp,↓vmd,seval]
    exact gives_tup rfl (by simp)
   ·rw [if_neg h4] at hrj
    (first | apply envO | apply envQ); simp only [h4, vmp,↓vmd,seval]; rfl
    simp only [h4, vmp,↓vmd,seval]
    refine onBk_to (j + 1) [0] (by simp) rfl (by omega) ⟨hltj, hrj⟩ (by simp only [next_at hltj (by omega), kpp,seval]) (by simp only [cuZ, kpp,seval])
  ·rw [List.drop_of_length_le (by omega), cuIn] at hrj
   rw [← hrj] at hr
   simp only [h3, vmp,↓vmd,seval]
   unfold c108_1
   simp only [vmp,↓vmd,seval]
   refine onBk_to (i + 1) [0] (by simp) rfl (by omega) ⟨hlt, hr⟩ (by simp only [next_at hlt (by omega), kpp,seval]) (by simp only [cuZ, kpp,seval])
 ·rw [List.drop_of_length_le (by omega), cuS] at hr
  subst hr
  simp only [h2, vmp,↓vmd,seval]
  unfold c108_0
  simp only [vmp,↓vmd,seval]
  exact gives_tup rfl (by simp)
theorem rfind_q (k : Lk) (g : Int) : FnQ Tryz.prog 96 [lk k, I g] (curR (curF k g)) := by
 refine k96.q (by simp) ?_
 unfold c96
 have ho : curF k g = if k.kind = 8 then cuS k.subs g else none := rfl
 generalize curF k g = out at *
 simp only [vmp,↓vmd,seval]
 refine onB_dec (fun h1 => ?_) (fun h1 => ?_)
 ·rw [if_neg h1] at ho
  subst ho
  (first | apply envO | apply envQ); simp only [h1, vmp,↓vmd,seval]; rfl
  simp only [h1, vmp,↓vmd,seval]
  exact gives_tup rfl (by simp)
 rw [if_pos (Classical.not_not.1 h1)] at ho
 (first | apply envO | apply envQ); simp only [h1, vmp,↓vmd,seval]; rfl
 simp only [h1, vmp,↓vmd,seval]
 refine loop_at (T := Nat) (fun i => [(6, .pure (I (i : Int))), (1, .pure (I g)), (2, .ptr 0 0 0), (4, .ptr 1 0 0)])
  (fun _ => [⟨[.pure (lk k)], 4, .live⟩, ⟨[.pure (cu cuZ)], 7, .live⟩]) (fun i => i ≤ k.subs.length ∧ cuS (k.subs.drop i) g = out) (fun i => k.subs.length - i)
  0 [0, 1] (by simp) rfl ⟨by simp, ho.symm⟩ (by simp only [kpp,seval]) (by simp only [cuZ, kpp,seval]) ?_
 rintro i ⟨hi, hr⟩
 unfold c96_3
 simp only [vmp,↓vmd,seval]
 refine onIf_intro fun _ => ?_
 (first | apply envO | apply envQ); simp only [vmp,↓vmd,seval]; rfl
 simp only [vmp,↓vmd,seval]
 refine onB_dec (fun h2 => ?_) (fun h2 => ?_)
 ·have hlt : i < k.subs.length := by omega
  rw [drop_at hlt, cuS] at hr
  have hgi : (k.subs.map sub)[i]? = some (sub k.subs[i]) := map_at hlt
  generalize k.subs[i] = s at hr hgi
  simp only [h2, vmp,↓vmd,seval]
  refine loop_at (T := Nat) (fun j => [(7, .pure (I (j : Int))), (6, .pure (I (i : Int))), (1, .pure (I g)), (2, .ptr 0 0 0), (4, .ptr 1 0 0)])
   (fun _ => [⟨[.pure (lk k)], 4, .live⟩, ⟨[.pure (cu cuZ)], 7, .live⟩]) (fun j => j ≤ s.curs.length ∧ cuIn (s.curs.drop j) g = cuIn s.curs g) (fun j => s.curs.length - j)
   0 [0, 1] (by simp) rfl ⟨by simp, by simp⟩ (by simp only [kpp,seval]) (by simp only [cuZ, kpp,seval]) ?_
  rintro j ⟨hj, hrj⟩
  unfold c96_2
  simp only [hgi, Int.natCast_nonneg, vmp,↓vmd,seval]
  refine onIf_intro fun _ => ?_
  (first | apply envO | apply envQ); simp only [hgi, Int.natCast_nonneg, vmp,↓vmd,seval]; rfl
  simp only [vmp,↓vmd,seval]
  refine onB_dec (fun h3 => ?_) (fun h3 => ?_)
  ·have hltj : j < s.curs.length := by omega
   rw [drop_at hltj, cuIn] at hrj
   have hgj : (s.curs.map cu)[j]? = some (cu s.curs[j]) := map_at hltj
   generalize s.curs[j] = c at hrj hgj
   simp only [h3, hgi, hgj, Int.natCast_nonneg, vmp,↓vmd,seval]
   refine onB_dec (fun h4 => ?_) (fun h4 => ?_)
   ·rw [if_pos h4] at hrj
    rw [← hrj] at hr
    simp only at hr
    subst hr
    (first | apply envO | apply envQ); simp only [h4, hgi, hgj, Int.natCast_nonneg, vmp,↓vmd,seval]; rfl
    simp only [h4, hgi, hgj, Int.natCast_nonneg, vmp,↓vmd,seval]
    exact gives_tup rfl (by simp)
   ·rw [if_neg h4] at hrj
    (first | apply envO | apply envQ); simp only [h4, vmp,↓vmd,seval]; rfl
    simp only [h4, vmp,↓vmd,seval]
    refine onBk_to (j + 1) [0, 1] (by simp) rfl (by omega) ⟨hltj, hrj⟩ (by simp only [next_at hltj (by omega), kpp,seval]) (by simp only [cuZ, kpp,seval])
  ·rw [List.drop_of_length_le (by omega), cuIn] at hrj
   rw [← hrj] at hr
   simp only [h3, vmp,↓vmd,seval]
   unfold c96_1
   simp only [vmp,↓vmd,seval]
   refine onBk_to (i + 1) [0, 1] (by simp) rfl (by omega) ⟨hlt, hr⟩ (by simp only [next_at hlt (by omega), kpp,seval]) (by simp only [cuZ, kpp,seval])
 ·rw [List.drop_of_length_le (by omega), cuS] at hr
  subst hr
  simp only [h2, vmp,↓vmd,seval]
  unfold c96_0
  simp only [vmp,↓vmd,seval]
  exact gives_tup rfl (by simp)
end Go.Proofs.YtcjmkpkhjhjepaaGreat.W
