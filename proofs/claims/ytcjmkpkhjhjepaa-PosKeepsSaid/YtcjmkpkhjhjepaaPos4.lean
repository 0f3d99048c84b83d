/-
  The machine of positions: steps over all glyphs. No condition but on sizes.
-/
import Derived.Test.YtcjmkpkhjhjepaaPos3
import Derived.Test.YtcjmkpkhjhjepaaPosE
namespace Go.Proofs.Ytcjmkpkhjhjepaa.W
open Go Go.Vm Go.Proofs
set_option maxRecDepth 100000
set_option linter.unusedSimpArgs false
set_option maxHeartbeats 4000000
/-! typecase/pos.begin -/
def c52 : AC :=
 (.seq (.reg [⟨some 1, none, .box (.s 0)⟩,
⟨some 2, none, .mov (.c (.pure .nilp))⟩])
 (.seq (.reg [⟨some 3, none, .load true 6 (.s 1)⟩,
⟨some 4, none, .build [(.pure (.int .i64 0)), .empty, .empty, .empty, .empty, .empty, (.pure (.int .i64 0))] [(0, 6, (.s 3)), (6, 1, (.c (.pure (.int .i64 65536))))]⟩,
⟨some 5, none, .box (.s 4)⟩,
⟨some 2, none, .mov (.s 5)⟩])
 .ret))
theorem k52 : OkF 52 Try.f52 c52 [.t 2] 6 := ⟨Try.func52, by kernel_rfl, by kernel_rfl, by kernel_rfl, Try.ntmps52⟩
/-! (*typecase/pos.machine).pass -/
def c53_0 : AC :=
 (.seq (.reg [⟨some 44, none, .mov (.s 2)⟩,
⟨some 6, none, .mov (.s 44)⟩])
 .ret)
def c53_1 : AC :=
 (.seq (.seq (.reg [⟨some 13, none, .mov (.s 7)⟩,
⟨some 14, none, .mov (.s 2)⟩,
⟨some 15, none, .len (.s 14)⟩,
⟨some 16, none, .bin .lss (.s 13) (.s 15)⟩])
 (.cond (.s 16)
 .skip
 (.exit 0)))
 (.block 1
 (.seq (.seq (.regq [⟨some 17, none, .mov (.s 2)⟩,
⟨some 18, none, .mov (.s 7)⟩,
⟨some 19, none, .idxA 10 (.s 17) (.s 18)⟩,
⟨some 20, none, .fldA 9 (.s 19)⟩,
⟨some 21, none, .load false 1 (.s 20)⟩,
⟨some 22, none, .fldA 1 (.s 4)⟩,
⟨some 23, none, .load false 1 (.s 22)⟩]
[⟨some 24, none, .bin .and (.s 21) (.s 23)⟩,
⟨some 25, none, .bin .neq (.s 24) (.c (.pure (.int .i64 0)))⟩])
 (.cond (.s 25)
 (.seq (.reg [⟨some 27, none, .mov (.s 0)⟩,
⟨some 28, none, .fldA 0 (.s 4)⟩,
⟨some 29, none, .load false 1 (.s 28)⟩,
⟨some 30, none, .mov (.s 2)⟩,
⟨some 31, none, .mov (.s 7)⟩,
⟨some 32, none, .call 74 [(.s 27), (.s 29), (.s 30), (.s 31), (.c (.pure (.int .i64 0)))]⟩,
⟨some 26, none, .mov (.s 32)⟩,
⟨some 33, none, .ext 0 (.s 26)⟩,
⟨some 34, none, .ext 1 (.s 26)⟩,
⟨some 35, none, .ext 2 (.s 26)⟩,
⟨some 8, none, .mov (.s 33)⟩,
⟨some 9, none, .mov (.s 34)⟩,
⟨some 10, none, .mov (.s 35)⟩])
 (.seq (.reg [⟨some 36, none, .mov (.s 10)⟩])
 (.cond (.s 36)
 (.seq (.reg [⟨some 37, none, .mov (.s 8)⟩,
⟨some 38, none, .mov (.s 9)⟩,
⟨some 39, none, .mov (.s 7)⟩,
⟨some 40, none, .bin .add (.s 39) (.c (.pure (.int .i64 1)))⟩,
⟨some 41, none, .mx (.s 38) (.s 40)⟩,
⟨some 2, none, .mov (.s 37)⟩,
⟨some 7, none, .mov (.s 41)⟩])
 (.exit 1))
 .skip)))
 .skip))
 (.reg [⟨some 42, none, .mov (.s 7)⟩,
⟨some 43, none, .bin .add (.s 42) (.c (.pure (.int .i64 1)))⟩,
⟨some 7, none, .mov (.s 43)⟩]))))
def c53 : AC :=
 (.seq (.reg [⟨some 4, none, .box (.s 1)⟩,
⟨some 6, none, .mov (.c .empty)⟩])
 (.seq (.reg [⟨some 11, none, .mov (.s 2)⟩,
⟨some 12, none, .call 36 [(.s 11)]⟩,
⟨some 2, none, .mov (.s 12)⟩])
 (.seq (.seq (.reg [⟨some 7, none, .mov (.c (.pure (.int .i64 0)))⟩])
 (.block 0
 (.loop c53_1)))
 c53_0)))
theorem k53 : OkF 53 Try.f53 c53 [.t 6] 45 := ⟨Try.func53, by kernel_rfl, by kernel_rfl, by kernel_rfl, Try.ntmps53⟩
/-! typecase/pos.All -/
def c30_0 : AC :=
 (.seq (.reg [⟨some 25, none, .mov (.s 2)⟩,
⟨some 6, none, .mov (.s 25)⟩])
 .ret)
def c30_1 : AC :=
 (.seq (.reg [⟨some 17, none, .bin .lss (.s 16) (.s 15)⟩])
 (.seq (.cond (.s 17)
 .skip
 (.exit 0))
 (.seq (.block 1
 (.seq (.reg [⟨some 18, none, .idxA 2 (.s 14) (.s 16)⟩,
⟨some 19, none, .load true 2 (.s 18)⟩,
⟨some 9, none, .box (.c (.pure (.agg [(.int .i64 0), (.int .i64 0)])))⟩,
⟨none, none, .store 2 (.s 9) (.s 19)⟩])
 (.reg [⟨some 20, none, .mov (.s 7)⟩,
⟨some 21, none, .load true 2 (.s 9)⟩,
⟨some 22, none, .mov (.s 2)⟩,
⟨some 23, none, .call 53 [(.s 20), (.s 21), (.s 22)]⟩,
⟨some 2, none, .mov (.s 23)⟩])))
 (.reg [⟨some 24, none, .bin .add (.s 16) (.c (.pure (.int .i64 1)))⟩,
⟨some 16, none, .mov (.s 24)⟩]))))
def c30 : AC :=
 (.seq (.reg [⟨some 3, none, .box (.s 0)⟩,
⟨some 6, none, .mov (.c .empty)⟩])
 (.seq (.reg [⟨some 10, none, .load true 6 (.s 3)⟩,
⟨some 11, none, .call 52 [(.s 10)]⟩,
⟨some 7, none, .mov (.s 11)⟩])
 (.seq (.reg [⟨some 12, none, .mov (.s 2)⟩,
⟨some 13, none, .call 36 [(.s 12)]⟩,
⟨some 2, none, .mov (.s 13)⟩])
 (.seq (.seq (.reg [⟨some 14, none, .mov (.s 1)⟩,
⟨some 15, none, .len (.s 14)⟩,
⟨some 16, none, .mov (.c (.pure (.int .i64 0)))⟩])
 (.block 0
 (.loop c30_1)))
 c30_0))))
theorem k30 : OkF 30 Try.f30 c30 [.t 6] 26 := ⟨Try.func30, by kernel_rfl, by kernel_rfl, by kernel_rfl, Try.ntmps30⟩
theorem begin_c (F : Ff) : CallA Try.prog 52 [.pure (ffV F)] [] fun s H' => s = .ptr 0 0 0 ∧ H' = [mR F 65536] := by
 refine CallA.weak (K := fun s H' => s = .ptr 1 0 0 ∧ H' = [⟨[.pure (ffV F)], 6, .live⟩, mR F 65536]) ?_ ?_
 ·refine k52.a (by simp) ?_
  unfold c52
  simp -implicitDefEqProofs only [vmp,↓vmd,seval]
 ·rintro r H' ⟨rfl, rfl⟩
  exact ⟨[1], _, _, by simp, rfl, (by simp -implicitDefEqProofs only [kpp,seval]), (by simp -implicitDefEqProofs only [kpp,seval]), rfl, rfl⟩
theorem pass_c (F : Ff) (hF : ∀ k ∈ F.lks, PosK k) (t : Stp) (l : List Gl) (hl : l.length ≤ 100) (left : Int) (h0 : 0 ≤ left) (h1 : left ≤ 65536) : CallA Try.prog 53 [.ptr 0 0 0, .pure (stp t), .pure (.sl (l.map gl))] [mR F left]
  fun s H' => s = .pure (.sl ((passF F t.k t.m l.length l 0 left).1.map gl)) ∧ H' = [mR F (passF F t.k t.m l.length l 0 left).2] := by
 refine CallA.weak (K := fun s H' => s = .pure (.sl ((passF F t.k t.m l.length l 0 left).1.map gl)) ∧ ∃ R, H' = mR F (passF F t.k t.m l.length l 0 left).2 :: R) ?_ ?_
 ·refine k53.a (by simp) ?_
  unfold c53
  generalize ho : passF F t.k t.m l.length l 0 left = out at *
  simp -implicitDefEqProofs only [vmp,↓vmd,seval]
  refine onC_q (cloneG_q l (by omega)) rfl ?_
  (first | apply envO | apply envQ); simp -implicitDefEqProofs only [vmp,↓vmd,seval]; rfl
  simp -implicitDefEqProofs only [vmp,↓vmd,seval]
  refine loop_at (T := Nat × Int × List Gl × Int) (fun z => [(7, .pure (I z.2.1)), (2, .pure (.sl (z.2.2.1.map gl))), (0, .ptr 0 0 0), (4, .ptr 1 0 0)])
   (fun z => [mR F z.2.2.2, ⟨[.pure (stp t)], 2, .live⟩]) (fun z => 0 ≤ z.2.1 ∧ z.2.2.1.length ≤ 100 ∧ (z.2.2.1.length : Int) - z.2.1 ≤ z.1 ∧ 0 ≤ z.2.2.2 ∧ z.2.2.2 ≤ 65536 ∧ passF F t.k t.m z.1 z.2.2.1 z.2.1 z.2.2.2 = out) (fun z => z.1)
   (l.length, 0, l, left) [0, 1] (by simp) rfl ⟨Int.le_refl _, hl, by simp, h0, h1, ho⟩ (by simp -implicitDefEqProofs only [kpp,seval]) (by simp -implicitDefEqProofs only [kpp,seval]) ?_
  rintro ⟨n, x, ls, u⟩ ⟨hx, hll, hn, hu0, hu1, hr⟩
  simp only at hx hll hn hu0 hu1 hr
  unfold c53_1
  simp -implicitDefEqProofs only [vmp,↓vmd,seval]
  refine onIf_intro fun _ => ?_
  (first | apply envO | apply envQ); simp -implicitDefEqProofs only [vmp,↓vmd,seval]; rfl
  simp -implicitDefEqProofs only [vmp,↓vmd,seval]
  refine onB_dec (fun b1 => ?_) (fun b1 => ?_)
  ·obtain ⟨n, rfl⟩ : ∃ m, n = m + 1 := ⟨n - 1, by omega⟩
   have hgx := glAt_map (ls := ls) (y := x) hx b1
   have hw : IntKind.wrap .i64 (x + 1) = x + 1 := wrap_id (by omega) (by omega)
   rw [passF, if_neg (by omega)] at hr
   simp -implicitDefEqProofs only [b1, hgx, hx, vmp,↓vmd,seval]
   refine onB_dec (fun b2 => ?_) (fun b2 => ?_)
   ·have b2' : ¬ andE (glAt ls x).mask t.m = 0 := b2
    rw [if_neg b2'] at hr
    have hc := once_c F hF 9 t.k ls x u 0 hll hu0 hu1 (by omega) (by omega)
    have P := onceF_p F 9
    have hle := P.le t.k ls x u hu0
    have hco := P.core t.k ls x u
    generalize onceF F 9 t.k ls x u = o at *
    obtain ⟨r, u'⟩ := o
    (first | apply envO | apply envQ); simp -implicitDefEqProofs only [b2, vmp,↓vmd,seval]; rfl
    simp -implicitDefEqProofs only [b2, vmp,↓vmd,seval]
    refine onC_fr hc [0] (by simp) (by simp -implicitDefEqProofs only [kpp,seval]) rfl rfl (by simp) ?_
    cases r with
    | none =>
     simp only at hr hle
     (first | apply envO | apply envQ); simp -implicitDefEqProofs only [onceS, vmp,↓vmd,seval]; rfl
     simp -implicitDefEqProofs only [onceS, vmp,↓vmd,seval]
     refine onBk_to (n, x + 1, ls, u') [0, 1] (by simp) rfl (by simp) ⟨by simp only; omega, hll, by simp only; omega, hle.1, by simp only; omega, hr⟩ (by simp -implicitDefEqProofs only [hw, kpp,seval]) (by simp -implicitDefEqProofs only [kpp,seval])
    | some q =>
     have hlen := coreL_len (hco q rfl)
     simp only at hr hle
     have hmx : (if x + 1 > q.2 then x + 1 else q.2) = max q.2 (x + 1) := by split <;> omega
     (first | apply envO | apply envQ); simp -implicitDefEqProofs only [onceS, vmp,↓vmd,seval]; rfl
     simp -implicitDefEqProofs only [onceS, hw, vmp,↓vmd,seval]
     refine onBk_to (n, max q.2 (x + 1), q.1, u') [0, 1] (by simp) rfl (by simp) ⟨by simp only; omega, by simp only; omega, by simp only; omega, hle.1, by simp only; omega, hr⟩ (by simp -implicitDefEqProofs only [hw, hmx, kpp,seval]) (by simp -implicitDefEqProofs only [kpp,seval])
   ·have b2' : andE (glAt ls x).mask t.m = 0 := Classical.not_not.1 b2
    rw [if_pos b2'] at hr
    have h2n : IntKind.wrap .i64 ↑(BitVec.ofInt IntKind.i64.bits (glAt ls x).mask &&& BitVec.ofInt IntKind.i64.bits t.m).toNat = 0 := b2'
    (first | apply envO | apply envQ); simp -implicitDefEqProofs only [h2n, not_true, vmp,↓vmd,seval]; rfl
    simp -implicitDefEqProofs only [h2n, not_true, vmp,↓vmd,seval]
    refine onBk_to (n, x + 1, ls, u) [0, 1] (by simp) rfl (by simp) ⟨by simp only; omega, hll, by simp only; omega, hu0, hu1, hr⟩ (by simp -implicitDefEqProofs only [hw, kpp,seval]) (by simp -implicitDefEqProofs only [kpp,seval])
  ·rw [passF_end (by omega)] at hr
   subst hr
   simp -implicitDefEqProofs only [b1, vmp,↓vmd,seval]
   unfold c53_0
   simp -implicitDefEqProofs only [vmp,↓vmd,seval]
   first | exact ⟨_, rfl⟩ | exact ⟨rfl, _, rfl⟩
 ·rintro r H' ⟨rfl, R, rfl⟩
  exact ⟨[0], _, _, by simp, rfl, (by simp -implicitDefEqProofs only [kpp,seval]), (by simp -implicitDefEqProofs only [kpp,seval]), rfl, rfl⟩
theorem pall_q (F : Ff) (hF : ∀ k ∈ F.lks, PosK k) (ts : List Stp) (l : List Gl) (hl : l.length ≤ 100) : FnQ Try.prog 30 [ffV F, .sl (ts.map stp), .sl (l.map gl)] [.sl ((allP F ts l 65536).1.map gl)] := by
 refine k30.q (by simp) ?_
 unfold c30
 generalize ho : allP F ts l 65536 = out at *
 simp -implicitDefEqProofs only [vmp,↓vmd,seval]
 refine onC_fr (begin_c F) [] (by simp) trivial rfl rfl (by simp) ?_
 (first | apply envO | apply envQ); simp -implicitDefEqProofs only [vmp,↓vmd,seval]; rfl
 simp -implicitDefEqProofs only [vmp,↓vmd,seval]
 refine onC_q (cloneG_q l (by omega)) rfl ?_
 (first | apply envO | apply envQ); simp -implicitDefEqProofs only [vmp,↓vmd,seval]; rfl
 simp -implicitDefEqProofs only [vmp,↓vmd,seval]
 refine onIf_intro fun _ => ?_
 (first | apply envO | apply envQ); simp -implicitDefEqProofs only [vmp,↓vmd,seval]; rfl
 simp -implicitDefEqProofs only [vmp,↓vmd,seval]
 refine loop_at (T := Nat × List Gl × Int) (fun z => [(16, .pure (I (z.1 : Int))), (15, .pure (I ts.length)), (14, .pure (.sl (ts.map stp))), (7, .ptr 0 0 0), (2, .pure (.sl (z.2.1.map gl)))])
  (fun z => [mR F z.2.2]) (fun z => z.1 ≤ ts.length ∧ z.2.1.length ≤ 100 ∧ 0 ≤ z.2.2 ∧ z.2.2 ≤ 65536 ∧ allP F (ts.drop z.1) z.2.1 z.2.2 = out) (fun z => ts.length - z.1)
  (0, l, 65536) [1] (by simp) rfl ⟨by simp, hl, by simp, by simp, by simpa using ho⟩ (by simp -implicitDefEqProofs only [kpp,seval]) (by simp -implicitDefEqProofs only [kpp,seval]) ?_
 rintro ⟨i, ls, u⟩ ⟨hi, hll, hu0, hu1, hr⟩
 simp only at hi hll hu0 hu1 hr
 unfold c30_1
 simp -implicitDefEqProofs only [vmp,↓vmd,seval]
 refine onB_dec (fun b1 => ?_) (fun b1 => ?_)
 ·have hlt : i < ts.length := by omega
  rw [drop_at hlt, allP] at hr
  have hgi : (ts.map stp)[i]? = some (stp ts[i]) := map_at hlt
  generalize ts[i] = t at *
  have hc := pass_c F hF t ls hll u hu0 hu1
  obtain ⟨p1, p2, p3, _⟩ := passF_p F t.k t.m ls.length ls 0 u hu0
  have hlen := coreL_len p1
  generalize passF F t.k t.m ls.length ls 0 u = z at *
  obtain ⟨z1, z2⟩ := z
  simp only at p2 p3 hlen hr
  simp -implicitDefEqProofs only [b1, hgi, Int.natCast_nonneg, vmp,↓vmd,seval]
  refine onC_fr hc [0] (by simp) (by simp -implicitDefEqProofs only [kpp,seval]) rfl rfl (by simp) ?_
  (first | apply envO | apply envQ); simp -implicitDefEqProofs only [vmp,↓vmd,seval]; rfl
  simp -implicitDefEqProofs only [vmp,↓vmd,seval]
  refine onBk_to (i + 1, z1, z2) [0] (by simp) rfl (by simp only; omega) ⟨hlt, by simp only; omega, p2, by simp only; omega, hr⟩ (by simp -implicitDefEqProofs only [next_at hlt (by omega), kpp,seval]) (by simp -implicitDefEqProofs only [kpp,seval])
 ·rw [List.drop_of_length_le (by omega), allP] at hr
  subst hr
  simp -implicitDefEqProofs only [b1, vmp,↓vmd,seval]
  unfold c30_0
  simp -implicitDefEqProofs only [vmp,↓vmd,seval]
  exact gives_pure
end Go.Proofs.Ytcjmkpkhjhjepaa.W
