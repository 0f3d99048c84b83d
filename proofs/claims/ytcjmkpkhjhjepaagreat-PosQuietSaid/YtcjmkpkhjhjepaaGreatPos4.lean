/-
  The machine of positions: steps over all glyphs. No condition but on sizes.
-/
import Derived.Test.YtcjmkpkhjhjepaaGreatPos3
import Derived.Test.YtcjmkpkhjhjepaaGreatPosE
namespace Go.Proofs.YtcjmkpkhjhjepaaGreat.W
open Go Go.Vm Go.Proofs
set_option maxRecDepth 100000
set_option linter.unusedSimpArgs false
set_option maxHeartbeats 4000000
/-! typecase/pos.begin -/
def c19 : AC :=
 (.seq (.reg [oo 1 (.box (.s 0)),
 oo 2 (.mov (.c (.pure .nilp)))])
 (.seq (.reg [oo 3 (.load true 6 (.s 1)),
 oo 4 (.build [(pI 0), .empty, .empty, .empty, .empty, .empty, (pI 0)] [(0, 6, (.s 3)), (6, 1, (nI 65536))]),
 oo 5 (.box (.s 4)),
 oo 2 (.mov (.s 5))])
 .ret))
theorem k19 : OkF 19 Tryz.f19 c19 [.t 2] 6 := ⟨Tryz.func19, by kernel_rfl, by kernel_rfl, by kernel_rfl, Tryz.ntmps19⟩
/-! (*typecase/pos.machine).pass -/
def c22_0 : AC :=
 (.seq (.reg [oo 44 (.mov (.s 2)),
 oo 6 (.mov (.s 44))])
 .ret)
def c22_1 : AC :=
 (.seq (.seq (.reg [oo 13 (.mov (.s 7)),
 oo 14 (.mov (.s 2)),
 oo 15 (.len (.s 14)),
 oo 16 (.bin .lss (.s 13) (.s 15))])
 (.cond (.s 16)
 .skip
 (.exit 0)))
 (.block 1
 (.seq (.seq (.regq [oo 17 (.mov (.s 2)),
 oo 18 (.mov (.s 7)),
 oo 19 (.idxA 10 (.s 17) (.s 18)),
 oo 20 (.fldA 9 (.s 19)),
 oo 21 (.load false 1 (.s 20)),
 oo 22 (.fldA 1 (.s 4)),
 oo 23 (.load false 1 (.s 22))]
[oo 24 (.bin .and (.s 21) (.s 23)),
 oo 25 (.bin .neq (.s 24) (nI 0))])
 (.cond (.s 25)
 (.seq (.reg [oo 27 (.mov (.s 0)),
 oo 28 (.fldA 0 (.s 4)),
 oo 29 (.load false 1 (.s 28)),
 oo 30 (.mov (.s 2)),
 oo 31 (.mov (.s 7)),
 oo 32 (.call 20 [(.s 27), (.s 29), (.s 30), (.s 31), (nI 0)]),
 oo 26 (.mov (.s 32)),
 oo 33 (.ext 0 (.s 26)),
 oo 34 (.ext 1 (.s 26)),
 oo 35 (.ext 2 (.s 26)),
 oo 8 (.mov (.s 33)),
 oo 9 (.mov (.s 34)),
 oo 10 (.mov (.s 35))])
 (.seq (.reg [oo 36 (.mov (.s 10))])
 (.cond (.s 36)
 (.seq (.reg [oo 37 (.mov (.s 8)),
 oo 38 (.mov (.s 9)),
 oo 39 (.mov (.s 7)),
 oo 40 (.bin .add (.s 39) (nI 1)),
 oo 41 (.mx (.s 38) (.s 40)),
 oo 2 (.mov (.s 37)),
 oo 7 (.mov (.s 41))])
 (.exit 1))
 .skip)))
 .skip))
 (.reg [oo 42 (.mov (.s 7)),
 oo 43 (.bin .add (.s 42) (nI 1)),
 oo 7 (.mov (.s 43))]))))
def c22 : AC :=
 (.seq (.reg [oo 4 (.box (.s 1)),
 oo 6 (.mov (.c .empty))])
 (.seq (.reg [oo 11 (.mov (.s 2)),
 oo 12 (.call 24 [(.s 11)]),
 oo 2 (.mov (.s 12))])
 (.seq (.seq (.reg [oo 7 (.mov (nI 0))])
 (.block 0
 (.loop c22_1)))
 c22_0)))
theorem k22 : OkF 22 Tryz.f22 c22 [.t 6] 45 := ⟨Tryz.func22, by kernel_rfl, by kernel_rfl, by kernel_rfl, Tryz.ntmps22⟩
/-! typecase/pos.All -/
def c13_0 : AC :=
 (.seq (.reg [oo 25 (.mov (.s 2)),
 oo 6 (.mov (.s 25))])
 .ret)
def c13_1 : AC :=
 (.seq (.reg [oo 17 (.bin .lss (.s 16) (.s 15))])
 (.seq (.cond (.s 17)
 .skip
 (.exit 0))
 (.seq (.block 1
 (.seq (.reg [oo 18 (.idxA 2 (.s 14) (.s 16)),
 oo 19 (.load true 2 (.s 18)),
 oo 9 (.box (.c (.pure (.agg [(.int .i64 0), (.int .i64 0)])))),
⟨none, none, .store 2 (.s 9) (.s 19)⟩])
 (.reg [oo 20 (.mov (.s 7)),
 oo 21 (.load true 2 (.s 9)),
 oo 22 (.mov (.s 2)),
 oo 23 (.call 22 [(.s 20), (.s 21), (.s 22)]),
 oo 2 (.mov (.s 23))])))
 (.reg [oo 24 (.bin .add (.s 16) (nI 1)),
 oo 16 (.mov (.s 24))]))))
def c13 : AC :=
 (.seq (.reg [oo 3 (.box (.s 0)),
 oo 6 (.mov (.c .empty))])
 (.seq (.reg [oo 10 (.load true 6 (.s 3)),
 oo 11 (.call 19 [(.s 10)]),
 oo 7 (.mov (.s 11))])
 (.seq (.reg [oo 12 (.mov (.s 2)),
 oo 13 (.call 24 [(.s 12)]),
 oo 2 (.mov (.s 13))])
 (.seq (.seq (.reg [oo 14 (.mov (.s 1)),
 oo 15 (.len (.s 14)),
 oo 16 (.mov (nI 0))])
 (.block 0
 (.loop c13_1)))
 c13_0))))
theorem k13 : OkF 13 Tryz.f13 c13 [.t 6] 26 := ⟨Tryz.func13, by kernel_rfl, by kernel_rfl, by kernel_rfl, Tryz.ntmps13⟩
theorem begin_c (F : Ff) : CallA Tryz.prog 19 [.pure (ffV F)] [] fun s H' => s = .ptr 0 0 0 ∧ H' = [mR F 65536] := by
 refine CallA.weak (K := fun s H' => s = .ptr 1 0 0 ∧ H' = [⟨[.pure (ffV F)], 6, .live⟩, mR F 65536]) ?_ ?_
 ·refine k19.a (by simp) ?_
  unfold c19
  simp only [vmp,↓vmd,seval]
 ·rintro r H' ⟨rfl, rfl⟩
  exact ⟨[1], _, _, by simp, rfl, (by simp only [kpp,seval]), (by simp only [kpp,seval]), rfl, rfl⟩
theorem pass_c (F : Ff) (hF : ∀ k ∈ F.lks, PosK k) (t : Stp) (l : List Gl) (hl : l.length ≤ 100) (left : Int) (h0 : 0 ≤ left) (h1 : left ≤ 65536) : CallA Tryz.prog 22 [.ptr 0 0 0, .pure (stp t), .pure (.sl (l.map gl))] [mR F left]
  fun s H' => s = .pure (.sl ((passF F t.k t.m l.length l 0 left).1.map gl)) ∧ H' = [mR F (passF F t.k t.m l.length l 0 left).2] := by
 refine CallA.weak (K := fun s H' => s = .pure (.sl ((passF F t.k t.m l.length l 0 left).1.map gl)) ∧ ∃ R, H' = mR F (passF F t.k t.m l.length l 0 left).2 :: R) ?_ ?_
 ·refine k22.a (by simp) ?_
  unfold c22
  generalize ho : passF F t.k t.m l.length l 0 left = out at *
  simp only [vmp,↓vmd,seval]
  refine onC_q (cloneG_q l (by omega)) rfl ?_
  (first | apply envO | apply envQ); simp only [vmp,↓vmd,seval]; rfl
  simp only [vmp,↓vmd,seval]
  refine loop_at (T := Nat × Int × List Gl × Int) (fun z => [(7, .pure (I z.2.1)), (2, .pure (.sl (z.2.2.1.map gl))), (0, .ptr 0 0 0), (4, .ptr 1 0 0)])
   (fun z => [mR F z.2.2.2, ⟨[.pure (stp t)], 2, .live⟩]) (fun z => 0 ≤ z.2.1 ∧ z.2.2.1.length ≤ 100 ∧ (z.2.2.1.length : Int) - z.2.1 ≤ z.1 ∧ 0 ≤ z.2.2.2 ∧ z.2.2.2 ≤ 65536 ∧ passF F t.k t.m z.1 z.2.2.1 z.2.1 z.2.2.2 = out) (fun z => z.1)
   (l.length, 0, l, left) [0, 1] (by simp) rfl ⟨Int.le_refl _, hl, by simp, h0, h1, ho⟩ (by simp only [kpp,seval]) (by simp only [kpp,seval]) ?_
  rintro ⟨n, x, ls, u⟩ ⟨hx, hll, hn, hu0, hu1, hr⟩
  simp only at hx hll hn hu0 hu1 hr
  unfold c22_1
  simp only [vmp,↓vmd,seval]
  refine onIf_intro fun _ => ?_
  (first | apply envO | apply envQ); simp only [vmp,↓vmd,seval]; rfl
  simp only [vmp,↓vmd,seval]
  refine onB_dec (fun b1 => ?_) (fun b1 => ?_)
  ·obtain ⟨n, rfl⟩ : ∃ m, n = m + 1 := ⟨n - 1, by omega⟩
   have hgx := glAt_map (ls := ls) (y := x) hx b1
   have hw : IntKind.wrap .i64 (x + 1) = x + 1 := wrap_id (by omega) (by omega)
   rw [passF, if_neg (by omega)] at hr
   simp only [b1, hgx, hx, vmp,↓vmd,seval]
   refine onB_dec (fun b2 => ?_) (fun b2 => ?_)
   ·have b2' : ¬ andE (glAt ls x).mask t.m = 0 := b2
    rw [if_neg b2'] at hr
    have hc := once_c F hF 9 t.k ls x u 0 hll hu0 hu1 (by omega) (by omega)
    have P := onceF_p F 9
    have hle := P.le t.k ls x u hu0
    have hco := P.core t.k ls x u
    generalize onceF F 9 t.k ls x u = o at *
    obtain ⟨r, u'⟩ := o
    (first | apply envO | apply envQ); simp only [b2, vmp,↓vmd,seval]; rfl
    simp only [b2, vmp,↓vmd,seval]
    refine onC_fr hc [0] (by simp) (by simp only [kpp,seval]) rfl rfl (by simp) ?_
    cases r with
    | none =>
     simp only at hr hle
     (first | apply envO | apply envQ); simp only [onceS, vmp,↓vmd,seval]; rfl
     simp only [onceS, vmp,↓vmd,seval]
     refine onBk_to (n, x + 1, ls, u') [0, 1] (by simp) rfl (by simp) ⟨by simp only; omega, hll, by simp only; omega, hle.1, by simp only; omega, hr⟩ (by simp only [hw, kpp,seval]) (by simp only [kpp,seval])
    | some q =>
     have hlen := coreL_len (hco q rfl)
     simp only at hr hle
     have hmx : (if x + 1 > q.2 then x + 1 else q.2) = max q.2 (x + 1) := by split <;> omega
     (first | apply envO | apply envQ); simp only [onceS, vmp,↓vmd,seval]; rfl
     simp only [onceS, hw, vmp,↓vmd,seval]
     refine onBk_to (n, max q.2 (x + 1), q.1, u') [0, 1] (by simp) rfl (by simp) ⟨by simp only; omega, by simp only; omega, by simp only; omega, hle.1, by simp only; omega, hr⟩ (by simp only [hw, hmx, kpp,seval]) (by simp only [kpp,seval])
   ·have b2' : andE (glAt ls x).mask t.m = 0 := Classical.not_not.1 b2
    rw [if_pos b2'] at hr
    have h2n : IntKind.wrap .i64 ↑(BitVec.ofInt IntKind.i64.bits (glAt ls x).mask &&& BitVec.ofInt IntKind.i64.bits t.m).toNat = 0 := b2'
    (first | apply envO | apply envQ); simp only [h2n, not_true, vmp,↓vmd,seval]; rfl
    simp only [h2n, not_true, vmp,↓vmd,seval]
    refine onBk_to (n, x + 1, ls, u) [0, 1] (by simp) rfl (by simp) ⟨by simp only; omega, hll, by simp only; omega, hu0, hu1, hr⟩ (by simp only [hw, kpp,seval]) (by simp only [kpp,seval])
  ·rw [passF_end (by omega)] at hr
   subst hr
   simp only [b1, vmp,↓vmd,seval]
   unfold c22_0
   simp only [vmp,↓vmd,seval]
   first | exact ⟨_, rfl⟩ | exact ⟨rfl, _, rfl⟩
 ·rintro r H' ⟨rfl, R, rfl⟩
  exact ⟨[0], _, _, by simp, rfl, (by simp only [kpp,seval]), (by simp only [kpp,seval]), rfl, rfl⟩
theorem pall_q (F : Ff) (hF : ∀ k ∈ F.lks, PosK k) (ts : List Stp) (l : List Gl) (hl : l.length ≤ 100) : FnQ Tryz.prog 13 [ffV F, .sl (ts.map stp), .sl (l.map gl)] [.sl ((allP F ts l 65536).1.map gl)] := by
 refine k13.q (by simp) ?_
 unfold c13
 generalize ho : allP F ts l 65536 = out at *
 simp only [vmp,↓vmd,seval]
 refine onC_fr (begin_c F) [] (by simp) trivial rfl rfl (by simp) ?_
 (first | apply envO | apply envQ); simp only [vmp,↓vmd,seval]; rfl
 simp only [vmp,↓vmd,seval]
 refine onC_q (cloneG_q l (by omega)) rfl ?_
 (first | apply envO | apply envQ); simp only [vmp,↓vmd,seval]; rfl
 simp only [vmp,↓vmd,seval]
 refine onIf_intro fun _ => ?_
 (first | apply envO | apply envQ); simp only [vmp,↓vmd,seval]; rfl
 simp only [vmp,↓vmd,seval]
 refine loop_at (T := Nat × List Gl × Int) (fun z => [(16, .pure (I (z.1 : Int))), (15, .pure (I ts.length)), (14, .pure (.sl (ts.map stp))), (7, .ptr 0 0 0), (2, .pure (.sl (z.2.1.map gl)))])
  (fun z => [mR F z.2.2]) (fun z => z.1 ≤ ts.length ∧ z.2.1.length ≤ 100 ∧ 0 ≤ z.2.2 ∧ z.2.2 ≤ 65536 ∧ allP F (ts.drop z.1) z.2.1 z.2.2 = out) (fun z => ts.length - z.1)
  (0, l, 65536) [1] (by simp) rfl ⟨by simp, hl, by simp, by simp, by simpa using ho⟩ (by simp only [kpp,seval]) (by simp only [kpp,seval]) ?_
 rintro ⟨i, ls, u⟩ ⟨hi, hll, hu0, hu1, hr⟩
 simp only at hi hll hu0 hu1 hr
 unfold c13_1
 simp only [vmp,↓vmd,seval]
 refine onB_dec (fun b1 => ?_) (fun b1 => ?_)
 ·have hlt : i < ts.length := by omega
  rw [drop_at hlt, allP] at hr
  have hgi : (ts.map stp)[i]? = some (stp ts[i]) := map_at hlt
  generalize ts[i] = t at *
  have hc := pass_c F hF t ls hll u hu0 hu1
  obtain ⟨p1, p2, p3, _⟩ := passF_p F t.k t.m ls.length ls 0 u hu0
  have hlen := coreL_len p1
  generalize passF F t.k t.m ls.length ls 0 u = z at *
  obtain ⟨z1, z2⟩ := z
  simp only at p2 p3 hlen hr
  simp only [b1, hgi, Int.natCast_nonneg, vmp,↓vmd,seval]
  refine onC_fr hc [0] (by simp) (by simp only [kpp,seval]) rfl rfl (by simp) ?_
  (first | apply envO | apply envQ); simp only [vmp,↓vmd,seval]; rfl
  simp only [vmp,↓vmd,seval]
  refine onBk_to (i + 1, z1, z2) [0] (by simp) rfl (by simp only; omega) ⟨hlt, by simp only; omega, p2, by simp only; omega, hr⟩ (by simp only [next_at hlt (by omega), kpp,seval]) (by simp only [kpp,seval])
 ·rw [List.drop_of_length_le (by omega), allP] at hr
  subst hr
  simp only [b1, vmp,↓vmd,seval]
  unfold c13_0
  simp only [vmp,↓vmd,seval]
  exact gives_pure
end Go.Proofs.YtcjmkpkhjhjepaaGreat.W
