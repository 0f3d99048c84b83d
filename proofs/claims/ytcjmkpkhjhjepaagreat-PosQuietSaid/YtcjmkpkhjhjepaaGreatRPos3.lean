/-
  The document's machine of positions: steps over all glyphs. No condition but on sizes.
-/
import Derived.Test.YtcjmkpkhjhjepaaGreatRPos2
import Derived.Test.YtcjmkpkhjhjepaaGreatPosE
namespace Go.Proofs.YtcjmkpkhjhjepaaGreat.W
open Go Go.Vm Go.Proofs
set_option maxRecDepth 100000
set_option linter.unusedSimpArgs false
set_option maxHeartbeats 4000000
/-! typecase/typecaseref35.step -/
def c23_0 : AC :=
 (.seq (.reg [oo 46 (.mov (.s 3)),
 oo 47 (.mov (.s 4)),
 oo 10 (.mov (.s 46)),
 oo 11 (.mov (.s 47))])
 .ret)
def c23_1 : AC :=
 (.seq (.seq (.reg [oo 15 (.mov (.s 12)),
 oo 16 (.mov (.s 3)),
 oo 17 (.len (.s 16)),
 oo 18 (.bin .lss (.s 15) (.s 17))])
 (.cond (.s 18)
 .skip
 (.exit 0)))
 (.block 1
 (.seq (.reg [oo 19 (.mov (.s 12)),
 oo 20 (.bin .add (.s 19) (nI 1)),
 oo 13 (.mov (.s 20))])
 (.seq (.seq (.reg [oo 21 (.mov (.s 3)),
 oo 22 (.mov (.s 12)),
 oo 23 (.idxA 10 (.s 21) (.s 22)),
 oo 24 (.fldA 9 (.s 23)),
 oo 25 (.load false 1 (.s 24)),
 oo 26 (.mov (.s 2)),
 oo 27 (.bin .and (.s 25) (.s 26)),
 oo 28 (.bin .neq (.s 27) (nI 0))])
 (.cond (.s 28)
 (.seq (.reg [oo 29 (.load true 6 (.s 5)),
 oo 30 (.mov (.s 1)),
 oo 31 (.mov (.s 3)),
 oo 32 (.mov (.s 12)),
 oo 33 (.mov (.s 4)),
 oo 34 (.call 21 [(.s 29), (.s 30), (.s 31), (.s 32), (.s 33), (nI 0)]),
 oo 14 (.box (.c (.agg [.empty, (pI 0), (.pure (.bool false)), (pI 0)]))),
⟨none, none, .store 4 (.s 14) (.s 34)⟩])
 (.seq (.reg [oo 35 (.fldA 3 (.s 14)),
 oo 36 (.load false 1 (.s 35)),
 oo 4 (.mov (.s 36))])
 (.seq (.reg [oo 37 (.fldA 2 (.s 14)),
 oo 38 (.load false 1 (.s 37))])
 (.cond (.s 38)
 (.seq (.reg [oo 39 (.fldA 0 (.s 14)),
 oo 40 (.load false 1 (.s 39)),
 oo 3 (.mov (.s 40))])
 (.reg [oo 41 (.mov (.s 13)),
 oo 42 (.fldA 1 (.s 14)),
 oo 43 (.load false 1 (.s 42)),
 oo 44 (.mx (.s 41) (.s 43)),
 oo 13 (.mov (.s 44))]))
 .skip))))
 .skip))
 (.reg [oo 45 (.mov (.s 13)),
 oo 12 (.mov (.s 45))])))))
def c23 : AC :=
 (.seq (.reg [oo 5 (.box (.s 0)),
 oo 10 (.mov (.c .empty)),
 oo 11 (.mov (nI 0))])
 (.seq (.seq (.reg [oo 12 (.mov (nI 0))])
 (.block 0
 (.loop c23_1)))
 c23_0))
theorem k23 : OkF 23 Tryz.f23 c23 [.t 10, .t 11] 48 := ⟨Tryz.func23, by kernel_rfl, by kernel_rfl, by kernel_rfl, Tryz.ntmps23⟩
/-! typecase/typecaseref35.All -/
def c12_0 : AC :=
 (.seq (.reg [oo 32 (.mov (.s 2)),
 oo 6 (.mov (.s 32))])
 .ret)
def c12_1 : AC :=
 (.seq (.seq (.reg [oo 9 (.mov (.s 8)),
 oo 10 (.mov (.s 1)),
 oo 11 (.len (.s 10)),
 oo 12 (.bin .lss (.s 9) (.s 11))])
 (.cond (.s 12)
 .skip
 (.exit 0)))
 (.seq (.block 1
 (.regd [oo 16 (.load true 6 (.s 3)),
 oo 17 (.mov (.s 1)),
 oo 18 (.mov (.s 8)),
 oo 19 (.idxA 2 (.s 17) (.s 18)),
 oo 20 (.fldA 0 (.s 19)),
 oo 21 (.load false 1 (.s 20)),
 oo 22 (.mov (.s 1)),
 oo 23 (.mov (.s 8)),
 oo 24 (.idxA 2 (.s 22) (.s 23)),
 oo 25 (.fldA 1 (.s 24)),
 oo 26 (.load false 1 (.s 25)),
 oo 27 (.mov (.s 2)),
 oo 28 (.mov (.s 7))]
[oo 29 (.call 23 [(.s 16), (.s 21), (.s 26), (.s 27), (.s 28)])]
[oo 15 (.mov (.s 29)),
 oo 30 (.ext 0 (.s 15)),
 oo 31 (.ext 1 (.s 15)),
 oo 2 (.mov (.s 30))]
[oo 7 (.mov (.s 31))]))
 (.reg [oo 13 (.mov (.s 8)),
 oo 14 (.bin .add (.s 13) (nI 1)),
 oo 8 (.mov (.s 14))])))
def c12 : AC :=
 (.seq (.reg [oo 3 (.box (.s 0)),
 oo 6 (.mov (.c .empty))])
 (.seq (.reg [oo 7 (.mov (nI 65536))])
 (.seq (.seq (.reg [oo 8 (.mov (nI 0))])
 (.block 0
 (.loop c12_1)))
 c12_0)))
theorem rstep_q (F : Ff) (hF : ∀ k ∈ F.lks, PosK k) (t : Stp) (l : List Gl) (hl : l.length ≤ 100) (left : Int) (h0 : 0 ≤ left) (h1 : left ≤ 65536) : FnQ Tryz.prog 23 [ffV F, I t.k, I t.m, .sl (l.map gl), I left]
  [.sl ((passF F t.k t.m l.length l 0 left).1.map gl), I (passF F t.k t.m l.length l 0 left).2] := by
 refine k23.q (by simp) ?_
 unfold c23
 generalize ho : passF F t.k t.m l.length l 0 left = out at *
 simp only [vmp,↓vmd,seval]
 refine loop_at (T := Nat × Int × List Gl × Int) (fun z => [(12, .pure (I z.2.1)), (3, .pure (.sl (z.2.2.1.map gl))), (4, .pure (I z.2.2.2)), (1, .pure (I t.k)), (2, .pure (I t.m)), (5, .ptr 0 0 0)])
  (fun _ => [⟨[.pure (ffV F)], 6, .live⟩]) (fun z => 0 ≤ z.2.1 ∧ z.2.2.1.length ≤ 100 ∧ (z.2.2.1.length : Int) - z.2.1 ≤ z.1 ∧ 0 ≤ z.2.2.2 ∧ z.2.2.2 ≤ 65536 ∧ passF F t.k t.m z.1 z.2.2.1 z.2.1 z.2.2.2 = out) (fun z => z.1)
  (l.length, 0, l, left) [0] (by simp) rfl ⟨Int.le_refl _, hl, by simp, h0, h1, ho⟩ (by simp only [kpp,seval]) (by simp only [kpp,seval]) ?_
 rintro ⟨n, x, ls, u⟩ ⟨hx, hll, hn, hu0, hu1, hr⟩
 simp only at hx hll hn hu0 hu1 hr
 unfold c23_1
 simp only [vmp,↓vmd,seval]
 refine onIf_intro fun _ => ?_
 (first | apply envO | apply envQ); simp only [vmp,↓vmd,seval]; rfl
 simp only [vmp,↓vmd,seval]
 refine onB_dec (fun b1 => ?_) (fun b1 => ?_)
 ·obtain ⟨n, rfl⟩ : ∃ m, n = m + 1 := ⟨n - 1, by omega⟩
  have hgx := glAt_map (ls := ls) (y := x) hx b1
  have hw : IntKind.wrap .i64 (x + 1) = x + 1 := wrap_id (by omega) (by omega)
  rw [passF, if_neg (by omega)] at hr
  simp only [b1, hgx, hx, hw, vmp,↓vmd,seval]
  refine onB_dec (fun b2 => ?_) (fun b2 => ?_)
  ·have b2' : ¬ andE (glAt ls x).mask t.m = 0 := b2
   rw [if_neg b2'] at hr
   have hq := doing_q F hF 9 t.k ls x u 0 hll hu0 hu1 (by omega) (by omega)
   have P := onceF_p F 9
   have hle := P.le t.k ls x u hu0
   have hco := P.core t.k ls x u
   generalize onceF F 9 t.k ls x u = o at *
   obtain ⟨r, u'⟩ := o
   (first | apply envO | apply envQ); simp only [b2, vmp,↓vmd,seval]; rfl
   simp only [b2, vmp,↓vmd,seval]
   refine onC_q hq rfl ?_
   cases r with
   | none =>
    simp only at hr hle
    (first | apply envO | apply envQ); simp only [doneV, vmp,↓vmd,seval]; rfl
    simp only [doneV, vmp,↓vmd,seval]
    refine onBk_to (n, x + 1, ls, u') [0] (by simp) rfl (by simp) ⟨by simp only; omega, hll, by simp only; omega, hle.1, by simp only; omega, hr⟩ (by simp only [hw, kpp,seval]) (by simp only [kpp,seval])
   | some q =>
    have hlen := coreL_len (hco q rfl)
    simp only at hr hle
    have hmx : max (x + 1) q.2 = max q.2 (x + 1) := by omega
    (first | apply envO | apply envQ); simp only [doneV, vmp,↓vmd,seval]; rfl
    simp only [doneV, hw, vmp,↓vmd,seval]
    refine onBk_to (n, max q.2 (x + 1), q.1, u') [0] (by simp) rfl (by simp) ⟨by simp only; omega, by simp only; omega, by simp only; omega, hle.1, by simp only; omega, hr⟩ (by simp only [hw, hmx, kpp,seval]) (by simp only [kpp,seval])
  ·have b2' : andE (glAt ls x).mask t.m = 0 := Classical.not_not.1 b2
   rw [if_pos b2'] at hr
   have h2n : IntKind.wrap .i64 ↑(BitVec.ofInt IntKind.i64.bits (glAt ls x).mask &&& BitVec.ofInt IntKind.i64.bits t.m).toNat = 0 := b2'
   (first | apply envO | apply envQ); simp only [h2n, not_true, vmp,↓vmd,seval]; rfl
   simp only [h2n, not_true, vmp,↓vmd,seval]
   refine onBk_to (n, x + 1, ls, u) [0] (by simp) rfl (by simp) ⟨by simp only; omega, hll, by simp only; omega, hu0, hu1, hr⟩ (by simp only [hw, kpp,seval]) (by simp only [kpp,seval])
 ·rw [passF_end (by omega)] at hr
  subst hr
  simp only [b1, vmp,↓vmd,seval]
  unfold c23_0
  simp only [vmp,↓vmd,seval]
  exact gives_tup rfl (by simp)
end Go.Proofs.YtcjmkpkhjhjepaaGreat.W
