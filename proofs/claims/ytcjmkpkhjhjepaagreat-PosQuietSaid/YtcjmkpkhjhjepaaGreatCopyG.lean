/-
  Copies of glyphs. No condition but on sizes.
-/
import Derived.Test.YtcjmkpkhjhjepaaGreatGls
import Derived.Test.YtcjmkpkhjhjepaaGreatCloneG
import Derived.Test.YtcjmkpkhjhjepaaGreatStops
namespace Go.Proofs.YtcjmkpkhjhjepaaGreat.W
open Go Go.Vm Go.Proofs
set_option maxRecDepth 100000
set_option linter.unusedSimpArgs false
set_option maxHeartbeats 4000000
/-! typecase/typecaseref27.Copy -/
def c94_0 : AC :=
 (.seq (.reg [oo 18 (.mov (.s 3)),
 oo 2 (.mov (.s 18))])
 .ret)
def c94_1 : AC :=
 (.seq (.seq (.reg [oo 5 (.mov (.s 4)),
 oo 6 (.mov (.s 0)),
 oo 7 (.len (.s 6)),
 oo 8 (.bin .lss (.s 5) (.s 7))])
 (.cond (.s 8)
 .skip
 (.exit 0)))
 (.seq (.block 1
 (.reg [oo 11 (.mov (.s 3)),
 oo 12 (.mov (.s 0)),
 oo 13 (.mov (.s 4)),
 oo 14 (.idxA 10 (.s 12) (.s 13)),
 oo 15 (.load true 10 (.s 14)),
 oo 16 (.bslice 10 [(.s 15)]),
 oo 17 (.app 10 80 (.s 11) (.s 16)),
 oo 3 (.mov (.s 17))]))
 (.reg [oo 9 (.mov (.s 4)),
 oo 10 (.bin .add (.s 9) (nI 1)),
 oo 4 (.mov (.s 10))])))
def c94 : AC :=
 (.seq (.reg [oo 2 (.mov (.c .empty))])
 (.seq (.reg [oo 3 (.mov (.c .empty))])
 (.seq (.seq (.reg [oo 4 (.mov (nI 0))])
 (.block 0
 (.loop c94_1)))
 c94_0)))
theorem k94 : OkF 94 Tryz.f94 c94 [.t 2] 19 := ⟨Tryz.func94, by kernel_rfl, by kernel_rfl, by kernel_rfl, Tryz.ntmps94⟩
theorem copy27_c (l : List Gl) (hl : l.length ≤ 1000) : CallA Tryz.prog 94 [.pure (.sl (l.map gl))] [] fun s H' => s = .rsl 0 0 l.length ∧ H' = [⟨(l.map gl).map .pure, 10, .live⟩] := by
 refine k94.a (by simp) ?_
 unfold c94
 simp only [*, vmp,↓vmd,seval]
 refine loop_virt 3 10 rfl (by simp) ?_
 refine loop_at (T := Nat) (fun i => [(4, .pure (I (i : Int))), (0, .pure (.sl (l.map gl))), (3, .rsl 0 0 (l.take i).length)]) (fun i => [⟨((l.take i).map gl).map .pure, 10, .live⟩]) (fun i => i ≤ l.length) (fun i => l.length - i)
  0 [0] (by simp) rfl (by simp) (by simp only [List.take_zero, kpp,seval]) (by simp only [List.take_zero, kpp,seval]) ?_
 intro i hi
 have hi' : (l.take i).length = i := by simp; omega
 unfold c94_1
 simp only [vmp,↓vmd,seval]
 refine onIf_intro fun _ => ?_
 (first | apply envO | apply envQ); simp only [vmp,↓vmd,seval]; rfl
 simp only [vmp,↓vmd,seval]
 refine onB_dec (fun h1 => ?_) (fun h1 => ?_)
 ·have hlt : i < l.length := by omega
  have hgi : (l.map gl)[i]? = some (gl l[i]) := map_at hlt
  have hs' := List.take_succ_eq_append_getElem hlt
  generalize l[i] = g at hgi hs'
  simp only [h1, hgi, Int.natCast_nonneg, vmp,↓vmd,seval]
  refine onIf'_intro (appOk_one rfl rfl (by simp) (by omega) (by simp [maxLen]; omega)) ?_
  (first | apply envO | apply envQ); simp only [vmp,↓vmd,seval]; rfl
  simp only [vmp,↓vmd,seval]
  refine onBk_to (i + 1) [2] (by simp) rfl (by omega) hlt (by simp only [next_at hlt (by omega), hs', kpp,seval]) (by simp only [hs', kpp,seval])
 ·rw [List.take_of_length_le (by omega)]
  simp only [h1, vmp,↓vmd,seval]
  unfold c94_0
  simp only [vmp,↓vmd,seval]
theorem cloneG_q (l : List Gl) (hl : l.length ≤ 1000) : FnQ Tryz.prog 24 [.sl (l.map gl)] [.sl (l.map gl)] :=
 fnQ_of_call ((cloneG_c l hl).mono fun s H' h => by
  rcases h with ⟨rfl, rfl⟩
  exact gives_row' rfl (by simp) rfl)
end Go.Proofs.YtcjmkpkhjhjepaaGreat.W
