/-
  The law of one step.
-/
import Derived.Test.YtcjmkpkhjhjepaaGreatPos7
namespace Go.Proofs.YtcjmkpkhjhjepaaGreat.W
open Go Go.Vm Go.Proofs
set_option maxRecDepth 100000
set_option linter.unusedSimpArgs false
set_option maxHeartbeats 4000000
/-! typecase/pos.Lookup -/
def c11 : AC :=
 (.seq (.reg [oo 3 (.box (.s 0)),
 oo 4 (.box (.s 1)),
 oo 6 (.mov (.c .empty))])
 (.seq (.rege [oo 7 (.load true 6 (.s 3)),
 oo 9 (.load true 2 (.s 4)),
 oo 10 (.mov (.s 2))]
[oo 8 (.call 19 [(.s 7)])]
[oo 9 (.load true 2 (.s 4))]
[]
[oo 11 (.call 22 [(.s 8), (.s 9), (.s 10)]),
 oo 6 (.mov (.s 11))])
 .ret))
theorem k11 : OkF 11 Tryz.f11 c11 [.t 6] 12 := ⟨Tryz.func11, by kernel_rfl, by kernel_rfl, by kernel_rfl, Tryz.ntmps11⟩
/-! typecase/typecaselaw35.PosLookup -/
def c4 : AC :=
 (.seq (.reg [oo 3 (.box (.s 0)),
 oo 5 (.box (.s 2)),
 oo 6 (.mov (nB false))])
 (.seq (.seq (.reg [oo 7 (.load true 6 (.s 3)),
 oo 8 (.mov (.s 1)),
 oo 9 (.call 7 [(.s 7), (.s 8)]),
 oo 10 (.un .not (.s 9))])
 (.cond (.s 10)
 (.seq (.reg [oo 6 (.mov (nB true))])
 .ret)
 .skip))
 (.seq (.regq [oo 11 (.load true 6 (.s 3)),
 oo 12 (.fldA 0 (.s 5)),
 oo 13 (.load false 1 (.s 12)),
 oo 14 (.fldA 1 (.s 5)),
 oo 15 (.load false 1 (.s 14)),
 oo 16 (.build [(pI 0), (pI 0)] [(0, 1, (.s 13)), (1, 1, (.s 15))]),
 oo 17 (.mov (.s 1)),
 oo 18 (.call 11 [(.s 11), (.s 16), (.s 17)]),
 oo 19 (.load true 6 (.s 3)),
 oo 20 (.load true 2 (.s 5)),
 oo 21 (.bslice 2 [(.s 20)]),
 oo 22 (.mov (.s 1))]
[oo 23 (.call 12 [(.s 19), (.s 21), (.s 22)]),
 oo 24 (.call 10 [(.s 18), (.s 23)]),
 oo 6 (.mov (.s 24))])
 .ret)))
theorem k4 : OkF 4 Tryz.f4 c4 [.t 6] 25 := ⟨Tryz.func4, by kernel_rfl, by kernel_rfl, by kernel_rfl, Tryz.ntmps4⟩
theorem plookup_q (F : Ff) (hF : ∀ k ∈ F.lks, PosK k) (t : Stp) (l : List Gl) (hl : l.length ≤ 100) : FnQ Tryz.prog 11 [ffV F, stp t, .sl (l.map gl)] [.sl ((passF F t.k t.m l.length l 0 65536).1.map gl)] := by
 refine k11.q (by simp) ?_
 unfold c11
 have hc := pass_c F hF t l hl 65536 (by omega) (by omega)
 generalize passF F t.k t.m l.length l 0 65536 = z at *
 simp only [vmp,↓vmd,seval]
 refine onC_fr (begin_c F) [] (by simp) trivial rfl rfl (by simp) ?_
 (first | apply envO | apply envQ); simp only [vmp,↓vmd,seval]; rfl
 simp only [vmp,↓vmd,seval]
 refine onC_fr hc [2] (by simp) (by simp only [kpp,seval]) rfl rfl (by simp) ?_
 (first | apply envO | apply envQ); simp only [vmp,↓vmd,seval]; rfl
 simp only [vmp,↓vmd,seval]
 exact gives_pure
end Go.Proofs.YtcjmkpkhjhjepaaGreat.W
