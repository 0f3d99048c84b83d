/-
  The law SpansEdits: what its function does, for every input. No condition.
-/
import Derived.Test.YtalhohfhjniapaaRoll2
namespace Go.Proofs.Ytalhohfhjniapaa.W
open Go Go.Vm Go.Proofs
set_option maxRecDepth 100000
set_option linter.unusedSimpArgs false
/-! typecase/spans.Edit -/
def c11 : AC :=
 (.seq (.reg [oo 10 (.mov (.c .empty))])
 (.seq (.reg [oo 13 (.mov (.s 0)),
 oo 14 (.call 20 [(.s 13)]),
 oo 11 (.mov (.s 14))])
 (.seq (.reg [oo 15 (.mov (.s 1)),
 oo 16 (.mov (.s 11)),
 oo 17 (.mn (.s 15) (.s 16)),
 oo 18 (.mx (nI 0) (.s 17)),
 oo 1 (.mov (.s 18))])
 (.seq (.reg [oo 19 (.mov (.s 2)),
 oo 20 (.mov (.s 11)),
 oo 21 (.mov (.s 1)),
 oo 22 (.bin .sub (.s 20) (.s 21)),
 oo 23 (.mn (.s 19) (.s 22)),
 oo 24 (.mx (nI 0) (.s 23)),
 oo 2 (.mov (.s 24))])
 (.seq (.reg [oo 12 (.box (.c (.agg [.empty])))])
 (.seq (.reg [oo 25 (.mov (.s 0)),
 oo 26 (.mov (.s 1)),
 oo 27 (.call 21 [(.s 12), (.s 25), (nI 0), (.s 26)])])
 (.seq (.reg [oo 28 (.mov (.s 3)),
 oo 29 (.mov (.s 4)),
 oo 30 (.call 17 [(.s 12), (.s 28), (.s 29)])])
 (.seq (.reg [oo 31 (.mov (.s 0)),
 oo 32 (.mov (.s 1)),
 oo 33 (.mov (.s 2)),
 oo 34 (.bin .add (.s 32) (.s 33)),
 oo 35 (.mov (.s 11)),
 oo 36 (.call 21 [(.s 12), (.s 31), (.s 34), (.s 35)])])
 (.seq (.reg [oo 37 (.fldA 0 (.s 12)),
 oo 38 (.load false 1 (.s 37)),
 oo 10 (.mov (.s 38))])
 .ret)))))))))
theorem k11 : OkF 11 Try.f11 c11 [.t 10] 39 := ⟨Try.func11, by kernel_rfl, by kernel_rfl, by kernel_rfl, Try.ntmps11⟩
/-- the values behind an edit -/
def editV (v : List Int) (a c p : Nat) (x : Int) : List Int := v.take a ++ List.replicate p x ++ v.drop (a + c)
theorem edit_q (v : List Int) (at' cut put x : Int) (a c : Nat) (ha : max 0 (min at' v.length) = a) (hc : max 0 (min cut (v.length - a)) = c) (hv : v.length ≤ 1000) (hp : put ≤ 100) :
  FnQ Try.prog 11 [.sl ((ofF v).map sp), I at', I cut, I put, I x] [.sl ((ofF (editV v a c put.toNat x)).map sp)] := by
 have hav : a ≤ v.length := by omega
 have hcv : a + c ≤ v.length := by omega
 refine OkF.p k11 (by simp) ?_
 unfold c11
 refine aWp_seq ?_
 simp only [*, vmp,↓vmd,seval]
 refine aWp_seq ?_
 simp only [*, vmp,↓vmd,seval]
 refine onC_q (pend_q _) rfl ?_
 rw [end_of]
 simp only [*, vmp,↓vmd,seval]
 refine aWp_seq ?_
 simp only [ha, vmp,↓vmd,seval]
 refine aWp_seq ?_
 simp only [show IntKind.wrap .i64 ((v.length : Int) - (a : Int)) = (v.length : Int) - (a : Int) by rw [wrap_id (by omega) (by omega)], hc, vmp,↓vmd,seval]
 refine aWp_seq_up ?_
 simp only [vmp,↓vmd,seval]
 refine aWp_virtc 0 3 1 .live (by simp) rfl ?_
 refine aWp_seq_up ?_
 simp only [vmp,↓vmd,seval]
 have ht := take_c [] (ofF v) v.length 0 a (ofF_chain v) (by omega) (by simp)
 rw [List.nil_append, take_of, clip_take (Int.le_refl 0), show ((a : Int) - 0).toNat = a by omega] at ht
 refine onC_fr' ht [0, 1] (by simp) (by simp only [rollH_f, show ofF [] = [] from rfl, kpp,seval]) rfl rfl (fun st => ?_)
 refine ⟨rollH_two, ?_⟩
 rw [emb_roll]
 simp only [vmp,↓vmd,seval]
 refine up_roll [(0, .pure (.sl ((ofF v).map sp))), (1, .pure (I a)), (2, .pure (I c)), (3, .pure (I put)), (4, .pure (I x)), (11, .pure (I v.length)), (12, .ptr 0 0 0)] st _ (by simp only [kpp,seval]) (by simp only [kpp,seval]) ?_
 rw [rollH_f]
 refine aWp_seq_up ?_
 simp only [vmp,↓vmd,seval]
 have hl := lay_c (ofF (v.take a)) _ put x (ofF_chain _) (by simp; omega) (by omega)
 rw [layI_of] at hl
 refine onC_fr' hl [0, 1] (by simp) (by simp only [rollH_f, kpp,seval]) rfl rfl (fun st => ?_)
 refine ⟨rollH_two, ?_⟩
 rw [emb_roll]
 simp only [vmp,↓vmd,seval]
 refine up_roll [(0, .pure (.sl ((ofF v).map sp))), (1, .pure (I a)), (2, .pure (I c)), (11, .pure (I v.length)), (12, .ptr 0 0 0)] st _ (by simp only [kpp,seval]) (by simp only [kpp,seval]) ?_
 rw [rollH_f]
 refine aWp_seq_up ?_
 have hw : IntKind.wrap .i64 ((a : Int) + (c : Int)) = ((a + c : Nat) : Int) := by rw [wrap_id (by omega) (by omega)]; omega
 simp only [hw, vmp,↓vmd,seval]
 have ht := take_c (v.take a ++ List.replicate put.toNat x) (ofF v) v.length ((a + c : Nat) : Int) v.length (ofF_chain v) (by omega) (by simp; omega)
 rw [take_of, clip_drop (by omega), show (((a + c : Nat) : Int) - 0).toNat = a + c by omega] at ht
 refine onC_fr' ht [0, 1] (by simp) (by simp only [rollH_f, kpp,seval]) rfl rfl (fun st => ?_)
 refine ⟨rollH_two, ?_⟩
 rw [emb_roll]
 simp only [vmp,↓vmd,seval]
 refine up_roll [(12, .ptr 0 0 0)] st _ (by simp only [kpp,seval]) (by simp only [kpp,seval]) ?_
 rw [rollH_f]
 refine aWp_x ?_
 simp only [vmp,↓vmd,seval]
 exact gives_row rfl (by simp)
def outB (v : List Int) (a : Nat) (x : Int) (j : Nat) : List Int := v.take a ++ List.replicate j x
def outA (v : List Int) (k : Nat) : List Int := v.take k
def outC (v : List Int) (a c p : Nat) (x : Int) (j : Nat) : List Int := v.take a ++ List.replicate p x ++ (v.drop (a + c)).take j
end Go.Proofs.Ytalhohfhjniapaa.W
