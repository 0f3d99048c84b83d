/-
  The law SpansSets: what its function does, for every input. No condition.
-/
import Derived.Test.YtalhohfhjniapaaRoll2
namespace Go.Proofs.Ytalhohfhjniapaa.W
open Go Go.Vm Go.Proofs
set_option maxRecDepth 100000
set_option linter.unusedSimpArgs false
/-! typecase/spans.Set -/
def c12 : AC :=
 (.seq (.reg [oo 8 (.mov (.c .empty))])
 (.seq (.reg [oo 11 (.mov (.s 0)),
 oo 12 (.call 20 [(.s 11)]),
 oo 9 (.mov (.s 12))])
 (.seq (.reg [oo 13 (.mov (.s 1)),
 oo 14 (.mx (.s 13) (nI 0)),
 oo 15 (.mov (.s 2)),
 oo 16 (.mov (.s 9)),
 oo 17 (.mn (.s 15) (.s 16)),
 oo 1 (.mov (.s 14)),
 oo 2 (.mov (.s 17))])
 (.seq (.reg [oo 10 (.box (.c (.agg [.empty])))])
 (.seq (.seq (.reg [oo 18 (.mov (.s 1)),
 oo 19 (.mov (.s 2)),
 oo 20 (.bin .geq (.s 18) (.s 19))])
 (.cond (.s 20)
 (.seq (.reg [oo 21 (.mov (.s 0)),
 oo 22 (.mov (.s 9)),
 oo 23 (.call 21 [(.s 10), (.s 21), (nI 0), (.s 22)])])
 (.seq (.reg [oo 24 (.fldA 0 (.s 10)),
 oo 25 (.load false 1 (.s 24)),
 oo 8 (.mov (.s 25))])
 .ret))
 .skip))
 (.seq (.reg [oo 26 (.mov (.s 0)),
 oo 27 (.mov (.s 1)),
 oo 28 (.call 21 [(.s 10), (.s 26), (nI 0), (.s 27)])])
 (.seq (.reg [oo 29 (.mov (.s 2)),
 oo 30 (.mov (.s 1)),
 oo 31 (.bin .sub (.s 29) (.s 30)),
 oo 32 (.mov (.s 3)),
 oo 33 (.call 17 [(.s 10), (.s 31), (.s 32)])])
 (.seq (.reg [oo 34 (.mov (.s 0)),
 oo 35 (.mov (.s 2)),
 oo 36 (.mov (.s 9)),
 oo 37 (.call 21 [(.s 10), (.s 34), (.s 35), (.s 36)])])
 (.seq (.reg [oo 38 (.fldA 0 (.s 10)),
 oo 39 (.load false 1 (.s 38)),
 oo 8 (.mov (.s 39))])
 .ret)))))))))
theorem k12 : OkF 12 Try.f12 c12 [.t 8] 40 := ⟨Try.func12, by kernel_rfl, by kernel_rfl, by kernel_rfl, Try.ntmps12⟩
/-- values, those of a stretch set anew; the first stands at a -/
def setR (lo hi x : Int) : Int → List Int → List Int
 | _, [] => []
 | a, y :: r => (if lo ≤ a ∧ a < hi then x else y) :: setR lo hi x (a + 1) r
theorem setR_len {lo hi x : Int} : ∀ {a : Int} {v : List Int}, (setR lo hi x a v).length = v.length
 | _, [] => rfl
 | a, y :: r => by simp [setR, setR_len]
theorem setR_in {lo hi lo' hi' x : Int} : ∀ {a : Int} {v : List Int}, (∀ i : Int, a ≤ i → i < a + v.length → ((lo ≤ i ∧ i < hi) ↔ (lo' ≤ i ∧ i < hi'))) → setR lo hi x a v = setR lo' hi' x a v
 | _, [], _ => rfl
 | a, y :: r, h => by
  simp only [List.length_cons] at h
  rw [setR, setR, setR_in (lo' := lo') (hi' := hi') fun i h1 h2 => h i (by omega) (by omega)]
  have h0 := h a (by omega) (by omega)
  by_cases hc : lo ≤ a ∧ a < hi
  ·rw [if_pos hc, if_pos (h0.1 hc)]
  ·rw [if_neg hc, if_neg (fun h => hc (h0.2 h))]
theorem setR_none {lo hi x : Int} (h : hi ≤ lo) : ∀ {a : Int} {v : List Int}, setR lo hi x a v = v
 | _, [] => rfl
 | a, y :: r => by rw [setR, if_neg (by omega), setR_none h]
theorem setR_behind {lo hi x : Int} : ∀ {v : List Int} {a : Int}, lo ≤ a → a ≤ hi → hi ≤ a + v.length → setR lo hi x a v = List.replicate (hi - a).toNat x ++ v.drop (hi - a).toNat
 | [], a, h1, h2, h3 => by
  simp at h3
  rw [show (hi - a).toNat = 0 by omega]
  rfl
 | y :: r, a, h1, h2, h3 => by
  simp only [List.length_cons] at h3
  by_cases hc : a < hi
  ·rw [setR, if_pos ⟨h1, hc⟩, setR_behind (by omega) (by omega) (by omega), show (hi - a).toNat = (hi - (a + 1)).toNat + 1 by omega]
   rfl
  ·rw [show (hi - a).toNat = 0 by omega]
   have : setR lo hi x a (y :: r) = setR hi lo x a (y :: r) → setR lo hi x a (y :: r) = y :: r := fun h => by rw [h, setR_none (by omega)]
   rw [this (setR_in fun i h1 h2 => by omega)]
   rfl
theorem setR_eq {lo hi x : Int} : ∀ {v : List Int} {a : Int}, a ≤ lo → lo ≤ hi → hi ≤ a + v.length → setR lo hi x a v = v.take (lo - a).toNat ++ List.replicate (hi - lo).toNat x ++ v.drop (hi - a).toNat
 | [], a, h1, h2, h3 => by
  simp at h3
  rw [show (hi - a).toNat = 0 by omega, show (lo - a).toNat = 0 by omega, show (hi - lo).toNat = 0 by omega]
  rfl
 | y :: r, a, h1, h2, h3 => by
  simp only [List.length_cons] at h3
  by_cases hc : a < lo
  ·rw [setR, if_neg (by omega), setR_eq (by omega) h2 (by omega), show (lo - a).toNat = (lo - (a + 1)).toNat + 1 by omega, show (hi - a).toNat = (hi - (a + 1)).toNat + 1 by omega]
   rfl
  ·obtain rfl : a = lo := by omega
   rw [setR_behind (by omega) h2 (by simp; omega), show (a - a).toNat = 0 by omega]
   rfl
theorem set_q (v : List Int) (lo hi x : Int) (hv : v.length ≤ 1000) : FnQ Try.prog 12 [.sl ((ofF v).map sp), I lo, I hi, I x] [.sl ((ofF (setR lo hi x 0 v)).map sp)] := by
 refine OkF.p k12 (by simp) ?_
 unfold c12
 refine aWp_seq ?_
 simp only [*, vmp,↓vmd,seval]
 refine aWp_seq ?_
 simp only [*, vmp,↓vmd,seval]
 refine onC_q (pend_q _) rfl ?_
 rw [end_of]
 simp only [*, vmp,↓vmd,seval]
 refine aWp_seq ?_
 simp only [vmp,↓vmd,seval]
 have hin : setR lo hi x 0 v = setR (max lo 0) (min hi v.length) x 0 v := setR_in fun i h1 h2 => by omega
 refine aWp_seq_up ?_
 simp only [vmp,↓vmd,seval]
 refine aWp_virtc 0 3 1 .live (by simp) rfl ?_
 by_cases hc : min hi (v.length : Int) ≤ max lo 0
 ·refine aWp_x ?_
  simp only [hc, vmp,↓vmd,seval]
  have ht := take_c [] (ofF v) v.length 0 v.length (ofF_chain v) (by omega) (by simp)
  rw [List.nil_append, take_of, clip_all (Int.le_refl 0) (by omega)] at ht
  rw [hin, setR_none hc]
  refine onC_fr' ht [0, 1] (by simp) (by simp only [rollH_f, show ofF [] = [] from rfl, kpp,seval]) rfl rfl (fun st => ?_)
  refine ⟨rollH_two, ?_⟩
  rw [emb_roll]
  cases st
  ·rw [rollH_f]
   simp only [vmp,↓vmd,seval]
   exact gives_row rfl (by simp)
  ·rw [rollH_t]
   simp only [vmp,↓vmd,seval]
   exact gives_row rfl (by simp)
 obtain ⟨a, ha⟩ : ∃ a : Nat, max lo 0 = a := ⟨(max lo 0).toNat, by omega⟩
 obtain ⟨b, hb⟩ : ∃ b : Nat, min hi (v.length : Int) = b := ⟨(min hi (v.length : Int)).toNat, by omega⟩
 rw [ha, hb] at hc hin
 have hab : a < b := by omega
 have hbv : b ≤ v.length := by omega
 rw [hin, setR_eq (by omega) (by omega) (by omega), show ((a : Int) - 0).toNat = a by omega, show ((b : Int) - 0).toNat = b by omega]
 refine aWp_seq ?_
 simp only [ha, hb, hc, vmp,↓vmd,seval]
 refine aWp_seq_up ?_
 simp only [vmp,↓vmd,seval]
 have ht := take_c [] (ofF v) v.length 0 a (ofF_chain v) (by omega) (by simp)
 rw [List.nil_append, take_of, clip_take (Int.le_refl 0), show ((a : Int) - 0).toNat = a by omega] at ht
 refine onC_fr' ht [0, 1] (by simp) (by simp only [rollH_f, show ofF [] = [] from rfl, kpp,seval]) rfl rfl (fun st => ?_)
 refine ⟨rollH_two, ?_⟩
 rw [emb_roll]
 simp only [vmp,↓vmd,seval]
 refine up_roll [(0, .pure (.sl ((ofF v).map sp))), (1, .pure (I a)), (2, .pure (I b)), (3, .pure (I x)), (9, .pure (I v.length)), (10, .ptr 0 0 0)] st _ (by simp only [kpp,seval]) (by simp only [kpp,seval]) ?_
 rw [rollH_f]
 refine aWp_seq_up ?_
 have hw : IntKind.wrap .i64 ((b : Int) - (a : Int)) = (b : Int) - (a : Int) := by rw [wrap_id (by omega) (by omega)]
 simp only [hw, vmp,↓vmd,seval]
 have hl := lay_c (ofF (v.take a)) _ ((b : Int) - (a : Int)) x (ofF_chain _) (by simp; omega) (by omega)
 rw [layI_of] at hl
 refine onC_fr' hl [0, 1] (by simp) (by simp only [rollH_f, kpp,seval]) rfl rfl (fun st => ?_)
 refine ⟨rollH_two, ?_⟩
 rw [emb_roll]
 simp only [vmp,↓vmd,seval]
 refine up_roll [(0, .pure (.sl ((ofF v).map sp))), (2, .pure (I b)), (9, .pure (I v.length)), (10, .ptr 0 0 0)] st _ (by simp only [kpp,seval]) (by simp only [kpp,seval]) ?_
 rw [rollH_f]
 refine aWp_seq_up ?_
 simp only [vmp,↓vmd,seval]
 have ht := take_c (v.take a ++ List.replicate ((b : Int) - (a : Int)).toNat x) (ofF v) v.length b v.length (ofF_chain v) (by omega) (by simp; omega)
 rw [take_of, clip_drop (by omega), show ((b : Int) - 0).toNat = b by omega] at ht
 refine onC_fr' ht [0, 1] (by simp) (by simp only [rollH_f, kpp,seval]) rfl rfl (fun st => ?_)
 refine ⟨rollH_two, ?_⟩
 rw [emb_roll]
 simp only [vmp,↓vmd,seval]
 refine up_roll [(10, .ptr 0 0 0)] st _ (by simp only [kpp,seval]) (by simp only [kpp,seval]) ?_
 rw [rollH_f]
 refine aWp_x ?_
 simp only [vmp,↓vmd,seval]
 exact gives_row rfl (by simp)
end Go.Proofs.Ytalhohfhjniapaa.W
