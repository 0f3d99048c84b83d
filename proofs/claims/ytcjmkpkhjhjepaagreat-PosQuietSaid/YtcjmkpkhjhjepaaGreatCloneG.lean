/-
  A copy of glyphs. No condition but on sizes.
-/
import Derived.Test.YtcjmkpkhjhjepaaGreatNext
namespace Go.Proofs.YtcjmkpkhjhjepaaGreat.W
open Go Go.Vm Go.Proofs
set_option maxRecDepth 100000
set_option linter.unusedSimpArgs false
set_option maxHeartbeats 1000000
/-! slices.Clone[[]typecase/api.Glyph,typecase/api.Glyph] -/
def c24 : AC :=
 (.seq (.reg [oo 2 (.mov (.c .empty))])
 (.seq (.seq (.reg [oo 3 (.mov (.s 0)),
 oo 4 (.slnil false (.s 3))])
 (.cond (.s 4)
 (.seq (.reg [oo 2 (.mov (.c .empty))])
 .ret)
 .skip))
 (.seq (.reg [oo 5 (.bslice 10 []),
 oo 6 (.mov (.s 0)),
 oo 7 (.app 10 80 (.s 5) (.s 6)),
 oo 2 (.mov (.s 7))])
 .ret)))
theorem k24 : OkF 24 Tryz.f24 c24 [.t 2] 8 := ⟨Tryz.func24, by kernel_rfl, by kernel_rfl, by kernel_rfl, Tryz.ntmps24⟩
theorem cloneG_c (l : List Gl) (hl : l.length ≤ 1000) : CallA Tryz.prog 24 [.pure (.sl (l.map gl))] [] fun s H' => s = .rsl 0 0 l.length ∧ H' = [⟨(l.map gl).map .pure, 10, .live⟩] := by
 refine CallA.virt 10 (by simp) ?_
 refine CallA.weak (K := fun s H' => (s = .rsl 1 0 l.length ∧ H' = [⟨[], 10, .dead⟩, ⟨(l.map gl).map .pure, 10, .live⟩]) ∨ (l = [] ∧ s = .empty ∧ H' = [])) ?_ ?_
 ·refine k24.a (by simp) ?_
  unfold c24
  simp only [*, vmp,↓vmd,seval]
  refine onN_intro fun b hb => ?_
  simp only [*, vmp,↓vmd,seval]
  refine onB_intro (fun h => ?_) (fun h => ?_)
  ·simp only [h, vmp,↓vmd,seval]
   rcases Nat.eq_zero_or_pos l.length with h0 | h0
   ·exact List.eq_nil_of_length_eq_zero h0
   ·rw [hb (by omega)] at h; cases h
  ·simp only [h, vmp,↓vmd,seval]
   refine onIf'_intro (appOk_map (fun _ => rfl) rfl (by simp) (by omega) (by simp [maxLen]; omega)) ?_
   simp only [vmp,↓vmd,seval]
 ·rintro s H' (⟨rfl, rfl⟩ | ⟨rfl, rfl, rfl⟩)
  ·exact ⟨[1], .rsl 0 0 l.length, [⟨(l.map gl).map .pure, 10, .live⟩], by simp, rfl, (by simp only [kpp,seval]), (by simp only [kpp,seval]), .inl ⟨rfl, rfl⟩⟩
  ·exact ⟨[], .empty, [], by simp, rfl, (by simp only [kpp,seval]), trivial, .inr ⟨rfl, rfl, rfl⟩⟩
end Go.Proofs.YtcjmkpkhjhjepaaGreat.W
