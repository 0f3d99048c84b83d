/-
  The law of what steps leave alone.
-/
import Derived.Test.YtcjmkpkhjhjepaaPos4
import Derived.Test.YtcjmkpkhjhjepaaPos5
namespace Go.Proofs.Ytcjmkpkhjhjepaa.W
open Go Go.Vm Go.Proofs
set_option maxRecDepth 100000
set_option linter.unusedSimpArgs false
set_option maxHeartbeats 4000000
/-! typecase/typecaselaw35.PosKeeps -/
def c9_0 : AC :=
 (.seq (.reg [⟨some 6, none, .mov (.c (.pure (.bool true)))⟩])
 .ret)
def c9_1 : AC :=
 (.seq (.seq (.reg [⟨some 30, none, .mov (.s 8)⟩,
⟨some 31, none, .mov (.s 7)⟩,
⟨some 32, none, .len (.s 31)⟩,
⟨some 33, none, .bin .lss (.s 30) (.s 32)⟩])
 (.cond (.s 33)
 .skip
 (.exit 0)))
 (.seq (.block 1
 (.seq (.regs [⟨some 36, none, .mov (.s 7)⟩,
⟨some 37, none, .mov (.s 8)⟩,
⟨some 38, none, .idxA 10 (.s 36) (.s 37)⟩,
⟨some 39, none, .load true 10 (.s 38)⟩,
⟨some 40, none, .mov (.s 1)⟩,
⟨some 41, none, .mov (.s 8)⟩,
⟨some 42, none, .idxA 10 (.s 40) (.s 41)⟩,
⟨some 43, none, .load true 10 (.s 42)⟩,
⟨some 9, none, .box (.c (.pure (.agg [(.int .i64 0), (.int .i64 0), (.int .i64 0), (.int .i64 0), (.int .i64 0), (.int .i64 0), (.int .i64 0), (.int .i64 0), (.int .i64 0), (.int .i64 0)])))⟩,
⟨some 10, none, .box (.c (.pure (.agg [(.int .i64 0), (.int .i64 0), (.int .i64 0), (.int .i64 0), (.int .i64 0), (.int .i64 0), (.int .i64 0), (.int .i64 0), (.int .i64 0), (.int .i64 0)])))⟩]
⟨none, none, .store 10 (.s 9) (.s 39)⟩
[⟨some 42, none, .idxA 10 (.s 40) (.s 41)⟩,
⟨some 43, none, .load true 10 (.s 42)⟩]
[⟨none, none, .store 10 (.s 10) (.s 43)⟩])
 (.seq (.reg [⟨some 44, none, .fldA 0 (.s 9)⟩,
⟨some 45, none, .load false 1 (.s 44)⟩,
⟨some 46, none, .fldA 0 (.s 10)⟩,
⟨some 47, none, .load false 1 (.s 46)⟩,
⟨some 48, none, .bin .neq (.s 45) (.s 47)⟩,
⟨some 49, none, .mov (.s 48)⟩,
⟨some 50, some (49, false), .fldA 1 (.s 9)⟩,
⟨some 51, some (49, false), .load false 1 (.s 50)⟩,
⟨some 52, some (49, false), .fldA 1 (.s 10)⟩,
⟨some 53, some (49, false), .load false 1 (.s 52)⟩,
⟨some 54, some (49, false), .bin .neq (.s 51) (.s 53)⟩,
⟨some 55, none, .pick (.s 49) (.c (.pure (.bool true))) (.s 54)⟩,
⟨some 56, none, .mov (.s 55)⟩,
⟨some 57, some (56, false), .fldA 7 (.s 9)⟩,
⟨some 58, some (56, false), .load false 1 (.s 57)⟩,
⟨some 59, some (56, false), .fldA 7 (.s 10)⟩,
⟨some 60, some (56, false), .load false 1 (.s 59)⟩,
⟨some 61, some (56, false), .bin .neq (.s 58) (.s 60)⟩,
⟨some 62, none, .pick (.s 56) (.c (.pure (.bool true))) (.s 61)⟩,
⟨some 63, none, .mov (.s 62)⟩,
⟨some 64, some (63, false), .fldA 8 (.s 9)⟩,
⟨some 65, some (63, false), .load false 1 (.s 64)⟩,
⟨some 66, some (63, false), .fldA 8 (.s 10)⟩,
⟨some 67, some (63, false), .load false 1 (.s 66)⟩,
⟨some 68, some (63, false), .bin .neq (.s 65) (.s 67)⟩,
⟨some 69, none, .pick (.s 63) (.c (.pure (.bool true))) (.s 68)⟩,
⟨some 70, none, .mov (.s 69)⟩,
⟨some 71, some (70, false), .fldA 9 (.s 9)⟩,
⟨some 72, some (70, false), .load false 1 (.s 71)⟩,
⟨some 73, some (70, false), .fldA 9 (.s 10)⟩,
⟨some 74, some (70, false), .load false 1 (.s 73)⟩,
⟨some 75, some (70, false), .bin .neq (.s 72) (.s 74)⟩,
⟨some 76, none, .pick (.s 70) (.c (.pure (.bool true))) (.s 75)⟩])
 (.cond (.s 76)
 (.seq (.reg [⟨some 6, none, .mov (.c (.pure (.bool false)))⟩])
 .ret)
 .skip))))
 (.reg [⟨some 34, none, .mov (.s 8)⟩,
⟨some 35, none, .bin .add (.s 34) (.c (.pure (.int .i64 1)))⟩,
⟨some 8, none, .mov (.s 35)⟩])))
def c9 : AC :=
 (.seq (.reg [⟨some 3, none, .box (.s 0)⟩,
⟨some 6, none, .mov (.c (.pure (.bool false)))⟩])
 (.seq (.seq (.reg [⟨some 11, none, .load true 6 (.s 3)⟩,
⟨some 12, none, .mov (.s 1)⟩,
⟨some 13, none, .call 29 [(.s 11), (.s 12)]⟩,
⟨some 14, none, .un .not (.s 13)⟩,
⟨some 15, none, .mov (.s 14)⟩,
⟨some 16, some (15, false), .mov (.s 2)⟩,
⟨some 17, some (15, false), .len (.s 16)⟩,
⟨some 18, some (15, false), .bin .gtr (.s 17) (.c (.pure (.int .i64 8)))⟩,
⟨some 19, none, .pick (.s 15) (.c (.pure (.bool true))) (.s 18)⟩])
 (.cond (.s 19)
 (.seq (.reg [⟨some 6, none, .mov (.c (.pure (.bool true)))⟩])
 .ret)
 .skip))
 (.seq (.regq [⟨some 20, none, .load true 6 (.s 3)⟩,
⟨some 21, none, .mov (.s 2)⟩,
⟨some 22, none, .call 31 [(.s 21)]⟩,
⟨some 23, none, .mov (.s 1)⟩]
[⟨some 24, none, .call 30 [(.s 20), (.s 22), (.s 23)]⟩,
⟨some 7, none, .mov (.s 24)⟩])
 (.seq (.seq (.reg [⟨some 25, none, .mov (.s 7)⟩,
⟨some 26, none, .len (.s 25)⟩,
⟨some 27, none, .mov (.s 1)⟩,
⟨some 28, none, .len (.s 27)⟩,
⟨some 29, none, .bin .neq (.s 26) (.s 28)⟩])
 (.cond (.s 29)
 (.seq (.reg [⟨some 6, none, .mov (.c (.pure (.bool false)))⟩])
 .ret)
 .skip))
 (.seq (.seq (.reg [⟨some 8, none, .mov (.c (.pure (.int .i64 0)))⟩])
 (.block 0
 (.loop c9_1)))
 c9_0)))))
theorem k9 : OkF 9 Try.f9 c9 [.t 6] 77 := ⟨Try.func9, by kernel_rfl, by kernel_rfl, by kernel_rfl, Try.ntmps9⟩
theorem pk_law (F : Ff) (ls : List Gl) (ts : List Stp) : FnQ Try.prog 9 [ffV F, .sl (ls.map gl), .sl (ts.map stp)] [.bool true] := by
 refine k9.q (by simp) ?_
 unfold c9
 have hmay := @may_of F ls
 simp -implicitDefEqProofs only [vmp,↓vmd,seval]
 refine onC_q (may_q F ls) rfl ?_
 generalize mayF F ls = b at *
 cases b with
 | false =>
  (first | apply envO | apply envQ); simp -implicitDefEqProofs only [vmp,↓vmd,seval]; rfl
  simp -implicitDefEqProofs only [vmp,↓vmd,seval]
  exact gives_pure
 | true =>
  obtain ⟨hl, _, hF⟩ := hmay rfl
  (first | apply envO | apply envQ); simp -implicitDefEqProofs only [vmp,↓vmd,seval]; rfl
  simp -implicitDefEqProofs only [vmp,↓vmd,seval]
  refine onIf_intro fun _ => ?_
  (first | apply envO | apply envQ); simp -implicitDefEqProofs only [vmp,↓vmd,seval]; rfl
  simp -implicitDefEqProofs only [vmp,↓vmd,seval]
  refine onB_dec (fun h1 => ?_) (fun h1 => ?_)
  ·(first | apply envO | apply envQ); simp -implicitDefEqProofs only [h1, vmp,↓vmd,seval]; rfl
   simp -implicitDefEqProofs only [h1, vmp,↓vmd,seval]
   exact gives_pure
  ·have ha := pall_q F hF ts ls (by omega)
   have hk := (allP_p F ts ls 65536 (by omega)).1
   generalize (allP F ts ls 65536).1 = X at *
   have hX := coreL_len hk
   have hX' : (X.length : Int) = (ls.length : Int) := by omega
   have hco := core_at hk
   (first | apply envO | apply envQ); simp -implicitDefEqProofs only [h1, vmp,↓vmd,seval]; rfl
   simp -implicitDefEqProofs only [h1, vmp,↓vmd,seval]
   first | refine onQ_q (steps_q ts (by omega)) rfl ?_ | refine onC_q (steps_q ts (by omega)) rfl ?_
   (first | apply envO | apply envQ); simp -implicitDefEqProofs only [vmp,↓vmd,seval]; rfl
   simp -implicitDefEqProofs only [vmp,↓vmd,seval]
   first | refine onC_q ha rfl ?_ | refine onQ_q ha rfl ?_
   (first | apply envO | apply envQ); simp -implicitDefEqProofs only [vmp,↓vmd,seval]; rfl
   simp -implicitDefEqProofs only [vmp,↓vmd,seval]
   refine onIf_intro fun _ => ?_
   (first | apply envO | apply envQ); simp -implicitDefEqProofs only [vmp,↓vmd,seval]; rfl
   simp -implicitDefEqProofs only [vmp,↓vmd,seval]
   refine onIf_intro fun _ => ?_
   (first | apply envO | apply envQ); simp -implicitDefEqProofs only [hX', vmp,↓vmd,seval]; rfl
   simp -implicitDefEqProofs only [hX', not_true, vmp,↓vmd,seval]
   refine loop_at (T := Nat) (fun i => [(8, .pure (I (i : Int))), (7, .pure (.sl (X.map gl))), (1, .pure (.sl (ls.map gl)))]) (fun _ => []) (fun i => i ≤ ls.length) (fun i => ls.length - i)
    0 [] (by simp) rfl (by simp) (by simp -implicitDefEqProofs only [kpp,seval]) (by simp -implicitDefEqProofs only [kpp,seval]) ?_
   intro i hi
   unfold c9_1
   simp -implicitDefEqProofs only [vmp,↓vmd,seval]
   refine onIf_intro fun _ => ?_
   (first | apply envO | apply envQ); simp -implicitDefEqProofs only [vmp,↓vmd,seval]; rfl
   simp -implicitDefEqProofs only [hX', vmp,↓vmd,seval]
   refine onB_dec (fun h2 => ?_) (fun h2 => ?_)
   ·have hlt : i < ls.length := by omega
    have hgx : (X.map gl)[i]? = some (gl (glAt X (i : Int))) := by
     have := glAt_map (ls := X) (y := (i : Int)) (by omega) (by omega)
     simpa using this
    have hgl : (ls.map gl)[i]? = some (gl (glAt ls (i : Int))) := by
     have := glAt_map (ls := ls) (y := (i : Int)) (by omega) (by omega)
     simpa using this
    have hc := hco (i : Int)
    generalize glAt X (i : Int) = a at *
    generalize glAt ls (i : Int) = b at *
    obtain ⟨a0, a1, a2, a3, a4, a5, a6, a7, a8, a9⟩ := a
    obtain ⟨b0, b1, b2, b3, b4, b5, b6, b7, b8, b9⟩ := b
    simp only [core, Prod.mk.injEq] at hc
    obtain ⟨rfl, rfl, rfl, rfl, rfl⟩ := hc
    simp -implicitDefEqProofs only [h2, hgx, hgl, Int.natCast_nonneg, vmp,↓vmd,seval]
    refine onBk_to (i + 1) [] (by simp) rfl (by omega) hlt (by simp -implicitDefEqProofs only [next_at hlt (by omega), kpp,seval]) (by simp -implicitDefEqProofs only [kpp,seval])
   ·simp -implicitDefEqProofs only [h2, vmp,↓vmd,seval]
    unfold c9_0
    simp -implicitDefEqProofs only [vmp,↓vmd,seval]
    exact gives_pure
theorem ty_steps : tyC Try.prog 20 63 = some (false, [.sl true [.int .i64, .int .i64]]) := by kernel_rfl
theorem stp_of {v : V} (h : OkE true [.int .i64, .int .i64] v) : ∃ s, v = stp s ∧ True := by
 obtain ⟨l, hl, rfl⟩ := ints_of (k := 2) h
 match l, hl with
 | [a, b], _ => exact ⟨⟨a, b⟩, rfl, trivial⟩
theorem steps_of {v : V} (h : OkT Try.prog 63 v) : ∃ l : List Stp, v = .sl (l.map stp) := by
 obtain ⟨l, h1, _⟩ := lists_of (f := stp) (fun _ h => stp_of h) (cell_of (h _ _ _ ty_steps))
 exact ⟨l, h1⟩
theorem pk_all (vs : List V) (h : OkTs Try.prog Try.f9.params.toList vs) : FnQ Try.prog 9 vs [.bool true] := by
 rw [Try.params9] at h
 match vs, h with
 | [x, y, z], h =>
  obtain ⟨h1, h2, h3, _⟩ := h
  obtain ⟨f, rfl⟩ := font_of' h1
  obtain ⟨l, rfl, _⟩ := gls_of (cell_of (h2 _ _ _ ty_glyphs))
  obtain ⟨t, rfl⟩ := steps_of h3
  exact pk_law f l t
end Go.Proofs.Ytcjmkpkhjhjepaa.W
