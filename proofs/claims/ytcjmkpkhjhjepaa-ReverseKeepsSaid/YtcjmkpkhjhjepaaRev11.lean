/-
  The laws of lookups that go from behind.
-/
import Derived.Test.YtcjmkpkhjhjepaaRev10
import Derived.Test.YtcjmkpkhjhjepaaRev8
import Derived.Test.YtcjmkpkhjhjepaaRev5
namespace Go.Proofs.Ytcjmkpkhjhjepaa.W
open Go Go.Vm Go.Proofs
set_option maxRecDepth 100000
set_option linter.unusedSimpArgs false
set_option maxHeartbeats 4000000
/-! typecase/typecaselaw30.ReverseAll -/
def c7 : AC :=
  (.seq (.reg [⟨some 3, none, .box (.s 0)⟩,
    ⟨some 5, none, .box (.s 2)⟩,
    ⟨some 6, none, .mov (.c (.pure (.bool false)))⟩])
  (.seq (.reg [⟨some 10, none, .load true 6 (.s 3)⟩,
    ⟨some 11, none, .idxAA 2 1 (.s 5) (.c (.pure (.int .i64 0)))⟩,
    ⟨some 12, none, .load false 1 (.s 11)⟩,
    ⟨some 13, none, .conv .u8 (.s 12)⟩,
    ⟨some 14, none, .call 10 [(.s 10), (.s 13)]⟩,
    ⟨some 9, none, .mov (.s 14)⟩,
    ⟨some 15, none, .ext 0 (.s 9)⟩,
    ⟨some 16, none, .ext 1 (.s 9)⟩,
    ⟨some 7, none, .box (.c (.agg [(.pure (.int .i64 0)), (.pure (.int .i64 0)), (.pure (.int .i64 0)), .empty]))⟩,
    ⟨none, none, .store 4 (.s 7) (.s 15)⟩,
    ⟨some 8, none, .mov (.s 16)⟩])
  (.seq (.seq (.reg [⟨some 17, none, .mov (.s 8)⟩,
    ⟨some 18, none, .un .not (.s 17)⟩,
    ⟨some 19, none, .mov (.s 18)⟩,
    ⟨some 20, some (19, false), .load true 6 (.s 3)⟩,
    ⟨some 21, some (19, false), .mov (.s 1)⟩,
    ⟨some 22, some (19, false), .call 11 [(.s 20), (.s 21)]⟩,
    ⟨some 23, some (19, false), .un .not (.s 22)⟩,
    ⟨some 24, none, .pick (.s 19) (.c (.pure (.bool true))) (.s 23)⟩])
  (.cond (.s 24)
  (.seq (.reg [⟨some 25, none, .call 21 []⟩,
    ⟨some 6, none, .mov (.s 25)⟩])
  .ret)
  .skip))
  (.seq (.regq [⟨some 26, none, .load true 6 (.s 3)⟩,
    ⟨some 27, none, .load true 4 (.s 7)⟩,
    ⟨some 28, none, .mov (.s 1)⟩,
    ⟨some 29, none, .idxAA 2 1 (.s 5) (.c (.pure (.int .i64 1)))⟩,
    ⟨some 30, none, .load false 1 (.s 29)⟩,
    ⟨some 31, none, .call 26 [(.s 26), (.s 27), (.s 28), (.s 30)]⟩,
    ⟨some 32, none, .load true 6 (.s 3)⟩,
    ⟨some 33, none, .load true 4 (.s 7)⟩,
    ⟨some 34, none, .mov (.s 1)⟩,
    ⟨some 35, none, .idxAA 2 1 (.s 5) (.c (.pure (.int .i64 1)))⟩,
    ⟨some 36, none, .load false 1 (.s 35)⟩]
    [⟨some 37, none, .call 27 [(.s 32), (.s 33), (.s 34), (.s 36)]⟩,
    ⟨some 38, none, .call 20 [(.s 31), (.s 37)]⟩,
    ⟨some 39, none, .mov (.s 38)⟩,
    ⟨some 40, some (39, true), .call 21 []⟩,
    ⟨some 41, none, .pick (.s 39) (.s 40) (.c (.pure (.bool false)))⟩,
    ⟨some 6, none, .mov (.s 41)⟩])
  .ret))))
theorem k7 : (Try.f7.body.bind fun c => cCode Try.prog Try.f7.ntmps RCs c) = some c7 := by kernel_rfl
theorem h7 : (Try.f7.name == "runtime.NumGoroutine") = false := by kernel_rfl
theorem r7 : resC Try.prog Try.f7.results.toList = some [.t 6] := by kernel_rfl
theorem a7 {args : List S} {H : Heap} {K : S → Heap → Prop} (hn : args.length ≤ 42) (h : aWx Try.prog H.length c7 (PostX [.t 6] K) (argEnv 0 args) H) : CallA Try.prog 7 args H K :=
  callA_of_x mixed Try.func7 h7 k7 r7 (by rw [Try.ntmps7]; exact hn) h
theorem q7 {vs ds : List V} (hn : vs.length ≤ 42) (h : aWx Try.prog 0 c7 (PostX [.t 6] (Gives ds)) (argEnv 0 (vs.map .pure)) []) : FnQ Try.prog 7 vs ds :=
  fnQ_of_call (a7 (by simpa using hn) h)

theorem fine_rev {F : Ff} {ls : List Gl} (h : fineF F ls = true) {n : Int} {k : Lk} (hk : pickF F n = some k) : ls.length ≤ 40 ∧ (k.kind = 5 → RevK k) := by
  simp only [fineF, Bool.and_eq_true, decide_eq_true_eq] at h
  refine ⟨h.1.2, fun h5 => ?_⟩
  have hc : checkB F = true := by
    have := h.1.1.2
    simpa [checkF] using this
  have hm : k ∈ F.lks := List.mem_of_getElem? hk
  have hr := checkB_rev hc hm h5
  exact ⟨fun s hs => by have := hr s hs; omega, fun s hs => ⟨(hr s hs).1, (hr s hs).2.1⟩⟩
theorem u8_in (n : Int) : 0 ≤ IntKind.wrap .u8 n ∧ IntKind.wrap .u8 n ≤ 255 := by
  have e : (2 : Int) ^ IntKind.u8.bits = 256 := by decide
  simp only [IntKind.wrap]
  first | (simp [IntKind.signed, e]; omega) | (simp [e, IntKind.signed, IntKind.bits]; omega) | (split <;> omega)
theorem ra_law (F : Ff) (ls : List Gl) (a b : Int) : FnQ Try.prog 7 [ffV F, .sl (ls.map gl), .agg [I a, I b]] [.bool true] := by
  refine q7 (by simp) ?_
  unfold c7
  have hu := u8_in a
  have hfr := @fine_rev F ls
  simp -implicitDefEqProofs only [vmp,↓vmd,seval]
  refine onC_q (pick_q F _ hu.1 hu.2) rfl ?_
  rw [pickR]
  generalize ho : pickF F (IntKind.wrap .u8 a) = o at *
  first | refine envO (by simp -implicitDefEqProofs only [vmp,↓vmd,seval]; rfl) ?_ | refine envQ (by simp -implicitDefEqProofs only [vmp,↓vmd,seval]; rfl) ?_
  simp -implicitDefEqProofs only [vmp,↓vmd,seval]
  cases o with
  | none =>
    simp -implicitDefEqProofs only [Option.isSome_none, vmp,↓vmd,seval]
    refine onC_q alive30_q rfl ?_
    first | refine envO (by simp -implicitDefEqProofs only [vmp,↓vmd,seval]; rfl) ?_ | refine envQ (by simp -implicitDefEqProofs only [vmp,↓vmd,seval]; rfl) ?_
    simp -implicitDefEqProofs only [vmp,↓vmd,seval]
    exact gives_pure
  | some k =>
    simp -implicitDefEqProofs only [Option.isSome_some, Option.getD_some, vmp,↓vmd,seval]
    refine onC_q (fine_q F ls) rfl ?_
    have hfr := fun h => hfr h ho
    generalize fineF F ls = b1 at *
    cases b1 with
    | false =>
      first | refine envO (by simp -implicitDefEqProofs only [vmp,↓vmd,seval]; rfl) ?_ | refine envQ (by simp -implicitDefEqProofs only [vmp,↓vmd,seval]; rfl) ?_
      simp -implicitDefEqProofs only [vmp,↓vmd,seval]
      refine onC_q alive30_q rfl ?_
      first | refine envO (by simp -implicitDefEqProofs only [vmp,↓vmd,seval]; rfl) ?_ | refine envQ (by simp -implicitDefEqProofs only [vmp,↓vmd,seval]; rfl) ?_
      simp -implicitDefEqProofs only [vmp,↓vmd,seval]
      exact gives_pure
    | true =>
      obtain ⟨hl, hk⟩ := hfr rfl
      first | refine envO (by simp -implicitDefEqProofs only [vmp,↓vmd,seval]; rfl) ?_ | refine envQ (by simp -implicitDefEqProofs only [vmp,↓vmd,seval]; rfl) ?_
      simp -implicitDefEqProofs only [vmp,↓vmd,seval]
      have g1 := all30_q F.fo k hk ls (by omega) b
      have g2 := rall30_q F.fo k hk ls (by omega) b
      rw [ffV_fo] at g1 g2
      generalize goA F.fo k b ls.length ls = X at *
      refine onQ_q g1 rfl ?_
      first | refine envO (by simp -implicitDefEqProofs only [vmp,↓vmd,seval]; rfl) ?_ | refine envQ (by simp -implicitDefEqProofs only [vmp,↓vmd,seval]; rfl) ?_
      simp -implicitDefEqProofs only [vmp,↓vmd,seval]
      refine onC_q g2 rfl ?_
      first | refine envO (by simp -implicitDefEqProofs only [vmp,↓vmd,seval]; rfl) ?_ | refine envQ (by simp -implicitDefEqProofs only [vmp,↓vmd,seval]; rfl) ?_
      simp -implicitDefEqProofs only [vmp,↓vmd,seval]
      refine onC_q (glyphs2_q X X) rfl ?_
      rw [decide_eq_true rfl]
      first | refine envO (by simp -implicitDefEqProofs only [vmp,↓vmd,seval]; rfl) ?_ | refine envQ (by simp -implicitDefEqProofs only [vmp,↓vmd,seval]; rfl) ?_
      simp -implicitDefEqProofs only [vmp,↓vmd,seval]
      refine onC_q alive30_q rfl ?_
      first | refine envO (by simp -implicitDefEqProofs only [vmp,↓vmd,seval]; rfl) ?_ | refine envQ (by simp -implicitDefEqProofs only [vmp,↓vmd,seval]; rfl) ?_
      simp -implicitDefEqProofs only [vmp,↓vmd,seval]
      exact gives_pure
end Go.Proofs.Ytcjmkpkhjhjepaa.W
