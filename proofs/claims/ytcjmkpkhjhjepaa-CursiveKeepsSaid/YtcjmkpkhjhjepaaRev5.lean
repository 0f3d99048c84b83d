/-
  Of a law's font: the lookup that a number picks.
-/
import Derived.Test.YtcjmkpkhjhjepaaFontD
import Derived.Test.YtcjmkpkhjhjepaaStops
namespace Go.Proofs.Ytcjmkpkhjhjepaa.W
open Go Go.Vm Go.Proofs
set_option maxRecDepth 100000
set_option linter.unusedSimpArgs false
set_option maxHeartbeats 4000000
/-! typecase/typecaselaw27.Pick -/
def c10 : AC :=
  (.seq (.reg [⟨some 2, none, .box (.s 0)⟩,
    ⟨some 4, none, .box (.c (.agg [(.pure (.int .i64 0)), (.pure (.int .i64 0)), (.pure (.int .i64 0)), .empty]))⟩,
    ⟨some 5, none, .mov (.c (.pure (.bool false)))⟩])
  (.seq (.seq (.reg [⟨some 6, none, .fldA 3 (.s 2)⟩,
    ⟨some 7, none, .load false 1 (.s 6)⟩,
    ⟨some 8, none, .len (.s 7)⟩,
    ⟨some 9, none, .bin .eql (.s 8) (.c (.pure (.int .i64 0)))⟩])
  (.cond (.s 9)
  (.seq (.reg [⟨some 10, none, .build [(.pure (.int .i64 0)), (.pure (.int .i64 0)), (.pure (.int .i64 0)), .empty] []⟩,
    ⟨none, none, .store 4 (.s 4) (.s 10)⟩,
    ⟨some 5, none, .mov (.c (.pure (.bool false)))⟩])
  .ret)
  .skip))
  (.seq (.regq [⟨some 11, none, .fldA 3 (.s 2)⟩,
    ⟨some 12, none, .load false 1 (.s 11)⟩,
    ⟨some 13, none, .mov (.s 1)⟩,
    ⟨some 14, none, .conv .i64 (.s 13)⟩,
    ⟨some 15, none, .fldA 3 (.s 2)⟩,
    ⟨some 16, none, .load false 1 (.s 15)⟩,
    ⟨some 17, none, .len (.s 16)⟩,
    ⟨some 18, none, .bin .rem (.s 14) (.s 17)⟩]
    [⟨some 19, none, .idxA 4 (.s 12) (.s 18)⟩,
    ⟨some 20, none, .load true 4 (.s 19)⟩,
    ⟨none, none, .store 4 (.s 4) (.s 20)⟩,
    ⟨some 5, none, .mov (.c (.pure (.bool true)))⟩])
  .ret)))
theorem k10 : (Try.f10.body.bind fun c => cCode Try.prog Try.f10.ntmps RCs c) = some c10 := by kernel_rfl
theorem h10 : (Try.f10.name == "runtime.NumGoroutine") = false := by kernel_rfl
theorem r10 : resC Try.prog Try.f10.results.toList = some [.c 4 true 4, .t 5] := by kernel_rfl
theorem a10 {args : List S} {H : Heap} {K : S → Heap → Prop} (hn : args.length ≤ 21) (h : aWx Try.prog H.length c10 (PostX [.c 4 true 4, .t 5] K) (argEnv 0 args) H) : CallA Try.prog 10 args H K :=
  callA_of_x mixed Try.func10 h10 k10 r10 (by rw [Try.ntmps10]; exact hn) h
theorem q10 {vs ds : List V} (hn : vs.length ≤ 21) (h : aWx Try.prog 0 c10 (PostX [.c 4 true 4, .t 5] (Gives ds)) (argEnv 0 (vs.map .pure)) []) : FnQ Try.prog 10 vs ds :=
  fnQ_of_call (a10 (by simpa using hn) h)

def pickF (F : Ff) (n : Int) : Option Lk := F.lks[n.toNat % F.lks.length]?
def pickR (o : Option Lk) : List V := [lk (o.getD ⟨0, 0, 0, []⟩), .bool o.isSome]
theorem pick_q (F : Ff) (n : Int) (h0 : 0 ≤ n) (hn : n ≤ 255) : FnQ Try.prog 10 [ffV F, .int .u8 n] (pickR (pickF F n)) := by
  refine q10 (by simp) ?_
  unfold c10
  have hw : IntKind.wrap .i64 n = n := wrap_id (by omega) (by omega)
  have hp : pickF F n = F.lks[n.toNat % F.lks.length]? := rfl
  generalize pickF F n = o at *
  simp -implicitDefEqProofs only [vmp,↓vmd,seval]
  refine onIf_intro fun _ => ?_
  (first | apply envO | apply envQ); simp -implicitDefEqProofs only [vmp,↓vmd,seval]; rfl
  simp -implicitDefEqProofs only [vmp,↓vmd,seval]
  refine onB_dec (fun h1 => ?_) (fun h1 => ?_)
  · have hl : F.lks = [] := List.eq_nil_of_length_eq_zero (by omega)
    rw [hl] at hp
    simp only [List.getElem?_nil] at hp
    subst hp
    simp -implicitDefEqProofs only [h1, vmp,↓vmd,seval]
    exact gives_tup rfl (by simp)
  · have hm : n.toNat % F.lks.length < F.lks.length := Nat.mod_lt _ (by omega)
    have ht : n.tmod (F.lks.length : Int) = ((n.toNat % F.lks.length : Nat) : Int) := by
      rw [Int.tmod_eq_emod_of_nonneg h0, Int.natCast_emod, Int.toNat_of_nonneg h0]
    rw [List.getElem?_eq_getElem hm] at hp
    have hgi : (F.lks.map lk)[n.toNat % F.lks.length]? = some (lk F.lks[n.toNat % F.lks.length]) := map_at hm
    generalize F.lks[n.toNat % F.lks.length] = k at hp hgi
    subst hp
    simp -implicitDefEqProofs only [h1, hw, ht, hgi, Int.natCast_nonneg, vmp,↓vmd,seval]
    exact gives_tup rfl (by simp)
end Go.Proofs.Ytcjmkpkhjhjepaa.W
