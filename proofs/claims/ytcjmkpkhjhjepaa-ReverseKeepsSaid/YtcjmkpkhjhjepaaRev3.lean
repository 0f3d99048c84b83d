/-
  Lookups that go from behind, done at one place: two functions, one answer. No condition but on sizes and rows.
-/
import Derived.Test.YtcjmkpkhjhjepaaRev2
import Derived.Test.YtcjmkpkhjhjepaaCloneG
namespace Go.Proofs.Ytcjmkpkhjhjepaa.W
open Go Go.Vm Go.Proofs
set_option maxRecDepth 100000
set_option linter.unusedSimpArgs false
set_option maxHeartbeats 4000000
/-! typecase/typecaseref30.Apply -/
def c25 : AC :=
  (.seq (.reg [⟨some 4, none, .box (.s 0)⟩,
    ⟨some 5, none, .box (.s 1)⟩,
    ⟨some 8, none, .mov (.c .empty)⟩,
    ⟨some 9, none, .mov (.c (.pure (.bool false)))⟩])
  (.seq (.reg [⟨some 13, none, .mov (.s 2)⟩,
    ⟨some 14, none, .call 38 [(.s 13)]⟩,
    ⟨some 10, none, .mov (.s 14)⟩])
  (.seq (.reg [⟨some 16, none, .load true 6 (.s 4)⟩,
    ⟨some 17, none, .load true 4 (.s 5)⟩,
    ⟨some 18, none, .mov (.s 2)⟩,
    ⟨some 19, none, .mov (.s 3)⟩,
    ⟨some 20, none, .call 23 [(.s 16), (.s 17), (.s 18), (.s 19)]⟩,
    ⟨some 15, none, .mov (.s 20)⟩,
    ⟨some 21, none, .ext 0 (.s 15)⟩,
    ⟨some 22, none, .ext 1 (.s 15)⟩,
    ⟨some 11, none, .mov (.s 21)⟩,
    ⟨some 12, none, .mov (.s 22)⟩])
  (.seq (.seq (.reg [⟨some 23, none, .mov (.s 12)⟩,
    ⟨some 24, none, .un .not (.s 23)⟩])
  (.cond (.s 24)
  (.seq (.reg [⟨some 25, none, .mov (.s 10)⟩,
    ⟨some 8, none, .mov (.s 25)⟩,
    ⟨some 9, none, .mov (.c (.pure (.bool false)))⟩])
  .ret)
  .skip))
  (.seq (.regq [⟨some 26, none, .mov (.s 10)⟩,
    ⟨some 27, none, .mov (.s 3)⟩,
    ⟨some 28, none, .fldA 3 (.s 5)⟩,
    ⟨some 29, none, .load false 1 (.s 28)⟩,
    ⟨some 30, none, .mov (.s 11)⟩,
    ⟨some 31, none, .idxA 12 (.s 29) (.s 30)⟩,
    ⟨some 32, none, .fldA 1 (.s 31)⟩,
    ⟨some 33, none, .load false 1 (.s 32)⟩,
    ⟨some 34, none, .fldA 3 (.s 5)⟩,
    ⟨some 35, none, .load false 1 (.s 34)⟩,
    ⟨some 36, none, .mov (.s 11)⟩,
    ⟨some 37, none, .idxA 12 (.s 35) (.s 36)⟩,
    ⟨some 38, none, .fldA 0 (.s 37)⟩,
    ⟨some 39, none, .load false 1 (.s 38)⟩,
    ⟨some 40, none, .mov (.s 2)⟩,
    ⟨some 41, none, .mov (.s 3)⟩,
    ⟨some 42, none, .idxA 10 (.s 40) (.s 41)⟩,
    ⟨some 43, none, .fldA 0 (.s 42)⟩,
    ⟨some 44, none, .load false 1 (.s 43)⟩,
    ⟨some 45, none, .call 48 [(.s 39), (.s 44)]⟩,
    ⟨some 46, none, .idxA 1 (.s 33) (.s 45)⟩,
    ⟨some 47, none, .load false 1 (.s 46)⟩,
    ⟨some 48, none, .idxA 1 (.s 47) (.c (.pure (.int .i64 0)))⟩,
    ⟨some 49, none, .load false 1 (.s 48)⟩]
    [⟨some 50, none, .idxA 10 (.s 26) (.s 27)⟩,
    ⟨some 51, none, .fldA 0 (.s 50)⟩,
    ⟨none, none, .store 1 (.s 51) (.s 49)⟩])
  (.seq (.reg [⟨some 52, none, .mov (.s 10)⟩,
    ⟨some 8, none, .mov (.s 52)⟩,
    ⟨some 9, none, .mov (.c (.pure (.bool true)))⟩])
  .ret))))))
theorem k25 : (Try.f25.body.bind fun c => cCode Try.prog Try.f25.ntmps RCs c) = some c25 := by kernel_rfl
theorem h25 : (Try.f25.name == "runtime.NumGoroutine") = false := by kernel_rfl
theorem r25 : resC Try.prog Try.f25.results.toList = some [.t 8, .t 9] := by kernel_rfl
theorem a25 {args : List S} {H : Heap} {K : S → Heap → Prop} (hn : args.length ≤ 53) (h : aWx Try.prog H.length c25 (PostX [.t 8, .t 9] K) (argEnv 0 args) H) : CallA Try.prog 25 args H K :=
  callA_of_x mixed Try.func25 h25 k25 r25 (by rw [Try.ntmps25]; exact hn) h
theorem q25 {vs ds : List V} (hn : vs.length ≤ 53) (h : aWx Try.prog 0 c25 (PostX [.t 8, .t 9] (Gives ds)) (argEnv 0 (vs.map .pure)) []) : FnQ Try.prog 25 vs ds :=
  fnQ_of_call (a25 (by simpa using hn) h)
/-! typecase/reverse.Apply -/
def c24 : AC :=
  (.seq (.reg [⟨some 4, none, .box (.s 0)⟩,
    ⟨some 5, none, .box (.s 1)⟩,
    ⟨some 8, none, .mov (.c .empty)⟩,
    ⟨some 9, none, .mov (.c (.pure (.bool false)))⟩])
  (.seq (.reg [⟨some 16, none, .mov (.s 2)⟩,
    ⟨some 17, none, .call 36 [(.s 16)]⟩,
    ⟨some 10, none, .mov (.s 17)⟩])
  (.seq (.reg [⟨some 19, none, .load true 6 (.s 4)⟩,
    ⟨some 20, none, .load true 4 (.s 5)⟩,
    ⟨some 21, none, .mov (.s 2)⟩,
    ⟨some 22, none, .mov (.s 3)⟩,
    ⟨some 23, none, .call 22 [(.s 19), (.s 20), (.s 21), (.s 22)]⟩,
    ⟨some 18, none, .mov (.s 23)⟩,
    ⟨some 24, none, .ext 0 (.s 18)⟩,
    ⟨some 25, none, .ext 1 (.s 18)⟩,
    ⟨some 11, none, .mov (.s 24)⟩,
    ⟨some 12, none, .mov (.s 25)⟩])
  (.seq (.seq (.reg [⟨some 26, none, .mov (.s 12)⟩,
    ⟨some 27, none, .un .not (.s 26)⟩])
  (.cond (.s 27)
  (.seq (.reg [⟨some 28, none, .mov (.s 10)⟩,
    ⟨some 8, none, .mov (.s 28)⟩,
    ⟨some 9, none, .mov (.c (.pure (.bool false)))⟩])
  .ret)
  .skip))
  (.seq (.regq [⟨some 30, none, .fldA 3 (.s 5)⟩,
    ⟨some 31, none, .load false 1 (.s 30)⟩,
    ⟨some 32, none, .mov (.s 11)⟩,
    ⟨some 33, none, .idxA 12 (.s 31) (.s 32)⟩,
    ⟨some 34, none, .fldA 0 (.s 33)⟩,
    ⟨some 35, none, .load false 1 (.s 34)⟩,
    ⟨some 36, none, .mov (.s 2)⟩,
    ⟨some 37, none, .mov (.s 3)⟩,
    ⟨some 38, none, .idxA 10 (.s 36) (.s 37)⟩,
    ⟨some 39, none, .fldA 0 (.s 38)⟩,
    ⟨some 40, none, .load false 1 (.s 39)⟩,
    ⟨some 41, none, .call 43 [(.s 35), (.s 40)]⟩,
    ⟨some 29, none, .mov (.s 41)⟩,
    ⟨some 42, none, .ext 0 (.s 29)⟩,
    ⟨some 43, none, .ext 1 (.s 29)⟩,
    ⟨some 13, none, .mov (.s 42)⟩]
    [⟨some 14, none, .mov (.s 43)⟩])
  (.seq (.seq (.reg [⟨some 44, none, .fldA 3 (.s 5)⟩,
    ⟨some 45, none, .load false 1 (.s 44)⟩,
    ⟨some 46, none, .mov (.s 11)⟩,
    ⟨some 47, none, .idxA 12 (.s 45) (.s 46)⟩,
    ⟨some 48, none, .fldA 1 (.s 47)⟩,
    ⟨some 49, none, .load false 1 (.s 48)⟩,
    ⟨some 15, none, .mov (.s 49)⟩])
  (.seq (.reg [⟨some 50, none, .mov (.s 13)⟩,
    ⟨some 51, none, .mov (.s 15)⟩,
    ⟨some 52, none, .len (.s 51)⟩,
    ⟨some 53, none, .bin .lss (.s 50) (.s 52)⟩,
    ⟨some 54, none, .mov (.s 53)⟩,
    ⟨some 55, some (54, true), .mov (.s 15)⟩,
    ⟨some 56, some (54, true), .mov (.s 13)⟩,
    ⟨some 57, some (54, true), .idxA 1 (.s 55) (.s 56)⟩,
    ⟨some 58, some (54, true), .load false 1 (.s 57)⟩,
    ⟨some 59, some (54, true), .len (.s 58)⟩,
    ⟨some 60, some (54, true), .bin .gtr (.s 59) (.c (.pure (.int .i64 0)))⟩,
    ⟨some 61, none, .pick (.s 54) (.s 60) (.c (.pure (.bool false)))⟩])
  (.cond (.s 61)
  (.reg [⟨some 62, none, .mov (.s 10)⟩,
    ⟨some 63, none, .mov (.s 3)⟩,
    ⟨some 64, none, .mov (.s 15)⟩,
    ⟨some 65, none, .mov (.s 13)⟩,
    ⟨some 66, none, .idxA 1 (.s 64) (.s 65)⟩,
    ⟨some 67, none, .load false 1 (.s 66)⟩,
    ⟨some 68, none, .idxA 1 (.s 67) (.c (.pure (.int .i64 0)))⟩,
    ⟨some 69, none, .load false 1 (.s 68)⟩,
    ⟨some 70, none, .idxA 10 (.s 62) (.s 63)⟩,
    ⟨some 71, none, .fldA 0 (.s 70)⟩,
    ⟨none, none, .store 1 (.s 71) (.s 69)⟩])
  .skip)))
  (.seq (.reg [⟨some 72, none, .mov (.s 10)⟩,
    ⟨some 8, none, .mov (.s 72)⟩,
    ⟨some 9, none, .mov (.c (.pure (.bool true)))⟩])
  .ret)))))))
theorem k24 : (Try.f24.body.bind fun c => cCode Try.prog Try.f24.ntmps RCs c) = some c24 := by kernel_rfl
theorem h24 : (Try.f24.name == "runtime.NumGoroutine") = false := by kernel_rfl
theorem r24 : resC Try.prog Try.f24.results.toList = some [.t 8, .t 9] := by kernel_rfl
theorem a24 {args : List S} {H : Heap} {K : S → Heap → Prop} (hn : args.length ≤ 73) (h : aWx Try.prog H.length c24 (PostX [.t 8, .t 9] K) (argEnv 0 args) H) : CallA Try.prog 24 args H K :=
  callA_of_x mixed Try.func24 h24 k24 r24 (by rw [Try.ntmps24]; exact hn) h
theorem q24 {vs ds : List V} (hn : vs.length ≤ 73) (h : aWx Try.prog 0 c24 (PostX [.t 8, .t 9] (Gives ds)) (argEnv 0 (vs.map .pure)) []) : FnQ Try.prog 24 vs ds :=
  fnQ_of_call (a24 (by simpa using hn) h)

/-- what Reverse asks of a font's lookup -/
structure RevK (k : Lk) : Prop where
  sets : ∀ s ∈ k.subs, s.back.length ≤ 1000 ∧ s.ahead.length ≤ 1000
  tos : ∀ s ∈ k.subs, s.to.length = s.cover.length ∧ ∀ t ∈ s.to, t.length = 1
theorem RevK.s {k : Lk} (h : RevK k) : RevS k := ⟨h.sets⟩
def dR (f : Fo) (k : Lk) (ls : List Gl) (x : Int) : List V := [.sl ((doR f k ls x).map gl), .bool (holdR f k ls x).isSome]
theorem subAt_map {l : List Sub} {i : Nat} (h : i < l.length) : (l.map sub)[i]? = some (sub (subAt l i)) := by
  rw [List.getElem?_map, subAt, List.getElem?_eq_getElem h]; rfl
theorem toR_row {s : Sub} {g : Int} (h : s.to.length = s.cover.length) (h1 : ∀ t ∈ s.to, t.length = 1) (hg : 0 ≤ idxF g 0 s.cover) :
    (s.to.map LI)[(idxF g 0 s.cover).toNat]? = some (LI [toR s g]) := by
  have hb := idxF_lt (x := g) (l := s.cover) (k := 0) (by omega) hg
  have hlt : (idxF g 0 s.cover).toNat < s.to.length := by omega
  rw [List.getElem?_map, List.getElem?_eq_getElem hlt, Option.map_some, toR, List.getElem?_eq_getElem hlt, Option.getD_some]
  have h2 := h1 _ (List.getElem_mem hlt)
  generalize s.to[(idxF g 0 s.cover).toNat] = t at *
  match t, h2 with
  | [a], _ => rfl
theorem rapply30_q (f : Fo) (k : Lk) (hs : k.kind = 5 → RevK k) (ls : List Gl) (hl : ls.length ≤ 1000) (x : Int) : FnQ Try.prog 25 [fo f, lk k, .sl (ls.map gl), I x] (dR f k ls x) := by
  refine q25 (by simp) ?_
  unfold c25
  have hq := rholds_q f k (fun e => (hs e).s) ls hl x
  have hin := @holdR_some f k ls x
  have ho : dR f k ls x = [.sl ((match holdR f k ls x with
    | none => ls
    | some i => ls.set x.toNat (idG (glAt ls x) (toR (subAt k.subs i) (glAt ls x).id))).map gl), .bool (holdR f k ls x).isSome] := rfl
  generalize dR f k ls x = out at *
  generalize holdR f k ls x = o at *
  simp -implicitDefEqProofs only [vmp,↓vmd,seval]
  refine onC_fr (copy27_c ls hl) [] (by simp) trivial rfl rfl (by simp) ?_
  first | refine envO (by simp -implicitDefEqProofs only [vmp,↓vmd,seval]; rfl) ?_ | refine envQ (by simp -implicitDefEqProofs only [vmp,↓vmd,seval]; rfl) ?_
  simp -implicitDefEqProofs only [vmp,↓vmd,seval]
  refine onC_q hq rfl ?_
  cases o with
  | none =>
    subst ho
    first | refine envO (by simp -implicitDefEqProofs only [vmp,↓vmd,seval]; rfl) ?_ | refine envQ (by simp -implicitDefEqProofs only [vmp,↓vmd,seval]; rfl) ?_
    simp -implicitDefEqProofs only [hoR, Option.getD_none, Option.isSome_none, vmp,↓vmd,seval]
    exact gives_tup (toVs_of (toV_rowN rfl (.inr ⟨rfl, rfl⟩) (by simp)) rfl) (by simp)
  | some i =>
    obtain ⟨h5, x0, x1, hi, hm, hst⟩ := hin rfl
    have hgx := glAt_map x0 x1
    have hgi := subAt_map hi
    obtain ⟨t1, t2⟩ := (hs h5).tos _ hm
    have hp : 0 ≤ idxF (glAt ls x).id 0 (subAt k.subs i).cover := by
      rw [stR] at hst
      simp only [Bool.and_eq_true, decide_eq_true_eq] at hst
      exact hst.1.1
    have hto := toR_row t1 t2 hp
    simp only at ho
    generalize subAt k.subs i = s at *
    first | refine envO (by simp -implicitDefEqProofs only [vmp,↓vmd,seval]; rfl) ?_ | refine envQ (by simp -implicitDefEqProofs only [vmp,↓vmd,seval]; rfl) ?_
    simp -implicitDefEqProofs only [hoR, Option.getD_some, Option.isSome_some, hgi, hgx, x0, Int.natCast_nonneg, vmp,↓vmd,seval]
    refine onQ_q (place30_q s.cover (glAt ls x).id) rfl ?_
    generalize toR s (glAt ls x).id = v at *
    generalize idxF (glAt ls x).id 0 s.cover = pl at *
    have hgr := glAt_row x0 x1
    have hset : ∀ (c0 c1 c2 c3 c4 c5 c6 c7 c8 c9 : Int), ((ls.map gl).map S.pure).set x.toNat (.pure (.agg [I c0, I c1, I c2, I c3, I c4, I c5, I c6, I c7, I c8, I c9])) = ((ls.set x.toNat ⟨c0, c1, c2, c3, c4, c5, c6, c7, c8, c9⟩).map gl).map S.pure := by
      intro c0 c1 c2 c3 c4 c5 c6 c7 c8 c9
      rw [List.map_set, List.map_set]
    first | refine envO (by simp -implicitDefEqProofs only [vmp,↓vmd,seval]; rfl) ?_ | refine envQ (by simp -implicitDefEqProofs only [vmp,↓vmd,seval]; rfl) ?_
    simp -implicitDefEqProofs only [hto, hp, hgr, x0, x1, hset, vmp,↓vmd,seval]
    subst ho
    exact gives_tup (toVs_of (toV_rowN (f := gl) (X := ls.set x.toNat (idG (glAt ls x) v)) rfl (.inr ⟨rfl, rfl⟩) (by simp)) rfl) (by simp)
theorem apply30_q (f : Fo) (k : Lk) (hs : k.kind = 5 → RevK k) (ls : List Gl) (hl : ls.length ≤ 1000) (x : Int) : FnQ Try.prog 24 [fo f, lk k, .sl (ls.map gl), I x] (dR f k ls x) := by
  refine q24 (by simp) ?_
  unfold c24
  have hq := holds_q f k (fun e => (hs e).s) ls hl x
  have hin := @holdR_some f k ls x
  have ho : dR f k ls x = [.sl ((match holdR f k ls x with
    | none => ls
    | some i => ls.set x.toNat (idG (glAt ls x) (toR (subAt k.subs i) (glAt ls x).id))).map gl), .bool (holdR f k ls x).isSome] := rfl
  generalize dR f k ls x = out at *
  generalize holdR f k ls x = o at *
  simp -implicitDefEqProofs only [vmp,↓vmd,seval]
  refine onC_fr (cloneG_c ls hl) [] (by simp) trivial rfl rfl (by simp) ?_
  first | refine envO (by simp -implicitDefEqProofs only [vmp,↓vmd,seval]; rfl) ?_ | refine envQ (by simp -implicitDefEqProofs only [vmp,↓vmd,seval]; rfl) ?_
  simp -implicitDefEqProofs only [vmp,↓vmd,seval]
  refine onC_q hq rfl ?_
  cases o with
  | none =>
    subst ho
    first | refine envO (by simp -implicitDefEqProofs only [vmp,↓vmd,seval]; rfl) ?_ | refine envQ (by simp -implicitDefEqProofs only [vmp,↓vmd,seval]; rfl) ?_
    simp -implicitDefEqProofs only [hoR, Option.getD_none, Option.isSome_none, vmp,↓vmd,seval]
    exact gives_tup (toVs_of (toV_rowN rfl (.inr ⟨rfl, rfl⟩) (by simp)) rfl) (by simp)
  | some i =>
    obtain ⟨h5, x0, x1, hi, hm, hst⟩ := hin rfl
    have hgx := glAt_map x0 x1
    have hgi := subAt_map hi
    obtain ⟨t1, t2⟩ := (hs h5).tos _ hm
    have hp : 0 ≤ idxF (glAt ls x).id 0 (subAt k.subs i).cover := by
      rw [stR] at hst
      simp only [Bool.and_eq_true, decide_eq_true_eq] at hst
      exact hst.1.1
    have hto := toR_row t1 t2 hp
    have hlt := (idxF_lt (x := (glAt ls x).id) (l := (subAt k.subs i).cover) (k := 0) (by omega) hp).2
    simp only at ho
    generalize subAt k.subs i = s at *
    first | refine envO (by simp -implicitDefEqProofs only [vmp,↓vmd,seval]; rfl) ?_ | refine envQ (by simp -implicitDefEqProofs only [vmp,↓vmd,seval]; rfl) ?_
    simp -implicitDefEqProofs only [hoR, Option.getD_some, Option.isSome_some, hgi, hgx, x0, Int.natCast_nonneg, vmp,↓vmd,seval]
    refine onQ_q (cindex_q s.cover (glAt ls x).id) rfl ?_
    rw [decide_eq_true hp, show max (idxF (glAt ls x).id 0 s.cover) 0 = idxF (glAt ls x).id 0 s.cover by omega]
    generalize toR s (glAt ls x).id = v at *
    generalize idxF (glAt ls x).id 0 s.cover = pl at *
    have hgr := glAt_row x0 x1
    have hset : ∀ (c0 c1 c2 c3 c4 c5 c6 c7 c8 c9 : Int), ((ls.map gl).map S.pure).set x.toNat (.pure (.agg [I c0, I c1, I c2, I c3, I c4, I c5, I c6, I c7, I c8, I c9])) = ((ls.set x.toNat ⟨c0, c1, c2, c3, c4, c5, c6, c7, c8, c9⟩).map gl).map S.pure := by
      intro c0 c1 c2 c3 c4 c5 c6 c7 c8 c9
      rw [List.map_set, List.map_set]
    have hlt' : pl < (s.to.length : Int) := by omega
    first | refine envO (by simp -implicitDefEqProofs only [vmp,↓vmd,seval]; rfl) ?_ | refine envQ (by simp -implicitDefEqProofs only [vmp,↓vmd,seval]; rfl) ?_
    simp -implicitDefEqProofs only [hgi, Int.natCast_nonneg, vmp,↓vmd,seval]
    refine onIf_intro fun _ => ?_
    first | refine envO (by simp -implicitDefEqProofs only [vmp,↓vmd,seval]; rfl) ?_ | refine envQ (by simp -implicitDefEqProofs only [vmp,↓vmd,seval]; rfl) ?_
    simp -implicitDefEqProofs only [vmp,↓vmd,seval]
    refine onB_pos hlt' ?_
    have hltd : decide (pl < (s.to.length : Int)) = true := decide_eq_true hlt'
    first | refine envO (by simp -implicitDefEqProofs only [hltd, vmp,↓vmd,seval]; rfl) ?_ | refine envQ (by simp -implicitDefEqProofs only [hltd, vmp,↓vmd,seval]; rfl) ?_
    simp -implicitDefEqProofs only [hto, hp, hgr, x0, x1, hset, true_and, and_self, if_true, vmp,↓vmd,seval]
    subst ho
    exact gives_tup (toVs_of (toV_rowN (f := gl) (X := ls.set x.toNat (idG (glAt ls x) v)) rfl (.inr ⟨rfl, rfl⟩) (by simp)) rfl) (by simp)
end Go.Proofs.Ytcjmkpkhjhjepaa.W
