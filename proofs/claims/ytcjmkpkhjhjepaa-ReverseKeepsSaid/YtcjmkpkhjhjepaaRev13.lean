/-
  The law of what lookups that go from behind leave alone.
-/
import Derived.Test.YtcjmkpkhjhjepaaRev11
namespace Go.Proofs.Ytcjmkpkhjhjepaa.W
open Go Go.Vm Go.Proofs
set_option maxRecDepth 100000
set_option linter.unusedSimpArgs false
set_option maxHeartbeats 4000000
/-! typecase/typecaselaw30.covered -/
def c28_0 : AC :=
  (.seq (.reg [⟨some 4, none, .mov (.c (.pure (.bool false)))⟩])
  .ret)
def c28_1 : AC :=
  (.reg [⟨some 12, none, .mov (.s 5)⟩,
    ⟨some 13, none, .bin .add (.s 12) (.c (.pure (.int .i64 1)))⟩,
    ⟨some 5, none, .mov (.s 13)⟩])
def c28_2 : AC :=
  (.seq (.seq (.reg [⟨some 14, none, .mov (.s 6)⟩,
    ⟨some 15, none, .fldA 3 (.s 2)⟩,
    ⟨some 16, none, .load false 1 (.s 15)⟩,
    ⟨some 17, none, .mov (.s 5)⟩,
    ⟨some 18, none, .idxA 12 (.s 16) (.s 17)⟩,
    ⟨some 19, none, .fldA 0 (.s 18)⟩,
    ⟨some 20, none, .load false 1 (.s 19)⟩,
    ⟨some 21, none, .len (.s 20)⟩,
    ⟨some 22, none, .bin .lss (.s 14) (.s 21)⟩])
  (.cond (.s 22)
  .skip
  (.exit 2)))
  (.seq (.block 3
  (.seq (.reg [⟨some 25, none, .fldA 3 (.s 2)⟩,
    ⟨some 26, none, .load false 1 (.s 25)⟩,
    ⟨some 27, none, .mov (.s 5)⟩,
    ⟨some 28, none, .idxA 12 (.s 26) (.s 27)⟩,
    ⟨some 29, none, .fldA 0 (.s 28)⟩,
    ⟨some 30, none, .load false 1 (.s 29)⟩,
    ⟨some 31, none, .mov (.s 6)⟩,
    ⟨some 32, none, .idxA 1 (.s 30) (.s 31)⟩,
    ⟨some 33, none, .load false 1 (.s 32)⟩,
    ⟨some 34, none, .mov (.s 1)⟩,
    ⟨some 35, none, .bin .eql (.s 33) (.s 34)⟩])
  (.cond (.s 35)
  (.seq (.reg [⟨some 4, none, .mov (.c (.pure (.bool true)))⟩])
  .ret)
  .skip)))
  (.reg [⟨some 23, none, .mov (.s 6)⟩,
    ⟨some 24, none, .bin .add (.s 23) (.c (.pure (.int .i64 1)))⟩,
    ⟨some 6, none, .mov (.s 24)⟩])))
def c28_3 : AC :=
  (.seq (.seq (.reg [⟨some 7, none, .mov (.s 5)⟩,
    ⟨some 8, none, .fldA 3 (.s 2)⟩,
    ⟨some 9, none, .load false 1 (.s 8)⟩,
    ⟨some 10, none, .len (.s 9)⟩,
    ⟨some 11, none, .bin .lss (.s 7) (.s 10)⟩])
  (.cond (.s 11)
  .skip
  (.exit 0)))
  (.seq (.block 1
  (.seq (.reg [⟨some 6, none, .mov (.c (.pure (.int .i64 0)))⟩])
  (.block 2
  (.loop c28_2))))
  c28_1))
def c28 : AC :=
  (.seq (.reg [⟨some 2, none, .box (.s 0)⟩,
    ⟨some 4, none, .mov (.c (.pure (.bool false)))⟩])
  (.seq (.seq (.reg [⟨some 5, none, .mov (.c (.pure (.int .i64 0)))⟩])
  (.block 0
  (.loop c28_3)))
  c28_0))
theorem k28 : (Try.f28.body.bind fun c => cCode Try.prog Try.f28.ntmps RCs c) = some c28 := by kernel_rfl
theorem h28 : (Try.f28.name == "runtime.NumGoroutine") = false := by kernel_rfl
theorem r28 : resC Try.prog Try.f28.results.toList = some [.t 4] := by kernel_rfl
theorem a28 {args : List S} {H : Heap} {K : S → Heap → Prop} (hn : args.length ≤ 36) (h : aWx Try.prog H.length c28 (PostX [.t 4] K) (argEnv 0 args) H) : CallA Try.prog 28 args H K :=
  callA_of_x mixed Try.func28 h28 k28 r28 (by rw [Try.ntmps28]; exact hn) h
theorem q28 {vs ds : List V} (hn : vs.length ≤ 36) (h : aWx Try.prog 0 c28 (PostX [.t 4] (Gives ds)) (argEnv 0 (vs.map .pure)) []) : FnQ Try.prog 28 vs ds :=
  fnQ_of_call (a28 (by simpa using hn) h)
/-! typecase/typecaselaw30.ReverseKeeps -/
def c8_0 : AC :=
  (.seq (.reg [⟨some 101, none, .call 21 []⟩,
    ⟨some 6, none, .mov (.s 101)⟩])
  .ret)
def c8_1 : AC :=
  (.seq (.seq (.reg [⟨some 56, none, .mov (.s 10)⟩,
    ⟨some 57, none, .mov (.s 9)⟩,
    ⟨some 58, none, .len (.s 57)⟩,
    ⟨some 59, none, .bin .lss (.s 56) (.s 58)⟩])
  (.cond (.s 59)
  .skip
  (.exit 0)))
  (.seq (.block 1
  (.seq (.reg [⟨some 62, none, .mov (.s 9)⟩,
    ⟨some 63, none, .mov (.s 10)⟩,
    ⟨some 64, none, .idxA 10 (.s 62) (.s 63)⟩,
    ⟨some 65, none, .load true 10 (.s 64)⟩,
    ⟨some 11, none, .box (.c (.pure (.agg [(.int .i64 0), (.int .i64 0), (.int .i64 0), (.int .i64 0), (.int .i64 0), (.int .i64 0), (.int .i64 0), (.int .i64 0), (.int .i64 0), (.int .i64 0)])))⟩,
    ⟨none, none, .store 10 (.s 11) (.s 65)⟩])
  (.seq (.reg [⟨some 66, none, .mov (.s 1)⟩,
    ⟨some 67, none, .mov (.s 10)⟩,
    ⟨some 68, none, .idxA 10 (.s 66) (.s 67)⟩,
    ⟨some 69, none, .fldA 0 (.s 68)⟩,
    ⟨some 70, none, .load false 1 (.s 69)⟩,
    ⟨some 71, none, .fldA 0 (.s 11)⟩,
    ⟨none, none, .store 1 (.s 71) (.s 70)⟩])
  (.seq (.regq [⟨some 72, none, .load true 10 (.s 11)⟩,
    ⟨some 73, none, .mov (.s 1)⟩,
    ⟨some 74, none, .mov (.s 10)⟩,
    ⟨some 75, none, .idxA 10 (.s 73) (.s 74)⟩,
    ⟨some 76, none, .load true 10 (.s 75)⟩,
    ⟨some 77, none, .eqv true [.i, .i, .i, .i, .i, .i, .i, .i, .i, .i] (.s 72) (.s 76)⟩,
    ⟨some 78, none, .mov (.s 77)⟩,
    ⟨some 79, some (78, false), .mov (.s 9)⟩,
    ⟨some 80, some (78, false), .mov (.s 10)⟩,
    ⟨some 81, some (78, false), .idxA 10 (.s 79) (.s 80)⟩,
    ⟨some 82, some (78, false), .fldA 0 (.s 81)⟩,
    ⟨some 83, some (78, false), .load false 1 (.s 82)⟩,
    ⟨some 84, some (78, false), .mov (.s 1)⟩,
    ⟨some 85, some (78, false), .mov (.s 10)⟩,
    ⟨some 86, some (78, false), .idxA 10 (.s 84) (.s 85)⟩,
    ⟨some 87, some (78, false), .fldA 0 (.s 86)⟩,
    ⟨some 88, some (78, false), .load false 1 (.s 87)⟩,
    ⟨some 89, some (78, false), .bin .neq (.s 83) (.s 88)⟩,
    ⟨some 90, some (78, false), .mov (.s 89)⟩,
    ⟨some 91, some (90, true), .load true 4 (.s 7)⟩,
    ⟨some 92, some (90, true), .mov (.s 1)⟩,
    ⟨some 93, some (90, true), .mov (.s 10)⟩,
    ⟨some 94, some (90, true), .idxA 10 (.s 92) (.s 93)⟩,
    ⟨some 95, some (90, true), .fldA 0 (.s 94)⟩,
    ⟨some 96, some (90, true), .load false 1 (.s 95)⟩]
    [⟨some 97, some (90, true), .call 28 [(.s 91), (.s 96)]⟩,
    ⟨some 98, some (90, true), .un .not (.s 97)⟩,
    ⟨some 99, some (78, false), .pick (.s 90) (.s 98) (.c (.pure (.bool false)))⟩,
    ⟨some 100, none, .pick (.s 78) (.c (.pure (.bool true))) (.s 99)⟩])
  (.cond (.s 100)
  (.seq (.reg [⟨some 6, none, .mov (.c (.pure (.bool false)))⟩])
  .ret)
  .skip)))))
  (.reg [⟨some 60, none, .mov (.s 10)⟩,
    ⟨some 61, none, .bin .add (.s 60) (.c (.pure (.int .i64 1)))⟩,
    ⟨some 10, none, .mov (.s 61)⟩])))
def c8 : AC :=
  (.seq (.reg [⟨some 3, none, .box (.s 0)⟩,
    ⟨some 6, none, .mov (.c (.pure (.bool false)))⟩])
  (.seq (.reg [⟨some 13, none, .load true 6 (.s 3)⟩,
    ⟨some 14, none, .mov (.s 2)⟩,
    ⟨some 15, none, .call 10 [(.s 13), (.s 14)]⟩,
    ⟨some 12, none, .mov (.s 15)⟩,
    ⟨some 16, none, .ext 0 (.s 12)⟩,
    ⟨some 17, none, .ext 1 (.s 12)⟩,
    ⟨some 7, none, .box (.c (.agg [(.pure (.int .i64 0)), (.pure (.int .i64 0)), (.pure (.int .i64 0)), .empty]))⟩,
    ⟨none, none, .store 4 (.s 7) (.s 16)⟩,
    ⟨some 8, none, .mov (.s 17)⟩])
  (.seq (.seq (.reg [⟨some 18, none, .mov (.s 8)⟩,
    ⟨some 19, none, .un .not (.s 18)⟩,
    ⟨some 20, none, .mov (.s 19)⟩,
    ⟨some 21, some (20, false), .load true 6 (.s 3)⟩,
    ⟨some 22, some (20, false), .mov (.s 1)⟩,
    ⟨some 23, some (20, false), .call 11 [(.s 21), (.s 22)]⟩,
    ⟨some 24, some (20, false), .un .not (.s 23)⟩,
    ⟨some 25, none, .pick (.s 20) (.c (.pure (.bool true))) (.s 24)⟩])
  (.cond (.s 25)
  (.seq (.reg [⟨some 26, none, .call 21 []⟩,
    ⟨some 6, none, .mov (.s 26)⟩])
  .ret)
  .skip))
  (.seq (.reg [⟨some 27, none, .load true 6 (.s 3)⟩,
    ⟨some 28, none, .load true 4 (.s 7)⟩,
    ⟨some 29, none, .mov (.s 1)⟩,
    ⟨some 30, none, .call 26 [(.s 27), (.s 28), (.s 29), (.c (.pure (.int .i64 (-1))))]⟩,
    ⟨some 9, none, .mov (.s 30)⟩])
  (.seq (.seq (.reg [⟨some 31, none, .mov (.s 9)⟩,
    ⟨some 32, none, .len (.s 31)⟩,
    ⟨some 33, none, .mov (.s 1)⟩,
    ⟨some 34, none, .len (.s 33)⟩,
    ⟨some 35, none, .bin .neq (.s 32) (.s 34)⟩,
    ⟨some 36, none, .mov (.s 35)⟩,
    ⟨some 37, some (36, false), .load true 6 (.s 3)⟩,
    ⟨some 38, some (36, false), .load true 4 (.s 7)⟩,
    ⟨some 39, some (36, false), .mov (.s 1)⟩,
    ⟨some 40, some (36, false), .call 26 [(.s 37), (.s 38), (.s 39), (.c (.pure (.int .i64 0)))]⟩,
    ⟨some 41, some (36, false), .mov (.s 1)⟩,
    ⟨some 42, some (36, false), .call 20 [(.s 40), (.s 41)]⟩,
    ⟨some 43, some (36, false), .un .not (.s 42)⟩,
    ⟨some 44, none, .pick (.s 36) (.c (.pure (.bool true))) (.s 43)⟩,
    ⟨some 45, none, .mov (.s 44)⟩,
    ⟨some 46, some (45, false), .fldA 0 (.s 7)⟩,
    ⟨some 47, some (45, false), .load false 1 (.s 46)⟩,
    ⟨some 48, some (45, false), .bin .neq (.s 47) (.c (.pure (.int .i64 5)))⟩,
    ⟨some 49, some (45, false), .mov (.s 48)⟩,
    ⟨some 50, some (49, true), .mov (.s 9)⟩,
    ⟨some 51, some (49, true), .mov (.s 1)⟩,
    ⟨some 52, some (49, true), .call 20 [(.s 50), (.s 51)]⟩,
    ⟨some 53, some (49, true), .un .not (.s 52)⟩,
    ⟨some 54, some (45, false), .pick (.s 49) (.s 53) (.c (.pure (.bool false)))⟩,
    ⟨some 55, none, .pick (.s 45) (.c (.pure (.bool true))) (.s 54)⟩])
  (.cond (.s 55)
  (.seq (.reg [⟨some 6, none, .mov (.c (.pure (.bool false)))⟩])
  .ret)
  .skip))
  (.seq (.seq (.reg [⟨some 10, none, .mov (.c (.pure (.int .i64 0)))⟩])
  (.block 0
  (.loop c8_1)))
  c8_0))))))
theorem k8 : (Try.f8.body.bind fun c => cCode Try.prog Try.f8.ntmps RCs c) = some c8 := by kernel_rfl
theorem h8 : (Try.f8.name == "runtime.NumGoroutine") = false := by kernel_rfl
theorem r8 : resC Try.prog Try.f8.results.toList = some [.t 6] := by kernel_rfl
theorem a8 {args : List S} {H : Heap} {K : S → Heap → Prop} (hn : args.length ≤ 102) (h : aWx Try.prog H.length c8 (PostX [.t 6] K) (argEnv 0 args) H) : CallA Try.prog 8 args H K :=
  callA_of_x mixed Try.func8 h8 k8 r8 (by rw [Try.ntmps8]; exact hn) h
theorem q8 {vs ds : List V} (hn : vs.length ≤ 102) (h : aWx Try.prog 0 c8 (PostX [.t 6] (Gives ds)) (argEnv 0 (vs.map .pure)) []) : FnQ Try.prog 8 vs ds :=
  fnQ_of_call (a8 (by simpa using hn) h)

/-- is a glyph in the cover of one of these subtables? -/
def covS : List Sub → Int → Bool
  | [], _ => false
  | s :: r, g => decide (g ∈ s.cover) || covS r g
theorem covS_of {s : Sub} {g : Int} : ∀ {l : List Sub}, s ∈ l → g ∈ s.cover → covS l g = true
  | t :: r, h, hg => by
    rw [covS, Bool.or_eq_true, decide_eq_true_eq]
    rcases List.mem_cons.1 h with rfl | h
    · exact .inl hg
    · exact .inr (covS_of h hg)
/-- what has become of a glyph -/
def keptG (k : Lk) (a b : Gl) : Prop := idG b a.id = a ∧ (b.id ≠ a.id → covS k.subs a.id = true)
theorem keptG_refl (k : Lk) (a : Gl) : keptG k a a := ⟨by cases a; rfl, fun h => absurd rfl h⟩
theorem glAt_set_ne {ls : List Gl} {i j : Nat} {g : Gl} (h : j ≠ i) : glAt (ls.set i g) (j : Int) = glAt ls (j : Int) := by
  rw [glAt, glAt, Int.toNat_natCast, List.getElem?_set_ne (fun e => h e.symm)]
theorem glAt_set_eq {ls : List Gl} {i : Nat} {g : Gl} (h : i < ls.length) : glAt (ls.set i g) (i : Int) = g := by
  rw [glAt, Int.toNat_natCast, List.getElem?_set_self h]; rfl
theorem doR_kept {f : Fo} {k : Lk} {ls : List Gl} {i : Nat} (hi : i < ls.length) : (∀ j : Nat, j ≠ i → glAt (doR f k ls (i : Int)) (j : Int) = glAt ls (j : Int)) ∧ keptG k (glAt ls (i : Int)) (glAt (doR f k ls (i : Int)) (i : Int)) := by
  rw [doR]
  cases h : holdR f k ls (i : Int) with
  | none => exact ⟨fun _ _ => rfl, keptG_refl _ _⟩
  | some n =>
    obtain ⟨_, _, _, _, hm, hst⟩ := holdR_some h
    simp only [Int.toNat_natCast]
    refine ⟨fun j hj => glAt_set_ne hj, ?_⟩
    rw [glAt_set_eq hi]
    refine ⟨by simp [idG], fun _ => covS_of hm ?_⟩
    rw [stR] at hst
    simp only [Bool.and_eq_true, decide_eq_true_eq] at hst
    exact (idxF_mem (Int.le_refl 0)).1 hst.1.1
theorem goA_kept {f : Fo} {k : Lk} {mask : Int} : ∀ {n : Nat} {ls : List Gl}, n ≤ ls.length → (∀ j : Nat, n ≤ j → glAt (goA f k mask n ls) (j : Int) = glAt ls (j : Int)) ∧ ∀ j : Nat, j < n → keptG k (glAt ls (j : Int)) (glAt (goA f k mask n ls) (j : Int))
  | 0, ls, _ => ⟨fun _ _ => rfl, fun j h => by omega⟩
  | n + 1, ls, hn => by
    rw [goA]
    split
    · obtain ⟨h1, h2⟩ := goA_kept (f := f) (k := k) (mask := mask) (n := n) (ls := ls) (by omega)
      refine ⟨fun j hj => h1 j (by omega), fun j hj => ?_⟩
      by_cases e : j < n
      · exact h2 j e
      · rw [h1 j (by omega)]; exact keptG_refl _ _
    · obtain ⟨d1, d2⟩ := doR_kept (f := f) (k := k) (ls := ls) (i := n) (by omega)
      obtain ⟨h1, h2⟩ := goA_kept (f := f) (k := k) (mask := mask) (n := n) (ls := doR f k ls (n : Int)) (by rw [doR_len]; omega)
      refine ⟨fun j hj => by rw [h1 j (by omega), d1 j (by omega)], fun j hj => ?_⟩
      by_cases e : j < n
      · have := h2 j e
        rwa [d1 j (by omega)] at this
      · obtain rfl : j = n := by omega
        rw [h1 j (by omega)]
        exact d2
theorem goA_zero {f : Fo} {k : Lk} : ∀ {n : Nat} {ls : List Gl}, goA f k 0 n ls = ls
  | 0, _ => rfl
  | n + 1, ls => by
    rw [goA, if_pos (.inl (by simp [andE]; try decide)), goA_zero]
theorem goA_kind {f : Fo} {k : Lk} {mask : Int} (h : k.kind ≠ 5) : ∀ {n : Nat} {ls : List Gl}, goA f k mask n ls = ls
  | 0, _ => rfl
  | n + 1, ls => by
    have : doR f k ls (n : Int) = ls := by rw [doR, holdR, if_neg (fun e => h e.1)]
    rw [goA, this, ite_self, goA_kind h]
theorem covS_any {l : List Sub} {g : Int} : covS l g = l.any fun s => decide (g ∈ s.cover) := by
  induction l with
  | nil => rfl
  | cons s r ih => rw [covS, List.any_cons, ih]
theorem covered_q (k : Lk) (g : Int) : FnQ Try.prog 28 [lk k, I g] [.bool (covS k.subs g)] := by
  refine q28 (by simp) ?_
  unfold c28
  simp -implicitDefEqProofs only [vmp,↓vmd,seval]
  refine loop_at (T := Nat) (fun i => [(5, .pure (I i)), (2, .ptr 0 0 0), (1, .pure (I g))]) (fun _ => [⟨[.pure (lk k)], 4, .live⟩]) (fun i => i ≤ k.subs.length ∧ covS (k.subs.drop i) g = covS k.subs g) (fun i => k.subs.length - i)
    0 [0] (by simp) rfl ⟨by simp, by simp⟩ (by simp -implicitDefEqProofs only [kpp,seval]) (by simp -implicitDefEqProofs only [kpp,seval]) ?_
  rintro i ⟨hi, hr⟩
  unfold c28_3
  simp -implicitDefEqProofs only [vmp,↓vmd,seval]
  refine onIf_intro fun hlen => ?_
  first | refine envO (by simp -implicitDefEqProofs only [vmp,↓vmd,seval]; rfl) ?_ | refine envQ (by simp -implicitDefEqProofs only [vmp,↓vmd,seval]; rfl) ?_
  simp -implicitDefEqProofs only [vmp,↓vmd,seval]
  refine onB_dec (fun h1 => ?_) (fun h1 => ?_)
  · have hlt : i < k.subs.length := by omega
    rw [drop_at hlt, covS] at hr
    have hgi : (k.subs.map sub)[i]? = some (sub k.subs[i]) := map_at hlt
    generalize k.subs[i] = s at hr hgi
    simp -implicitDefEqProofs only [h1, vmp,↓vmd,seval]
    refine loop_at (T := Nat) (fun j => [(6, .pure (I j)), (5, .pure (I i)), (2, .ptr 0 0 0), (1, .pure (I g))]) (fun _ => [⟨[.pure (lk k)], 4, .live⟩]) (fun j => j ≤ s.cover.length ∧ (g ∈ s.cover.drop j ↔ g ∈ s.cover)) (fun j => s.cover.length - j)
      0 [0] (by simp) rfl ⟨by simp, by simp⟩ (by simp -implicitDefEqProofs only [kpp,seval]) (by simp -implicitDefEqProofs only [kpp,seval]) ?_
    rintro j ⟨hj, hrj⟩
    unfold c28_2
    simp -implicitDefEqProofs only [hgi, Int.natCast_nonneg, vmp,↓vmd,seval]
    refine onIf_intro fun hlen2 => ?_
    first | refine envO (by simp -implicitDefEqProofs only [hgi, Int.natCast_nonneg, vmp,↓vmd,seval]; rfl) ?_ | refine envQ (by simp -implicitDefEqProofs only [hgi, Int.natCast_nonneg, vmp,↓vmd,seval]; rfl) ?_
    simp -implicitDefEqProofs only [vmp,↓vmd,seval]
    refine onB_dec (fun h2 => ?_) (fun h2 => ?_)
    · have hlt2 : j < s.cover.length := by omega
      rw [drop_at hlt2] at hrj
      have hcj : (s.cover.map I)[j]? = some (I s.cover[j]) := map_at hlt2
      generalize s.cover[j] = c at hrj hcj
      simp -implicitDefEqProofs only [h2, hgi, hcj, Int.natCast_nonneg, vmp,↓vmd,seval]
      refine onB_dec (fun h3 => ?_) (fun h3 => ?_)
      · simp -implicitDefEqProofs only [h3, vmp,↓vmd,seval]
        rw [← hr, decide_eq_true (hrj.1 (by rw [h3]; exact List.mem_cons_self)), Bool.true_or]
        exact gives_pure
      · simp -implicitDefEqProofs only [h3, vmp,↓vmd,seval]
        refine onBk_to (j + 1) [0] (by simp) rfl (by omega) ⟨hlt2, by rw [← hrj, List.mem_cons]; exact ⟨.inr, fun h => h.resolve_left fun e => h3 e.symm⟩⟩ (by simp -implicitDefEqProofs only [next_at hlt2 (by omega), kpp,seval]) (by simp -implicitDefEqProofs only [kpp,seval])
    · rw [List.drop_of_length_le (by omega)] at hrj
      rw [decide_eq_false (fun e => absurd (hrj.2 e) (by simp)), Bool.false_or] at hr
      simp -implicitDefEqProofs only [h2, vmp,↓vmd,seval]
      unfold c28_1
      simp -implicitDefEqProofs only [vmp,↓vmd,seval]
      refine onBk_to (i + 1) [0] (by simp) rfl (by omega) ⟨hlt, hr⟩ (by simp -implicitDefEqProofs only [next_at hlt (by omega), kpp,seval]) (by simp -implicitDefEqProofs only [kpp,seval])
  · rw [List.drop_of_length_le (by omega), covS] at hr
    simp -implicitDefEqProofs only [h1, vmp,↓vmd,seval]
    unfold c28_0
    simp -implicitDefEqProofs only [vmp,↓vmd,seval]
    rw [← hr]
    exact gives_pure
theorem kept_eq {a b : Gl} (h : idG b a.id = a) : b = idG a b.id := by
  cases a
  cases b
  simp only [idG, Gl.mk.injEq] at h ⊢
  simp [h]
theorem rk_law (F : Ff) (ls : List Gl) (n : Int) (n0 : 0 ≤ n) (n1 : n ≤ 255) : FnQ Try.prog 8 [ffV F, .sl (ls.map gl), .int .u8 n] [.bool true] := by
  refine q8 (by simp) ?_
  unfold c8
  have hfr := @fine_rev F ls
  simp -implicitDefEqProofs only [vmp,↓vmd,seval]
  refine onC_q (pick_q F _ n0 n1) rfl ?_
  rw [pickR]
  generalize ho : pickF F n = o at *
  first | refine envO (by simp -implicitDefEqProofs only [vmp,↓vmd,seval]; rfl) ?_ | refine envQ (by simp -implicitDefEqProofs only [vmp,↓vmd,seval]; rfl) ?_
  simp -implicitDefEqProofs only [vmp,↓vmd,seval]
  cases o with
  | none =>
    simp -implicitDefEqProofs only [Option.isSome_none, vmp,↓vmd,seval]
    refine onC_q alive30_q rfl ?_
    first | refine envO (by simp -implicitDefEqProofs only [vmp,↓vmd,seval]; rfl) ?_ | refine envQ (by simp -implicitDefEqProofs only [vmp,↓vmd,seval]; rfl) ?_
    simp -implicitDefEqProofs only [vmp,↓vmd,seval]
    exact gives_pure
  | some k =>
    simp -implicitDefEqProofs only [Option.isSome_some, Option.getD_some, vmp,↓vmd,seval]
    refine onC_q (fine_q F ls) rfl ?_
    have hfr := fun h => hfr h ho
    generalize fineF F ls = b1 at *
    cases b1 with
    | false =>
      first | refine envO (by simp -implicitDefEqProofs only [vmp,↓vmd,seval]; rfl) ?_ | refine envQ (by simp -implicitDefEqProofs only [vmp,↓vmd,seval]; rfl) ?_
      simp -implicitDefEqProofs only [vmp,↓vmd,seval]
      refine onC_q alive30_q rfl ?_
      first | refine envO (by simp -implicitDefEqProofs only [vmp,↓vmd,seval]; rfl) ?_ | refine envQ (by simp -implicitDefEqProofs only [vmp,↓vmd,seval]; rfl) ?_
      simp -implicitDefEqProofs only [vmp,↓vmd,seval]
      exact gives_pure
    | true =>
      obtain ⟨hl, hk⟩ := hfr rfl
      first | refine envO (by simp -implicitDefEqProofs only [vmp,↓vmd,seval]; rfl) ?_ | refine envQ (by simp -implicitDefEqProofs only [vmp,↓vmd,seval]; rfl) ?_
      simp -implicitDefEqProofs only [vmp,↓vmd,seval]
      have g1 := all30_q F.fo k hk ls (by omega) (-1)
      have g2 := all30_q F.fo k hk ls (by omega) 0
      rw [goA_zero] at g2
      rw [ffV_fo] at g1 g2
      have hX : (goA F.fo k (-1) ls.length ls).length = ls.length := goA_len
      have hK := (goA_kept (f := F.fo) (k := k) (mask := -1) (n := ls.length) (ls := ls) (Nat.le_refl _)).2
      have hN : k.kind ≠ 5 → goA F.fo k (-1) ls.length ls = ls := fun h => goA_kind h
      generalize goA F.fo k (-1) ls.length ls = X at *
      refine onC_q g1 rfl ?_
      first | refine envO (by simp -implicitDefEqProofs only [vmp,↓vmd,seval]; rfl) ?_ | refine envQ (by simp -implicitDefEqProofs only [vmp,↓vmd,seval]; rfl) ?_
      simp -implicitDefEqProofs only [vmp,↓vmd,seval]
      refine onIf_intro fun _ => ?_
      first | refine envO (by simp -implicitDefEqProofs only [vmp,↓vmd,seval]; rfl) ?_ | refine envQ (by simp -implicitDefEqProofs only [vmp,↓vmd,seval]; rfl) ?_
      simp -implicitDefEqProofs only [vmp,↓vmd,seval]
      refine onIf_intro fun _ => ?_
      have hX' : (X.length : Int) = (ls.length : Int) := by omega
      first | refine envO (by simp -implicitDefEqProofs only [hX', vmp,↓vmd,seval]; rfl) ?_ | refine envQ (by simp -implicitDefEqProofs only [hX', vmp,↓vmd,seval]; rfl) ?_
      simp -implicitDefEqProofs only [hX', not_true, vmp,↓vmd,seval]
      refine onC_q g2 rfl ?_
      first | refine envO (by simp -implicitDefEqProofs only [hX', vmp,↓vmd,seval]; rfl) ?_ | refine envQ (by simp -implicitDefEqProofs only [hX', vmp,↓vmd,seval]; rfl) ?_
      simp -implicitDefEqProofs only [hX', not_true, vmp,↓vmd,seval]
      refine onC_q (glyphs2_q ls ls) rfl ?_
      rw [decide_eq_true rfl]
      first | refine envO (by simp -implicitDefEqProofs only [hX', vmp,↓vmd,seval]; rfl) ?_ | refine envQ (by simp -implicitDefEqProofs only [hX', vmp,↓vmd,seval]; rfl) ?_
      simp -implicitDefEqProofs only [hX', not_true, vmp,↓vmd,seval]
      refine onB_dec (fun h5 => ?_) (fun h5 => ?_)
      · have e := hN h5
        subst e
        first | refine envO (by simp -implicitDefEqProofs only [h5, vmp,↓vmd,seval]; rfl) ?_ | refine envQ (by simp -implicitDefEqProofs only [h5, vmp,↓vmd,seval]; rfl) ?_
        simp -implicitDefEqProofs only [h5, vmp,↓vmd,seval]
        refine onC_q (glyphs2_q X X) rfl ?_
        rw [decide_eq_true rfl]
        first | refine envO (by simp -implicitDefEqProofs only [h5, vmp,↓vmd,seval]; rfl) ?_ | refine envQ (by simp -implicitDefEqProofs only [h5, vmp,↓vmd,seval]; rfl) ?_
        simp -implicitDefEqProofs only [h5, vmp,↓vmd,seval]
        refine loop_at (T := Nat) (fun i => [(10, .pure (I (i : Int))), (9, .pure (.sl (X.map gl))), (1, .pure (.sl (X.map gl))), (7, .ptr 0 0 0)]) (fun _ => [⟨[.pure (lk k)], 4, .live⟩]) (fun i => i ≤ X.length) (fun i => X.length - i)
          0 [1] (by simp) rfl (by simp) (by simp -implicitDefEqProofs only [kpp,seval]) (by simp -implicitDefEqProofs only [kpp,seval]) ?_
        intro i hi
        unfold c8_1
        simp -implicitDefEqProofs only [vmp,↓vmd,seval]
        refine onIf_intro fun _ => ?_
        first | refine envO (by simp -implicitDefEqProofs only [vmp,↓vmd,seval]; rfl) ?_ | refine envQ (by simp -implicitDefEqProofs only [vmp,↓vmd,seval]; rfl) ?_
        simp -implicitDefEqProofs only [hX', vmp,↓vmd,seval]
        refine onB_dec (fun h1 => ?_) (fun h1 => ?_)
        · have hlt : i < X.length := by omega
          have hgx : (X.map gl)[i]? = some (gl (glAt X (i : Int))) := by
            have := glAt_map (ls := X) (y := (i : Int)) (by omega) (by omega)
            simpa using this
          generalize glAt X (i : Int) = a at *
          simp -implicitDefEqProofs only [h1, hgx, Int.natCast_nonneg, not_true, vmp,↓vmd,seval]
          refine onBk_to (i + 1) [0] (by simp) rfl (by omega) hlt (by simp -implicitDefEqProofs only [next_at hlt (by omega), kpp,seval]) (by simp -implicitDefEqProofs only [kpp,seval])
        · simp -implicitDefEqProofs only [h1, vmp,↓vmd,seval]
          unfold c8_0
          simp -implicitDefEqProofs only [vmp,↓vmd,seval]
          refine onC_q alive30_q rfl ?_
          first | refine envO (by simp -implicitDefEqProofs only [vmp,↓vmd,seval]; rfl) ?_ | refine envQ (by simp -implicitDefEqProofs only [vmp,↓vmd,seval]; rfl) ?_
          simp -implicitDefEqProofs only [vmp,↓vmd,seval]
          exact gives_pure
      · first | refine envO (by simp -implicitDefEqProofs only [h5, vmp,↓vmd,seval]; rfl) ?_ | refine envQ (by simp -implicitDefEqProofs only [h5, vmp,↓vmd,seval]; rfl) ?_
        simp -implicitDefEqProofs only [h5, vmp,↓vmd,seval]
        refine loop_at (T := Nat) (fun i => [(10, .pure (I (i : Int))), (9, .pure (.sl (X.map gl))), (1, .pure (.sl (ls.map gl))), (7, .ptr 0 0 0)]) (fun _ => [⟨[.pure (lk k)], 4, .live⟩]) (fun i => i ≤ ls.length) (fun i => ls.length - i)
          0 [1] (by simp) rfl (by simp) (by simp -implicitDefEqProofs only [kpp,seval]) (by simp -implicitDefEqProofs only [kpp,seval]) ?_
        intro i hi
        unfold c8_1
        simp -implicitDefEqProofs only [vmp,↓vmd,seval]
        refine onIf_intro fun _ => ?_
        first | refine envO (by simp -implicitDefEqProofs only [vmp,↓vmd,seval]; rfl) ?_ | refine envQ (by simp -implicitDefEqProofs only [vmp,↓vmd,seval]; rfl) ?_
        simp -implicitDefEqProofs only [hX', vmp,↓vmd,seval]
        refine onB_dec (fun h1 => ?_) (fun h1 => ?_)
        · have hlt : i < ls.length := by omega
          obtain ⟨k1, k2⟩ := hK i hlt
          have k1 := kept_eq k1
          have hgx : (X.map gl)[i]? = some (gl (glAt X (i : Int))) := by
            have := glAt_map (ls := X) (y := (i : Int)) (by omega) (by omega)
            simpa using this
          have hgi : (ls.map gl)[i]? = some (gl (glAt ls (i : Int))) := by
            have := glAt_map (ls := ls) (y := (i : Int)) (by omega) (by omega)
            simpa using this
          rw [k1] at hgx
          generalize (glAt X (i : Int)).id = d at *
          generalize glAt ls (i : Int) = a at *
          clear k1
          simp -implicitDefEqProofs only [h1, hgx, hgi, Int.natCast_nonneg, idG, decide_true, Bool.and_self, Bool.not_true, vmp,↓vmd,seval]
          refine onB_dec (fun h2 => ?_) (fun h2 => ?_)
          · have hc := k2 h2
            first | refine envO (by simp -implicitDefEqProofs only [h2, hgx, hgi, Int.natCast_nonneg, vmp,↓vmd,seval]; rfl) ?_ | refine envQ (by simp -implicitDefEqProofs only [h2, hgx, hgi, Int.natCast_nonneg, vmp,↓vmd,seval]; rfl) ?_
            simp -implicitDefEqProofs only [h2, hgx, hgi, Int.natCast_nonneg, vmp,↓vmd,seval]
            refine onC_q (covered_q k a.id) rfl ?_
            rw [hc]
            first | refine envO (by simp -implicitDefEqProofs only [h2, vmp,↓vmd,seval]; rfl) ?_ | refine envQ (by simp -implicitDefEqProofs only [h2, vmp,↓vmd,seval]; rfl) ?_
            simp -implicitDefEqProofs only [h2, vmp,↓vmd,seval]
            refine onBk_to (i + 1) [0] (by simp) rfl (by omega) hlt (by simp -implicitDefEqProofs only [next_at hlt (by omega), kpp,seval]) (by simp -implicitDefEqProofs only [kpp,seval])
          · first | refine envO (by simp -implicitDefEqProofs only [h2, vmp,↓vmd,seval]; rfl) ?_ | refine envQ (by simp -implicitDefEqProofs only [h2, vmp,↓vmd,seval]; rfl) ?_
            simp -implicitDefEqProofs only [h2, vmp,↓vmd,seval]
            refine onBk_to (i + 1) [0] (by simp) rfl (by omega) hlt (by simp -implicitDefEqProofs only [next_at hlt (by omega), kpp,seval]) (by simp -implicitDefEqProofs only [kpp,seval])
        · simp -implicitDefEqProofs only [h1, vmp,↓vmd,seval]
          unfold c8_0
          simp -implicitDefEqProofs only [vmp,↓vmd,seval]
          refine onC_q alive30_q rfl ?_
          first | refine envO (by simp -implicitDefEqProofs only [vmp,↓vmd,seval]; rfl) ?_ | refine envQ (by simp -implicitDefEqProofs only [vmp,↓vmd,seval]; rfl) ?_
          simp -implicitDefEqProofs only [vmp,↓vmd,seval]
          exact gives_pure
end Go.Proofs.Ytcjmkpkhjhjepaa.W
