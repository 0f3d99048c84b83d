/-
  Chains of glyphs that hang on one another: two functions, one answer. No condition but on sizes.
-/
import Derived.Test.YtcjmkpkhjhjepaaCur3
namespace Go.Proofs.Ytcjmkpkhjhjepaa.W
open Go Go.Vm Go.Proofs
set_option maxRecDepth 100000
set_option linter.unusedSimpArgs false
set_option maxHeartbeats 4000000
/-! typecase/cursive.Chains -/
def c18_0 : AC :=
  (.seq (.reg [⟨some 59, none, .mov (.s 7)⟩,
    ⟨some 6, none, .mov (.s 59)⟩])
  .ret)
def c18_1 : AC :=
  (.seq (.reg [⟨some 21, none, .bin .lss (.s 20) (.s 19)⟩])
  (.seq (.cond (.s 21)
  .skip
  (.exit 0))
  (.seq (.block 1
  (.seq (.reg [⟨some 22, none, .idxA 1 (.s 18) (.s 20)⟩,
    ⟨some 23, none, .load false 1 (.s 22)⟩,
    ⟨some 10, none, .mov (.s 23)⟩])
  (.seq (.reg [⟨some 25, none, .load true 6 (.s 3)⟩,
    ⟨some 26, none, .load true 4 (.s 4)⟩,
    ⟨some 27, none, .mov (.s 2)⟩,
    ⟨some 28, none, .mov (.s 10)⟩,
    ⟨some 29, none, .call 37 [(.s 25), (.s 26), (.s 27), (.s 28)]⟩,
    ⟨some 24, none, .mov (.s 29)⟩,
    ⟨some 30, none, .ext 0 (.s 24)⟩,
    ⟨some 31, none, .ext 1 (.s 24)⟩,
    ⟨some 32, none, .ext 2 (.s 24)⟩,
    ⟨some 33, none, .ext 3 (.s 24)⟩,
    ⟨some 12, none, .box (.c (.pure (.agg [(.int .i64 0), (.int .i64 0)])))⟩,
    ⟨some 13, none, .box (.c (.pure (.agg [(.int .i64 0), (.int .i64 0)])))⟩,
    ⟨some 11, none, .mov (.s 30)⟩,
    ⟨none, none, .store 2 (.s 12) (.s 31)⟩,
    ⟨none, none, .store 2 (.s 13) (.s 32)⟩,
    ⟨some 14, none, .mov (.s 33)⟩])
  (.block 2
  (.seq (.reg [⟨some 35, none, .mov (.s 14)⟩,
    ⟨some 36, none, .mov (.s 35)⟩,
    ⟨some 37, some (36, true), .mov (.s 8)⟩,
    ⟨some 38, some (36, true), .bin .lss (.s 37) (.c (.pure (.int .i64 0)))⟩,
    ⟨some 39, none, .pick (.s 36) (.s 38) (.c (.pure (.bool false)))⟩,
    ⟨some 34, none, .mov (.s 39)⟩])
  (.cond (.s 34)
  (.seq (.reg [⟨some 40, none, .mov (.s 7)⟩,
    ⟨some 41, none, .mov (.s 10)⟩,
    ⟨some 42, none, .mov (.s 11)⟩,
    ⟨some 43, none, .bin .add (.s 42) (.c (.pure (.int .i64 1)))⟩,
    ⟨some 44, none, .build [(.pure (.int .i64 0)), (.pure (.int .i64 0))] [(0, 1, (.s 41)), (1, 1, (.s 43))]⟩,
    ⟨some 45, none, .bslice 2 [(.s 44)]⟩,
    ⟨some 46, none, .app 2 16 (.s 40) (.s 45)⟩,
    ⟨some 7, none, .mov (.s 46)⟩])
  (.reg [⟨some 47, none, .mov (.s 10)⟩,
    ⟨some 8, none, .mov (.s 47)⟩]))
  (.seq (.reg [⟨some 49, none, .mov (.s 14)⟩,
    ⟨some 48, none, .mov (.s 49)⟩])
  (.cond (.s 48)
  (.reg [⟨some 50, none, .mov (.s 7)⟩,
    ⟨some 51, none, .mov (.s 7)⟩,
    ⟨some 52, none, .len (.s 51)⟩,
    ⟨some 53, none, .bin .sub (.s 52) (.c (.pure (.int .i64 1)))⟩,
    ⟨some 54, none, .mov (.s 11)⟩,
    ⟨some 55, none, .bin .add (.s 54) (.c (.pure (.int .i64 1)))⟩,
    ⟨some 56, none, .idxA 2 (.s 50) (.s 53)⟩,
    ⟨some 57, none, .fldA 1 (.s 56)⟩,
    ⟨none, none, .store 1 (.s 57) (.s 55)⟩])
  (.reg [⟨some 8, none, .mov (.c (.pure (.int .i64 (-1))))⟩])))))))))
  (.reg [⟨some 58, none, .bin .add (.s 20) (.c (.pure (.int .i64 1)))⟩,
    ⟨some 20, none, .mov (.s 58)⟩]))))
def c18 : AC :=
  (.seq (.reg [⟨some 3, none, .box (.s 0)⟩,
    ⟨some 4, none, .box (.s 1)⟩,
    ⟨some 6, none, .mov (.c .empty)⟩])
  (.seq (.reg [⟨some 7, none, .mov (.c .empty)⟩])
  (.seq (.reg [⟨some 8, none, .mov (.c (.pure (.int .i64 (-1))))⟩])
  (.seq (.seq (.reg [⟨some 15, none, .load true 6 (.s 3)⟩,
    ⟨some 16, none, .load true 4 (.s 4)⟩,
    ⟨some 17, none, .mov (.s 2)⟩,
    ⟨some 18, none, .call 40 [(.s 15), (.s 16), (.s 17)]⟩,
    ⟨some 19, none, .len (.s 18)⟩,
    ⟨some 20, none, .mov (.c (.pure (.int .i64 0)))⟩])
  (.block 0
  (.loop c18_1)))
  c18_0))))
theorem k18 : (Try.f18.body.bind fun c => cCode Try.prog Try.f18.ntmps RCs c) = some c18 := by kernel_rfl
theorem h18 : (Try.f18.name == "runtime.NumGoroutine") = false := by kernel_rfl
theorem r18 : resC Try.prog Try.f18.results.toList = some [.t 6] := by kernel_rfl
theorem a18 {args : List S} {H : Heap} {K : S → Heap → Prop} (hn : args.length ≤ 60) (h : aWx Try.prog H.length c18 (PostX [.t 6] K) (argEnv 0 args) H) : CallA Try.prog 18 args H K :=
  callA_of_x mixed Try.func18 h18 k18 r18 (by rw [Try.ntmps18]; exact hn) h
theorem q18 {vs ds : List V} (hn : vs.length ≤ 60) (h : aWx Try.prog 0 c18 (PostX [.t 6] (Gives ds)) (argEnv 0 (vs.map .pure)) []) : FnQ Try.prog 18 vs ds :=
  fnQ_of_call (a18 (by simpa using hn) h)
/-! typecase/typecaseref33.Chains -/
def c19_0 : AC :=
  (.seq (.reg [⟨some 49, none, .mov (.s 7)⟩,
    ⟨some 6, none, .mov (.s 49)⟩])
  .ret)
def c19_1 : AC :=
  (.seq (.seq (.reg [⟨some 31, none, .mov (.s 10)⟩,
    ⟨some 32, none, .mov (.s 9)⟩,
    ⟨some 33, none, .bin .gtr (.s 31) (.s 32)⟩])
  (.cond (.s 33)
  (.regq [⟨some 34, none, .mov (.s 7)⟩,
    ⟨some 35, none, .mov (.s 8)⟩,
    ⟨some 36, none, .mov (.s 9)⟩,
    ⟨some 37, none, .idxA 1 (.s 35) (.s 36)⟩,
    ⟨some 38, none, .load false 1 (.s 37)⟩,
    ⟨some 39, none, .mov (.s 8)⟩,
    ⟨some 40, none, .mov (.s 10)⟩,
    ⟨some 41, none, .idxA 1 (.s 39) (.s 40)⟩,
    ⟨some 42, none, .load false 1 (.s 41)⟩,
    ⟨some 43, none, .bin .add (.s 42) (.c (.pure (.int .i64 1)))⟩,
    ⟨some 44, none, .build [(.pure (.int .i64 0)), (.pure (.int .i64 0))] [(0, 1, (.s 38)), (1, 1, (.s 43))]⟩,
    ⟨some 45, none, .bslice 2 [(.s 44)]⟩]
    [⟨some 46, none, .app 2 16 (.s 34) (.s 45)⟩,
    ⟨some 7, none, .mov (.s 46)⟩])
  .skip))
  (.reg [⟨some 47, none, .mov (.s 10)⟩,
    ⟨some 48, none, .bin .add (.s 47) (.c (.pure (.int .i64 1)))⟩,
    ⟨some 9, none, .mov (.s 48)⟩]))
def c19_2 : AC :=
  (.seq (.seq (.regq [⟨some 20, none, .load true 6 (.s 3)⟩,
    ⟨some 21, none, .load true 4 (.s 4)⟩,
    ⟨some 22, none, .mov (.s 2)⟩,
    ⟨some 23, none, .mov (.s 8)⟩,
    ⟨some 24, none, .mov (.s 10)⟩,
    ⟨some 25, none, .idxA 1 (.s 23) (.s 24)⟩,
    ⟨some 26, none, .load false 1 (.s 25)⟩]
    [⟨some 27, none, .call 39 [(.s 20), (.s 21), (.s 22), (.s 26)]⟩,
    ⟨some 28, none, .bin .neq (.s 27) (.c (.pure (.int .i64 (-1))))⟩])
  (.cond (.s 28)
  .skip
  (.exit 2)))
  (.block 3
  (.reg [⟨some 29, none, .mov (.s 10)⟩,
    ⟨some 30, none, .bin .add (.s 29) (.c (.pure (.int .i64 1)))⟩,
    ⟨some 10, none, .mov (.s 30)⟩])))
def c19_3 : AC :=
  (.seq (.seq (.reg [⟨some 15, none, .mov (.s 9)⟩,
    ⟨some 16, none, .mov (.s 8)⟩,
    ⟨some 17, none, .len (.s 16)⟩,
    ⟨some 18, none, .bin .lss (.s 15) (.s 17)⟩])
  (.cond (.s 18)
  .skip
  (.exit 0)))
  (.block 1
  (.seq (.reg [⟨some 19, none, .mov (.s 9)⟩,
    ⟨some 10, none, .mov (.s 19)⟩])
  (.seq (.block 2
  (.loop c19_2))
  c19_1))))
def c19 : AC :=
  (.seq (.reg [⟨some 3, none, .box (.s 0)⟩,
    ⟨some 4, none, .box (.s 1)⟩,
    ⟨some 6, none, .mov (.c .empty)⟩])
  (.seq (.reg [⟨some 7, none, .mov (.c .empty)⟩])
  (.seq (.reg [⟨some 11, none, .load true 6 (.s 3)⟩,
    ⟨some 12, none, .load true 4 (.s 4)⟩,
    ⟨some 13, none, .mov (.s 2)⟩,
    ⟨some 14, none, .call 41 [(.s 11), (.s 12), (.s 13)]⟩,
    ⟨some 8, none, .mov (.s 14)⟩])
  (.seq (.reg [⟨some 9, none, .mov (.c (.pure (.int .i64 0)))⟩])
  (.seq (.block 0
  (.loop c19_3))
  c19_0)))))
theorem k19 : (Try.f19.body.bind fun c => cCode Try.prog Try.f19.ntmps RCs c) = some c19 := by kernel_rfl
theorem h19 : (Try.f19.name == "runtime.NumGoroutine") = false := by kernel_rfl
theorem r19 : resC Try.prog Try.f19.results.toList = some [.t 6] := by kernel_rfl
theorem a19 {args : List S} {H : Heap} {K : S → Heap → Prop} (hn : args.length ≤ 50) (h : aWx Try.prog H.length c19 (PostX [.t 6] K) (argEnv 0 args) H) : CallA Try.prog 19 args H K :=
  callA_of_x mixed Try.func19 h19 k19 r19 (by rw [Try.ntmps19]; exact hn) h
theorem q19 {vs ds : List V} (hn : vs.length ≤ 50) (h : aWx Try.prog 0 c19 (PostX [.t 6] (Gives ds)) (argEnv 0 (vs.map .pure)) []) : FnQ Try.prog 19 vs ds :=
  fnQ_of_call (a19 (by simpa using hn) h)

theorem lastC_row {l : List Ct} (h : 0 < l.length) : ((l.map ct).map S.pure)[l.length - 1]? = some (.pure (ct (lastC l))) := by
  rw [List.getElem?_map, List.getElem?_map, lastC, List.getElem?_eq_getElem (by omega)]; rfl
theorem endC_row {l : List Ct} {t : Int} : ((l.map ct).map S.pure).set (l.length - 1) (.pure (.agg [I (lastC l).f, I t])) = ((endC l t).map ct).map S.pure := by
  rw [endC, List.map_set, List.map_set]
theorem endC_len {l : List Ct} {t : Int} : (endC l t).length = l.length := by simp [endC]
theorem chains_q (f : Fo) (k : Lk) (ls : List Gl) (hl : ls.length ≤ 1000) : FnQ Try.prog 18 [fo f, lk k, .sl (ls.map gl)] [.sl ((chainF f k ls).map ct)] := by
  have hq := seen_q f k.kind k.flags k.set (.sl (k.subs.map sub)) ls hl
  have hsl := seenK_len (p := seesF f k.flags k.set ls) (k := ls.length)
  have hsi := @seenK_in (seesF f k.flags k.set ls) ls.length
  have ho : chainF f k ls = chP (nxF f k ls) (seenK (seesF f k.flags k.set ls) ls.length) false [] := rfl
  refine q18 (by simp) ?_
  unfold c18
  generalize chainF f k ls = out at *
  generalize seenK (seesF f k.flags k.set ls) ls.length = sn at *
  simp -implicitDefEqProofs only [vmp,↓vmd,seval]
  refine onC_q hq rfl ?_
  (first | apply envO | apply envQ); simp -implicitDefEqProofs only [vmp,↓vmd,seval]; rfl
  simp -implicitDefEqProofs only [vmp,↓vmd,seval]
  refine onIf_intro fun _ => ?_
  (first | apply envO | apply envQ); simp -implicitDefEqProofs only [vmp,↓vmd,seval]; rfl
  simp -implicitDefEqProofs only [vmp,↓vmd,seval]
  refine loop_virt 7 2 rfl (by simp) ?_
  refine loop_at (T := Nat × List Ct × Int) (fun z => [(20, .pure (I (z.1 : Int))), (19, .pure (I sn.length)), (18, .pure (LI sn)), (2, .pure (.sl (ls.map gl))), (3, .ptr 0 0 0), (4, .ptr 1 0 0), (8, .pure (I z.2.2)), (7, .rsl 2 0 z.2.1.length)])
    (fun z => [⟨[.pure (fo f)], 6, .live⟩, ⟨[.pure (lk k)], 4, .live⟩, ⟨(z.2.1.map ct).map .pure, 2, .live⟩]) (fun z => z.1 ≤ sn.length ∧ z.2.1.length ≤ z.1 ∧ (0 ≤ z.2.2 → 0 < z.2.1.length) ∧ chP (nxF f k ls) (sn.drop z.1) (decide (0 ≤ z.2.2)) z.2.1 = out) (fun z => sn.length - z.1)
    (0, [], -1) [0, 1, 2] (by simp) rfl ⟨by simp, by simp, by simp, by simpa using ho.symm⟩ (by simp -implicitDefEqProofs only [kpp,seval]) (by simp -implicitDefEqProofs only [kpp,seval]) ?_
  rintro ⟨i, acc, fr⟩ ⟨hi, ha, hf, hr⟩
  simp only at hi ha hf hr
  unfold c18_1
  simp -implicitDefEqProofs only [vmp,↓vmd,seval]
  refine onB_dec (fun h1 => ?_) (fun h1 => ?_)
  · have hlt : i < sn.length := by omega
    rw [drop_at hlt, chP] at hr
    have hgi : (sn.map I)[i]? = some (I sn[i]) := map_at hlt
    have hx := hsi hlt
    generalize sn[i] = x at hr hgi hx
    obtain ⟨r, hq2, hr2⟩ := hang_q f k ls hl x
    have hin := @hangF_some f k ls x
    rw [nxF] at hr
    generalize hangF f k ls x = o at *
    simp -implicitDefEqProofs only [h1, hgi, Int.natCast_nonneg, vmp,↓vmd,seval]
    cases o with
    | none =>
      obtain ⟨n, a, b, c, d, rfl⟩ := hr2
      simp only [Option.map_none] at hr
      refine onC_q hq2 rfl ?_
      (first | apply envO | apply envQ); simp -implicitDefEqProofs only [vmp,↓vmd,seval]; rfl
      simp -implicitDefEqProofs only [vmp,↓vmd,seval]
      refine onBk_to (i + 1, acc, -1) [0, 1, 2] (by simp) rfl (by simp only; omega) ⟨hlt, by simp only; omega, by simp, by simpa using hr⟩ (by simp -implicitDefEqProofs only [next_at hlt (by omega), kpp,seval]) (by simp -implicitDefEqProofs only [kpp,seval])
    | some z =>
      obtain ⟨n, a, b⟩ := z
      obtain ⟨x0, x1, _, xn, n1, _⟩ := hin rfl
      have hr2 : r = [I n, .agg [I a.xx, I a.xy], .agg [I b.ex, I b.ey], .bool true] := hr2
      subst hr2
      simp only [Option.map_some] at hr
      refine onC_q hq2 rfl ?_
      (first | apply envO | apply envQ); simp -implicitDefEqProofs only [vmp,↓vmd,seval]; rfl
      simp -implicitDefEqProofs only [vmp,↓vmd,seval]
      by_cases h2 : fr < 0
      · rw [if_neg (by simp; omega)] at hr
        have hd : decide (0 ≤ x) = true := decide_eq_true x0
        refine onB_pos h2 ?_
        (first | apply envO | apply envQ); simp -implicitDefEqProofs only [h2, vmp,↓vmd,seval]; rfl
        simp -implicitDefEqProofs only [h2, vmp,↓vmd,seval]
        refine onIf'_intro (appOk_one rfl rfl (by simp) (by omega) (by simp [maxLen]; omega)) ?_
        (first | apply envO | apply envQ); simp -implicitDefEqProofs only [h2, vmp,↓vmd,seval]; rfl
        simp -implicitDefEqProofs only [h2, vmp,↓vmd,seval]
        refine onBk_to (i + 1, acc ++ [⟨x, IntKind.wrap .i64 (n + 1)⟩], x) [0, 1, 6] (by simp) rfl (by simp only; omega) ⟨hlt, by simp; omega, by simp, by rw [hd]; exact hr⟩ (by simp -implicitDefEqProofs only [next_at hlt (by omega), kpp,seval]) (by simp -implicitDefEqProofs only [kpp,seval])
      · rw [if_pos (by simp; omega)] at hr
        have hd : decide (0 ≤ fr) = true := decide_eq_true (by omega)
        have hpos := hf (by omega)
        have hw : IntKind.wrap .i64 ((acc.length : Int) - 1) = ((acc.length - 1 : Nat) : Int) := by rw [wrap_id (by omega) (by omega)]; omega
        have hb : ((acc.length - 1 : Nat) : Int) < (acc.length : Int) := by omega
        have hrow := lastC_row hpos
        refine onB_neg h2 ?_
        (first | apply envO | apply envQ); simp -implicitDefEqProofs only [h2, vmp,↓vmd,seval]; rfl
        simp -implicitDefEqProofs only [h2, vmp,↓vmd,seval]
        refine onIf_intro fun _ => ?_
        (first | apply envO | apply envQ); simp -implicitDefEqProofs only [h2, vmp,↓vmd,seval]; rfl
        simp -implicitDefEqProofs only [h2, hw, hb, hrow, endC_row, Int.natCast_nonneg, Int.toNat_natCast, vmp,↓vmd,seval]
        refine onBk_to (i + 1, endC acc (IntKind.wrap .i64 (n + 1)), fr) [0, 1, 2] (by simp) rfl (by simp only; omega) ⟨hlt, by simp [endC_len]; omega, by simp [endC_len]; omega, by rw [hd]; exact hr⟩ (by simp -implicitDefEqProofs only [next_at hlt (by omega), endC_len, kpp,seval]) (by simp -implicitDefEqProofs only [kpp,seval])
  · rw [List.drop_of_length_le (by omega), chP] at hr
    subst hr
    simp -implicitDefEqProofs only [h1, vmp,↓vmd,seval]
    unfold c18_0
    simp -implicitDefEqProofs only [vmp,↓vmd,seval]
    exact gives_row rfl (by simp)
theorem endC_app {l : List Ct} {c : Ct} {t : Int} : endC (l ++ [c]) t = l ++ [⟨c.f, t⟩] := by
  simp [endC, lastC]
def satI (l : List Int) (n : Nat) : Int := (l[n]?).getD 0
theorem satI_eq {l : List Int} {n : Nat} (h : n < l.length) : l[n] = satI l n := by rw [satI, List.getElem?_eq_getElem h]; rfl
def accC (acc : List Ct) (x : Int) (sn : List Int) (i n : Nat) : List Ct := if i < n then acc ++ [⟨x, IntKind.wrap .i64 (satI sn n + 1)⟩] else acc
theorem rchains_q (f : Fo) (k : Lk) (ls : List Gl) (hl : ls.length ≤ 1000) : FnQ Try.prog 19 [fo f, lk k, .sl (ls.map gl)] [.sl ((chainF f k ls).map ct)] := by
  have hq := rseen_q f k.kind k.flags k.set (.sl (k.subs.map sub)) ls hl
  have hsl := seenK_len (p := seesF f k.flags k.set ls) (k := ls.length)
  have hnx : ∀ {n : Nat} (hn : n < (seenK (seesF f k.flags k.set ls) ls.length).length) {m : Int} {a b : Cu}, hangF f k ls (satI (seenK (seesF f k.flags k.set ls) ls.length) n) = some (m, a, b) →
      0 ≤ m ∧ n + 1 < (seenK (seesF f k.flags k.set ls) ls.length).length ∧ m = satI (seenK (seesF f k.flags k.set ls) ls.length) (n + 1) := by
    intro n hn m a b h
    obtain ⟨x0, _, e, xm, _⟩ := hangF_some h
    rw [← satI_eq hn] at e xm x0
    obtain ⟨h1, h2⟩ := next_seen hn (by rw [← e]; omega)
    refine ⟨by omega, h1, ?_⟩
    rw [e, h2, satI_eq]
  have ho : chainF f k ls = chP (nxF f k ls) (seenK (seesF f k.flags k.set ls) ls.length) false [] := rfl
  refine q19 (by simp) ?_
  unfold c19
  generalize chainF f k ls = out at *
  generalize seenK (seesF f k.flags k.set ls) ls.length = sn at *
  simp -implicitDefEqProofs only [vmp,↓vmd,seval]
  refine onC_q hq rfl ?_
  (first | apply envO | apply envQ); simp -implicitDefEqProofs only [vmp,↓vmd,seval]; rfl
  simp -implicitDefEqProofs only [vmp,↓vmd,seval]
  refine loop_virt 7 2 rfl (by simp) ?_
  refine loop_at (T := Nat × List Ct) (fun z => [(9, .pure (I (z.1 : Int))), (8, .pure (LI sn)), (2, .pure (.sl (ls.map gl))), (3, .ptr 0 0 0), (4, .ptr 1 0 0), (7, .rsl 2 0 z.2.length)])
    (fun z => [⟨[.pure (fo f)], 6, .live⟩, ⟨[.pure (lk k)], 4, .live⟩, ⟨(z.2.map ct).map .pure, 2, .live⟩]) (fun z => z.1 ≤ sn.length ∧ z.2.length ≤ z.1 ∧ chP (nxF f k ls) (sn.drop z.1) false z.2 = out) (fun z => sn.length - z.1)
    (0, []) [0, 1, 2] (by simp) rfl ⟨by simp, by simp, by simpa using ho.symm⟩ (by simp -implicitDefEqProofs only [kpp,seval]) (by simp -implicitDefEqProofs only [kpp,seval]) ?_
  rintro ⟨i, acc⟩ ⟨hi, ha, hr⟩
  simp only at hi ha hr
  unfold c19_3
  simp -implicitDefEqProofs only [vmp,↓vmd,seval]
  refine onIf_intro fun _ => ?_
  (first | apply envO | apply envQ); simp -implicitDefEqProofs only [vmp,↓vmd,seval]; rfl
  simp -implicitDefEqProofs only [vmp,↓vmd,seval]
  refine onB_dec (fun h1 => ?_) (fun h1 => ?_)
  · have hlt : i < sn.length := by omega
    have hgx : (sn.map I)[i]? = some (I (satI sn i)) := by rw [← satI_eq hlt]; exact map_at hlt
    simp -implicitDefEqProofs only [h1, vmp,↓vmd,seval]
    refine loop_at (T := Nat) (fun n => [(10, .pure (I (n : Int))), (9, .pure (I (i : Int))), (8, .pure (LI sn)), (2, .pure (.sl (ls.map gl))), (3, .ptr 0 0 0), (4, .ptr 1 0 0), (7, .rsl 2 0 acc.length)])
      (fun _ => [⟨[.pure (fo f)], 6, .live⟩, ⟨[.pure (lk k)], 4, .live⟩, ⟨(acc.map ct).map .pure, 2, .live⟩]) (fun n => i ≤ n ∧ n < sn.length ∧ chP (nxF f k ls) (sn.drop n) (decide (i < n)) (accC acc (satI sn i) sn i n) = out) (fun n => sn.length - n)
      i [0, 1, 2] (by simp) rfl ⟨Nat.le_refl _, hlt, by rw [accC, if_neg (Nat.lt_irrefl i), decide_eq_false (Nat.lt_irrefl i)]; exact hr⟩ (by simp -implicitDefEqProofs only [kpp,seval]) (by simp -implicitDefEqProofs only [kpp,seval]) ?_
    rintro n ⟨hin, hn, hrn⟩
    have hgn : (sn.map I)[n]? = some (I (satI sn n)) := by rw [← satI_eq hn]; exact map_at hn
    have hnx := fun m a b => @hnx n hn m a b
    have hq2 := rnext33_q f k ls hl (satI sn n)
    rw [drop_at hn, chP, satI_eq hn, nxF] at hrn
    unfold c19_2
    simp -implicitDefEqProofs only [hgn, Int.natCast_nonneg, vmp,↓vmd,seval]
    first | refine onC_q hq2 rfl ?_ | refine onQ_q hq2 rfl ?_
    generalize hangF f k ls (satI sn n) = o at *
    cases o with
    | none =>
      simp only [Option.map_none] at hrn
      (first | apply envO | apply envQ); simp -implicitDefEqProofs only [nxR, vmp,↓vmd,seval]; rfl
      simp -implicitDefEqProofs only [nxR, vmp,↓vmd,seval]
      unfold c19_1
      simp -implicitDefEqProofs only [vmp,↓vmd,seval]
      refine onB_dec (fun h2 => ?_) (fun h2 => ?_)
      · rw [accC, if_pos (by omega)] at hrn
        (first | apply envO | apply envQ); simp -implicitDefEqProofs only [h2, vmp,↓vmd,seval]; rfl
        simp -implicitDefEqProofs only [h2, hgx, hgn, Int.natCast_nonneg, vmp,↓vmd,seval]
        refine onIf'_intro (appOk_one rfl rfl (by simp) (by omega) (by simp [maxLen]; omega)) ?_
        (first | apply envO | apply envQ); simp -implicitDefEqProofs only [vmp,↓vmd,seval]; rfl
        simp -implicitDefEqProofs only [vmp,↓vmd,seval]
        refine onBk_to (n + 1, acc ++ [⟨satI sn i, IntKind.wrap .i64 (satI sn n + 1)⟩]) [0, 1, 4] (by simp) rfl (by simp only; omega) ⟨hn, by simp; omega, hrn⟩ (by simp -implicitDefEqProofs only [next_at hn (by omega), kpp,seval]) (by simp -implicitDefEqProofs only [kpp,seval])
      · rw [accC, if_neg (by omega)] at hrn
        (first | apply envO | apply envQ); simp -implicitDefEqProofs only [h2, vmp,↓vmd,seval]; rfl
        simp -implicitDefEqProofs only [h2, vmp,↓vmd,seval]
        refine onBk_to (n + 1, acc) [0, 1, 2] (by simp) rfl (by simp only; omega) ⟨hn, by simp only; omega, hrn⟩ (by simp -implicitDefEqProofs only [next_at hn (by omega), kpp,seval]) (by simp -implicitDefEqProofs only [kpp,seval])
    | some z =>
      obtain ⟨m, a, b⟩ := z
      obtain ⟨m0, hn1, hm⟩ := hnx m a b rfl
      simp only [Option.map_some] at hrn
      have m1 : ¬ m = -1 := by omega
      (first | apply envO | apply envQ); simp -implicitDefEqProofs only [nxR, vmp,↓vmd,seval]; rfl
      simp -implicitDefEqProofs only [nxR, vmp,↓vmd,seval]
      refine onB_pos m1 ?_
      (first | apply envO | apply envQ); simp -implicitDefEqProofs only [m1, vmp,↓vmd,seval]; rfl
      simp -implicitDefEqProofs only [m1, vmp,↓vmd,seval]
      refine onBk_to (n + 1) [0, 1, 2] (by simp) rfl (by omega) ⟨by omega, hn1, ?_⟩ (by simp -implicitDefEqProofs only [next_at hn (by omega), kpp,seval]) (by simp -implicitDefEqProofs only [kpp,seval])
      rw [← hrn, decide_eq_true (show i < n + 1 by omega), accC, if_pos (by omega), hm]
      by_cases h3 : i < n
      · rw [if_pos (by simpa using h3), accC, if_pos h3, endC_app]
      · obtain rfl : i = n := by omega
        rw [if_neg (by simp), accC, if_neg (Nat.lt_irrefl i)]
  · rw [List.drop_of_length_le (by omega), chP] at hr
    subst hr
    simp -implicitDefEqProofs only [h1, vmp,↓vmd,seval]
    unfold c19_0
    simp -implicitDefEqProofs only [vmp,↓vmd,seval]
    exact gives_row rfl (by simp)
end Go.Proofs.Ytcjmkpkhjhjepaa.W
