/-
  A mark is hung on its host: the program's function. No condition but on sizes.
-/
import Derived.Test.YtcjmkpkhjhjepaaPMk3
import Derived.Test.YtcjmkpkhjhjepaaCloneG
namespace Go.Proofs.Ytcjmkpkhjhjepaa.W
open Go Go.Vm Go.Proofs
set_option maxRecDepth 100000
set_option linter.unusedSimpArgs false
set_option maxHeartbeats 4000000
/-! typecase/marks.Apply -/
def c104_0 : AC :=
 (.seq (.reg [⟨some 8, none, .mov (.c .empty)⟩,
⟨some 9, none, .mov (.c (.pure (.bool false)))⟩])
 .ret)
def c104_1 : AC :=
 (.seq (.reg [⟨some 55, none, .bin .lss (.s 54) (.s 53)⟩])
 (.seq (.cond (.s 55)
 .skip
 (.exit 0))
 (.seq (.block 1
 (.seq (.reg [⟨some 56, none, .mov (.s 54)⟩,
⟨some 57, none, .idxA 12 (.s 52) (.s 54)⟩,
⟨some 58, none, .load true 12 (.s 57)⟩,
⟨some 15, none, .box (.c (.agg [.empty, .empty, .empty, .empty, .empty, .empty, .empty, .empty, .empty, .empty, .empty, .empty]))⟩,
⟨some 14, none, .mov (.s 56)⟩,
⟨none, none, .store 12 (.s 15) (.s 58)⟩])
 (.seq (.reg [⟨some 59, none, .fldA 10 (.s 15)⟩,
⟨some 60, none, .load false 1 (.s 59)⟩,
⟨some 61, none, .mkfn (.func 113) [] [(.s 12)]⟩,
⟨some 62, none, .call 112 [(.s 60), (.s 61)]⟩,
⟨some 16, none, .mov (.s 62)⟩])
 (.seq (.seq (.reg [⟨some 63, none, .mov (.s 16)⟩,
⟨some 64, none, .bin .lss (.s 63) (.c (.pure (.int .i64 0)))⟩])
 (.cond (.s 64)
 (.exit 1)
 .skip))
 (.seq (.reg [⟨some 65, none, .fldA 10 (.s 15)⟩,
⟨some 66, none, .load false 1 (.s 65)⟩,
⟨some 67, none, .mov (.s 16)⟩,
⟨some 68, none, .idxA 4 (.s 66) (.s 67)⟩,
⟨some 69, none, .load true 4 (.s 68)⟩,
⟨some 17, none, .box (.c (.pure (.agg [(.int .i64 0), (.int .i64 0), (.int .i64 0), (.int .i64 0)])))⟩,
⟨none, none, .store 4 (.s 17) (.s 69)⟩])
 (.seq (.regq [⟨some 71, none, .load true 4 (.s 5)⟩,
⟨some 72, none, .mov (.s 14)⟩,
⟨some 73, none, .mov (.s 2)⟩,
⟨some 74, none, .mov (.s 10)⟩,
⟨some 75, none, .idxA 10 (.s 73) (.s 74)⟩,
⟨some 76, none, .fldA 0 (.s 75)⟩,
⟨some 77, none, .load false 1 (.s 76)⟩,
⟨some 78, none, .fldA 1 (.s 17)⟩,
⟨some 79, none, .load false 1 (.s 78)⟩,
⟨some 80, none, .mov (.s 13)⟩,
⟨some 81, none, .call 114 [(.s 71), (.s 72), (.s 77), (.s 79), (.s 80)]⟩,
⟨some 70, none, .mov (.s 81)⟩,
⟨some 82, none, .ext 0 (.s 70)⟩,
⟨some 83, none, .ext 1 (.s 70)⟩,
⟨some 18, none, .box (.c (.pure (.agg [(.int .i64 0), (.int .i64 0)])))⟩]
[⟨none, none, .store 2 (.s 18) (.s 82)⟩,
⟨some 19, none, .mov (.s 83)⟩])
 (.seq (.seq (.reg [⟨some 84, none, .mov (.s 19)⟩,
⟨some 85, none, .un .not (.s 84)⟩])
 (.cond (.s 85)
 (.exit 1)
 .skip))
 (.seq (.reg [⟨some 86, none, .mov (.s 2)⟩,
⟨some 87, none, .call 36 [(.s 86)]⟩,
⟨some 20, none, .mov (.s 87)⟩])
 (.seq (.reg [⟨some 88, none, .mov (.s 20)⟩,
⟨some 89, none, .mov (.s 3)⟩,
⟨some 90, none, .idxA 10 (.s 88) (.s 89)⟩,
⟨some 21, none, .mov (.s 90)⟩])
 (.seq (.regm [⟨some 91, none, .mov (.s 21)⟩,
⟨some 92, none, .mov (.s 21)⟩,
⟨some 93, none, .mov (.s 21)⟩,
⟨some 94, none, .mov (.s 21)⟩,
⟨some 95, none, .mov (.s 21)⟩,
⟨some 96, none, .fldA 0 (.s 18)⟩,
⟨some 97, none, .load false 1 (.s 96)⟩,
⟨some 98, none, .fldA 2 (.s 17)⟩,
⟨some 99, none, .fldA 0 (.s 98)⟩,
⟨some 100, none, .load false 1 (.s 99)⟩,
⟨some 101, none, .bin .sub (.s 97) (.s 100)⟩,
⟨some 102, none, .fldA 1 (.s 18)⟩,
⟨some 103, none, .load false 1 (.s 102)⟩,
⟨some 104, none, .fldA 2 (.s 17)⟩,
⟨some 105, none, .fldA 1 (.s 104)⟩,
⟨some 106, none, .load false 1 (.s 105)⟩,
⟨some 107, none, .bin .sub (.s 103) (.s 106)⟩,
⟨some 108, none, .mov (.s 10)⟩,
⟨some 109, none, .nilck (.s 91)⟩,
⟨some 110, none, .fldA 2 (.s 109)⟩,
⟨some 111, none, .nilck (.s 92)⟩,
⟨some 112, none, .fldA 3 (.s 111)⟩,
⟨some 113, none, .nilck (.s 93)⟩,
⟨some 114, none, .fldA 4 (.s 113)⟩,
⟨some 115, none, .nilck (.s 94)⟩,
⟨some 116, none, .fldA 5 (.s 115)⟩,
⟨some 117, none, .nilck (.s 95)⟩,
⟨some 118, none, .fldA 6 (.s 117)⟩]
[⟨none, none, .store 1 (.s 110) (.c (.pure (.int .i64 0)))⟩,
⟨none, none, .store 1 (.s 112) (.s 101)⟩,
⟨none, none, .store 1 (.s 114) (.s 107)⟩,
⟨none, none, .store 1 (.s 116) (.s 108)⟩,
⟨none, none, .store 1 (.s 118) (.c (.pure (.int .i64 (-1))))⟩]
[⟨some 97, none, .load false 1 (.s 96)⟩,
⟨some 100, none, .load false 1 (.s 99)⟩,
⟨some 103, none, .load false 1 (.s 102)⟩,
⟨some 106, none, .load false 1 (.s 105)⟩])
 (.seq (.reg [⟨some 119, none, .mov (.s 20)⟩,
⟨some 8, none, .mov (.s 119)⟩,
⟨some 9, none, .mov (.c (.pure (.bool true)))⟩])
 .ret)))))))))))
 (.reg [⟨some 120, none, .bin .add (.s 54) (.c (.pure (.int .i64 1)))⟩,
⟨some 54, none, .mov (.s 120)⟩]))))
def c104 : AC :=
 (.seq (.reg [⟨some 4, none, .box (.s 0)⟩,
⟨some 5, none, .box (.s 1)⟩,
⟨some 8, none, .mov (.c .empty)⟩,
⟨some 9, none, .mov (.c (.pure (.bool false)))⟩])
 (.seq (.reg [⟨some 23, none, .load true 6 (.s 4)⟩,
⟨some 24, none, .load true 4 (.s 5)⟩,
⟨some 25, none, .mov (.s 2)⟩,
⟨some 26, none, .mov (.s 3)⟩,
⟨some 27, none, .call 111 [(.s 23), (.s 24), (.s 25), (.s 26)]⟩,
⟨some 22, none, .mov (.s 27)⟩,
⟨some 28, none, .ext 0 (.s 22)⟩,
⟨some 29, none, .ext 1 (.s 22)⟩,
⟨some 10, none, .mov (.s 28)⟩,
⟨some 11, none, .mov (.s 29)⟩])
 (.seq (.seq (.reg [⟨some 30, none, .mov (.s 11)⟩,
⟨some 31, none, .un .not (.s 30)⟩])
 (.cond (.s 31)
 (.seq (.reg [⟨some 8, none, .mov (.c .empty)⟩,
⟨some 9, none, .mov (.c (.pure (.bool false)))⟩])
 .ret)
 .skip))
 (.seq (.reg [⟨some 32, none, .mov (.s 2)⟩,
⟨some 33, none, .mov (.s 3)⟩,
⟨some 34, none, .idxA 10 (.s 32) (.s 33)⟩,
⟨some 35, none, .load true 10 (.s 34)⟩,
⟨some 12, none, .box (.c (.pure (.agg [(.int .i64 0), (.int .i64 0), (.int .i64 0), (.int .i64 0), (.int .i64 0), (.int .i64 0), (.int .i64 0), (.int .i64 0), (.int .i64 0), (.int .i64 0)])))⟩,
⟨none, none, .store 10 (.s 12) (.s 35)⟩,
⟨some 13, none, .mov (.c (.pure (.int .i64 (-1))))⟩])
 (.seq (.seq (.regq [⟨some 36, none, .fldA 7 (.s 12)⟩,
⟨some 37, none, .load false 1 (.s 36)⟩,
⟨some 38, none, .bin .neq (.s 37) (.c (.pure (.int .i64 0)))⟩,
⟨some 39, none, .mov (.s 38)⟩,
⟨some 40, some (39, true), .fldA 7 (.s 12)⟩,
⟨some 41, some (39, true), .load false 1 (.s 40)⟩,
⟨some 42, some (39, true), .mov (.s 2)⟩,
⟨some 43, some (39, true), .mov (.s 10)⟩,
⟨some 44, some (39, true), .idxA 10 (.s 42) (.s 43)⟩,
⟨some 45, some (39, true), .fldA 7 (.s 44)⟩,
⟨some 46, some (39, true), .load false 1 (.s 45)⟩]
[⟨some 47, some (39, true), .bin .eql (.s 41) (.s 46)⟩,
⟨some 48, none, .pick (.s 39) (.s 47) (.c (.pure (.bool false)))⟩])
 (.cond (.s 48)
 (.reg [⟨some 49, none, .fldA 8 (.s 12)⟩,
⟨some 50, none, .load false 1 (.s 49)⟩,
⟨some 13, none, .mov (.s 50)⟩])
 .skip))
 (.seq (.seq (.reg [⟨some 51, none, .fldA 3 (.s 5)⟩,
⟨some 52, none, .load false 1 (.s 51)⟩,
⟨some 53, none, .len (.s 52)⟩,
⟨some 54, none, .mov (.c (.pure (.int .i64 0)))⟩])
 (.block 0
 (.loop c104_1)))
 c104_0))))))
theorem k104 : OkF 104 Try.f104 c104 [.t 8, .t 9] 121 := ⟨Try.func104, by kernel_rfl, by kernel_rfl, by kernel_rfl, Try.ntmps104⟩
def hangR (o : Option (List Gl)) : List V := [.sl ((o.getD []).map gl), .bool o.isSome]
theorem goM_step {k : Lk} {g host comp : Int} {i : Nat} {s : Sub} {r : List Sub} : goM k g host comp i (s :: r) = match findMk s.marks g with
  | some m => (match anchorF k i host m.cls comp with
   | some a => some (m, a)
   | none => goM k g host comp (i + 1) r)
  | none => goM k g host comp (i + 1) r := rfl
def hangM (ls : List Gl) (y p : Int) : Option (Mk × (Int × Int)) → Option (List Gl)
 | none => none
 | some q => some (ls.set y.toNat (hangG (glAt ls y) q.1 q.2 p))
def envM (k : Lk) (ls : List Gl) (y p c : Int) (i : Nat) : Env := [(54, .pure (I i)), (53, .pure (I k.subs.length)), (52, .pure (.sl (k.subs.map sub))), (2, .pure (.sl (ls.map gl))), (3, .pure (I y)), (5, .ptr 0 0 0), (10, .pure (I p)), (12, .ptr 1 0 0), (13, .pure (I c))]
def rowM (k : Lk) (g : Gl) : Heap := [⟨[.pure (lk k)], 4, .live⟩, ⟨[.pure (gl g)], 10, .live⟩]
theorem envM_eq {k : Lk} {ls : List Gl} {y p c : Int} {i : Nat} : envM k ls y p c i = [(54, .pure (I i)), (53, .pure (I k.subs.length)), (52, .pure (.sl (k.subs.map sub))), (2, .pure (.sl (ls.map gl))), (3, .pure (I y)), (5, .ptr 0 0 0), (10, .pure (I p)), (12, .ptr 1 0 0), (13, .pure (I c))] := rfl
theorem rowM_eq {k : Lk} {g : Gl} : rowM k g = [⟨[.pure (lk k)], 4, .live⟩, ⟨[.pure (gl g)], 10, .live⟩] := rfl
theorem apply34_loop (k : Lk) (ls : List Gl) (hl : ls.length ≤ 1000) (hs : ∀ s ∈ k.subs, s.marks.length ≤ 5000 ∧ s.hosts.length ≤ 5000) (hk : k.subs.length ≤ 9223372036854775807) (y p c : Int) (y0 : 0 ≤ y) (y1 : y < ls.length) (p0 : 0 ≤ p) (p2 : p < ls.length) (out : Option (List Gl))
  (hv : out = hangM ls y p (goM k (glAt ls y).id (glAt ls p).id c 0 k.subs)) (l : List Nat) (hln : l.Nodup) {env : Env} {H : Heap} (hE : keepE env l.length (pick l) (envM k ls y p c 0)) (hH : keepH H l.length (pick l) l (rowM k (glAt ls y))) :
  aWx Try.prog 0 (.loop c104_1) (blockA 0 (thenA (aWx Try.prog 0 c104_0 (PostX [.t 8, .t 9] (GivesF (hangR out)))) (PostX [.t 8, .t 9] (GivesF (hangR out))))) env H := by
 have hgy := glAt_map y0 y1
 have hgp := glAt_map p0 p2
 refine loop_at (T := Nat) (envM k ls y p c) (fun _ => rowM k (glAt ls y)) (fun i => i ≤ k.subs.length ∧ goM k (glAt ls y).id (glAt ls p).id c i (k.subs.drop i) = goM k (glAt ls y).id (glAt ls p).id c 0 k.subs) (fun i => k.subs.length - i)
  0 l hln rfl ⟨by simp, by simp⟩ hE hH ?_
 rintro i ⟨hi, hr⟩
 rw [envM_eq, rowM_eq]
 unfold c104_1
 simp -implicitDefEqProofs only [vmp,↓vmd,seval]
 refine onB_dec (fun h1 => ?_) (fun h1 => ?_)
 ·have hlt : i < k.subs.length := by omega
  rw [drop_at hlt, goM_step] at hr
  have hsi := hs k.subs[i] (List.getElem_mem _)
  have hgi : (k.subs.map sub)[i]? = some (sub k.subs[i]) := map_at hlt
  generalize k.subs[i] = s at hr hsi hgi
  simp -implicitDefEqProofs only [h1, hgi, Int.natCast_nonneg, vmp,↓vmd,seval]
  refine onC_fr (ixmk_c (glAt ls y) s.marks hsi.1) [1] (by simp) (by simp -implicitDefEqProofs only [kpp,seval]) rfl rfl (by simp) ?_
  (first | apply envO | apply envQ); simp -implicitDefEqProofs only [vmp,↓vmd,seval]; rfl
  simp -implicitDefEqProofs only [vmp,↓vmd,seval]
  rcases ix_mk (glAt ls y).id s.marks 0 with ⟨h2, h3⟩ | ⟨n, hn, h2, h3⟩
  ·rw [h3] at hr
   simp -implicitDefEqProofs only [h2, vmp,↓vmd,seval]
   refine onBk_to (i + 1) [0, 1] (by simp) rfl (by omega) ⟨hlt, hr⟩ (by simp -implicitDefEqProofs only [envM_eq, next_at hlt (by omega), kpp,seval]) (by simp -implicitDefEqProofs only [rowM_eq, kpp,seval])
  rw [h3] at hr
  rw [Nat.zero_add] at h2
  have hgm : (s.marks.map mk)[n]? = some (mk s.marks[n]) := map_at hn
  generalize s.marks[n] = m at hr hgm
  simp only at hr
  have n0 : ¬ (n : Int) < 0 := by omega
  simp -implicitDefEqProofs only [h2, n0, hgm, Int.natCast_nonneg, p0, p2, hgp, vmp,↓vmd,seval]
  refine onQ_q (anchor_q k (fun s h => (hs s h).2) (i : Int) (glAt ls p).id m.cls c) rfl ?_
  generalize anchorF k (i : Int) (glAt ls p).id m.cls c = a at hr
  cases a with
  | none =>
   simp only at hr
   (first | apply envO | apply envQ); simp -implicitDefEqProofs only [vmp,↓vmd,seval]; rfl
   simp -implicitDefEqProofs only [ancR, Option.getD_none, Option.isSome_none, vmp,↓vmd,seval]
   refine onBk_to (i + 1) [0, 1] (by simp) rfl (by omega) ⟨hlt, hr⟩ (by simp -implicitDefEqProofs only [envM_eq, next_at hlt (by omega), kpp,seval]) (by simp -implicitDefEqProofs only [rowM_eq, kpp,seval])
  | some a =>
   simp only at hr
   rw [← hr] at hv
   rw [hangM] at hv
   simp only at hv
   have w0 : (0 : Int) = (0 : Int) := rfl
   subst hv
   (first | apply envO | apply envQ); simp -implicitDefEqProofs only [vmp,↓vmd,seval]; rfl
   simp -implicitDefEqProofs only [ancR, Option.getD_some, Option.isSome_some, vmp,↓vmd,seval]
   refine onC_fr (cloneG_c ls hl) [] (by simp) trivial rfl rfl (by simp) ?_
   (first | apply envO | apply envQ); simp -implicitDefEqProofs only [vmp,↓vmd,seval]; rfl
   have hgr := glAt_row y0 y1
   have hset : ∀ (L : List Gl) (c0 c1 c2 c3 c4 c5 c6 c7 c8 c9 : Int), ((L.map gl).map S.pure).set y.toNat (.pure (.agg [I c0, I c1, I c2, I c3, I c4, I c5, I c6, I c7, I c8, I c9])) = ((L.set y.toNat ⟨c0, c1, c2, c3, c4, c5, c6, c7, c8, c9⟩).map gl).map S.pure := fun L c0 c1 c2 c3 c4 c5 c6 c7 c8 c9 => row_set (f := gl) (a := ⟨c0, c1, c2, c3, c4, c5, c6, c7, c8, c9⟩)
   have hat : ∀ g, (((ls.set y.toNat g).map gl).map S.pure)[y.toNat]? = some (.pure (gl g)) := fun g => by
    have := glAt_row (ls := ls.set y.toNat g) y0 (by rw [List.length_set]; exact y1)
    rw [this, glAt_set, if_pos ⟨rfl, by omega⟩]
   simp -implicitDefEqProofs only [y0, y1, hgr, hset, hat, List.set_set, vmp,↓vmd,seval]
   exact givesF_tup (toVs_of (toV_rowN rfl (.inr ⟨rfl, rfl⟩) (by simp)) rfl) (by simp) (.cons (fresh_row rfl (fun _ => rfl) (by simp)) (.cons (.pure _ rfl) .nil))
 ·rw [List.drop_of_length_le (by omega), goM] at hr
  rw [← hr, hangM] at hv
  subst hv
  simp -implicitDefEqProofs only [h1, vmp,↓vmd,seval]
  unfold c104_0
  simp -implicitDefEqProofs only [vmp,↓vmd,seval]
  exact givesF_tup rfl (by simp) (.cons .empty (.cons (.pure _ rfl) .nil))
theorem apply34_f (f : Fo) (k : Lk) (ls : List Gl) (hl : ls.length ≤ 1000) (hs : ∀ s ∈ k.subs, s.marks.length ≤ 5000 ∧ s.hosts.length ≤ 5000) (y : Int) : FnF Try.prog 104 [fo f, lk k, .sl (ls.map gl), I y] (hangR (markF f k ls y)) := by
 have key : aWx Try.prog 0 c104 (PostX [.t 8, .t 9] (GivesF (hangR (markF f k ls y)))) (argEnv 0 ([fo f, lk k, .sl (ls.map gl), I y].map .pure)) [] := ?_
 ·exact fnF_of_call (k104.a (by simp) key)
 unfold c104
 have hq := host_q f k ls hl y
 have hin := @hostF_in f k ls y
 have hv : markF f k ls y = match hostF f k ls y with
  | none => none
  | some p => hangM ls y p (goM k (glAt ls y).id (glAt ls p).id (compF (glAt ls y) (glAt ls p)) 0 k.subs) := by
  rw [markF]
  cases hostF f k ls y with
  | none => rfl
  | some p =>
   simp only
   cases goM k (glAt ls y).id (glAt ls p).id (compF (glAt ls y) (glAt ls p)) 0 k.subs <;> rfl
 generalize markF f k ls y = out at *
 generalize hostF f k ls y = o at *
 simp -implicitDefEqProofs only [*, vmp,↓vmd,seval]
 refine onC_q hq rfl ?_
 cases o with
 | none =>
  subst hv
  simp -implicitDefEqProofs only [hostR, Option.getD_none, Option.isSome_none, vmp,↓vmd,seval]
  exact givesF_tup rfl (by simp) (.cons .empty (.cons (.pure _ rfl) .nil))
 | some p =>
  obtain ⟨y0, y1, h3, p0, p1⟩ := hin rfl
  have p2 : p < ls.length := by omega
  have hgy := glAt_map y0 y1
  have hgp := glAt_map p0 p2
  simp only at hv
  simp -implicitDefEqProofs only [hostR, Option.getD_some, Option.isSome_some, y0, y1, hgy, vmp,↓vmd,seval]
  by_cases hlig : (glAt ls y).lig = 0
  ·rw [compF, if_neg (fun e => e.1 hlig)] at hv
   simp -implicitDefEqProofs only [hlig, vmp,↓vmd,seval]
   refine onIf_intro fun hk => ?_
   (first | apply envO | apply envQ); simp -implicitDefEqProofs only [vmp,↓vmd,seval]; rfl
   simp -implicitDefEqProofs only [hlig, vmp,↓vmd,seval]
   exact apply34_loop k ls hl hs hk y p (-1) y0 y1 p0 p2 out hv [1, 2] (by simp) (by simp -implicitDefEqProofs only [envM_eq, kpp,seval]) (by simp -implicitDefEqProofs only [rowM_eq, kpp,seval])
  simp -implicitDefEqProofs only [hlig, p0, p2, hgp, vmp,↓vmd,seval]
  by_cases hl2 : (glAt ls y).lig = (glAt ls p).lig
  ·rw [compF, if_pos ⟨hlig, hl2⟩] at hv
   simp -implicitDefEqProofs only [hlig, hl2, vmp,↓vmd,seval]
   refine onIf_intro fun hk => ?_
   (first | apply envO | apply envQ); simp -implicitDefEqProofs only [vmp,↓vmd,seval]; rfl
   simp -implicitDefEqProofs only [hlig, vmp,↓vmd,seval]
   exact apply34_loop k ls hl hs hk y p (glAt ls y).comp y0 y1 p0 p2 out hv [1, 2] (by simp) (by simp -implicitDefEqProofs only [envM_eq, kpp,seval]) (by simp -implicitDefEqProofs only [rowM_eq, kpp,seval])
  ·rw [compF, if_neg (fun e => hl2 e.2)] at hv
   simp -implicitDefEqProofs only [hlig, hl2, vmp,↓vmd,seval]
   refine onIf_intro fun hk => ?_
   (first | apply envO | apply envQ); simp -implicitDefEqProofs only [vmp,↓vmd,seval]; rfl
   simp -implicitDefEqProofs only [hlig, vmp,↓vmd,seval]
   exact apply34_loop k ls hl hs hk y p (-1) y0 y1 p0 p2 out hv [1, 2] (by simp) (by simp -implicitDefEqProofs only [envM_eq, kpp,seval]) (by simp -implicitDefEqProofs only [rowM_eq, kpp,seval])
theorem apply34_q (f : Fo) (k : Lk) (ls : List Gl) (hl : ls.length ≤ 1000) (hs : ∀ s ∈ k.subs, s.marks.length ≤ 5000 ∧ s.hosts.length ≤ 5000) (y : Int) : FnQ Try.prog 104 [fo f, lk k, .sl (ls.map gl), I y] (hangR (markF f k ls y)) := (apply34_f f k ls hl hs y).fnQ
end Go.Proofs.Ytcjmkpkhjhjepaa.W
