/-
  A mark is hung on its host: the program's function. No condition but on sizes.
-/
import Derived.Test.YtcjmkpkhjhjepaaGreatPMk3
import Derived.Test.YtcjmkpkhjhjepaaGreatCloneG
namespace Go.Proofs.YtcjmkpkhjhjepaaGreat.W
open Go Go.Vm Go.Proofs
set_option maxRecDepth 100000
set_option linter.unusedSimpArgs false
set_option maxHeartbeats 4000000
/-! typecase/marks.Apply -/
def c51_0 : AC :=
 (.seq (.reg [oo 8 (.mov (.c .empty)),
 oo 9 (.mov (nB false))])
 .ret)
def c51_1 : AC :=
 (.seq (.reg [oo 55 (.bin .lss (.s 54) (.s 53))])
 (.seq (.cond (.s 55)
 .skip
 (.exit 0))
 (.seq (.block 1
 (.seq (.reg [oo 56 (.mov (.s 54)),
 oo 57 (.idxA 12 (.s 52) (.s 54)),
 oo 58 (.load true 12 (.s 57)),
 oo 15 (.box (.c (.agg [.empty, .empty, .empty, .empty, .empty, .empty, .empty, .empty, .empty, .empty, .empty, .empty]))),
 oo 14 (.mov (.s 56)),
⟨none, none, .store 12 (.s 15) (.s 58)⟩])
 (.seq (.reg [oo 59 (.fldA 10 (.s 15)),
 oo 60 (.load false 1 (.s 59)),
 oo 61 (.mkfn (.func 84) [] [(.s 12)]),
 oo 62 (.call 83 [(.s 60), (.s 61)]),
 oo 16 (.mov (.s 62))])
 (.seq (.seq (.reg [oo 63 (.mov (.s 16)),
 oo 64 (.bin .lss (.s 63) (nI 0))])
 (.cond (.s 64)
 (.exit 1)
 .skip))
 (.seq (.reg [oo 65 (.fldA 10 (.s 15)),
 oo 66 (.load false 1 (.s 65)),
 oo 67 (.mov (.s 16)),
 oo 68 (.idxA 4 (.s 66) (.s 67)),
 oo 69 (.load true 4 (.s 68)),
 oo 17 (.box (.c (.pure (.agg [(.int .i64 0), (.int .i64 0), (.int .i64 0), (.int .i64 0)])))),
⟨none, none, .store 4 (.s 17) (.s 69)⟩])
 (.seq (.regq [oo 71 (.load true 4 (.s 5)),
 oo 72 (.mov (.s 14)),
 oo 73 (.mov (.s 2)),
 oo 74 (.mov (.s 10)),
 oo 75 (.idxA 10 (.s 73) (.s 74)),
 oo 76 (.fldA 0 (.s 75)),
 oo 77 (.load false 1 (.s 76)),
 oo 78 (.fldA 1 (.s 17)),
 oo 79 (.load false 1 (.s 78)),
 oo 80 (.mov (.s 13)),
 oo 81 (.call 85 [(.s 71), (.s 72), (.s 77), (.s 79), (.s 80)]),
 oo 70 (.mov (.s 81)),
 oo 82 (.ext 0 (.s 70)),
 oo 83 (.ext 1 (.s 70)),
 oo 18 (.box (.c (.pure (.agg [(.int .i64 0), (.int .i64 0)]))))]
[⟨none, none, .store 2 (.s 18) (.s 82)⟩,
 oo 19 (.mov (.s 83))])
 (.seq (.seq (.reg [oo 84 (.mov (.s 19)),
 oo 85 (.un .not (.s 84))])
 (.cond (.s 85)
 (.exit 1)
 .skip))
 (.seq (.reg [oo 86 (.mov (.s 2)),
 oo 87 (.call 24 [(.s 86)]),
 oo 20 (.mov (.s 87))])
 (.seq (.reg [oo 88 (.mov (.s 20)),
 oo 89 (.mov (.s 3)),
 oo 90 (.idxA 10 (.s 88) (.s 89)),
 oo 21 (.mov (.s 90))])
 (.seq (.regm [oo 91 (.mov (.s 21)),
 oo 92 (.mov (.s 21)),
 oo 93 (.mov (.s 21)),
 oo 94 (.mov (.s 21)),
 oo 95 (.mov (.s 21)),
 oo 96 (.fldA 0 (.s 18)),
 oo 97 (.load false 1 (.s 96)),
 oo 98 (.fldA 2 (.s 17)),
 oo 99 (.fldA 0 (.s 98)),
 oo 100 (.load false 1 (.s 99)),
 oo 101 (.bin .sub (.s 97) (.s 100)),
 oo 102 (.fldA 1 (.s 18)),
 oo 103 (.load false 1 (.s 102)),
 oo 104 (.fldA 2 (.s 17)),
 oo 105 (.fldA 1 (.s 104)),
 oo 106 (.load false 1 (.s 105)),
 oo 107 (.bin .sub (.s 103) (.s 106)),
 oo 108 (.mov (.s 10)),
 oo 109 (.nilck (.s 91)),
 oo 110 (.fldA 2 (.s 109)),
 oo 111 (.nilck (.s 92)),
 oo 112 (.fldA 3 (.s 111)),
 oo 113 (.nilck (.s 93)),
 oo 114 (.fldA 4 (.s 113)),
 oo 115 (.nilck (.s 94)),
 oo 116 (.fldA 5 (.s 115)),
 oo 117 (.nilck (.s 95)),
 oo 118 (.fldA 6 (.s 117))]
[⟨none, none, .store 1 (.s 110) (nI 0)⟩,
⟨none, none, .store 1 (.s 112) (.s 101)⟩,
⟨none, none, .store 1 (.s 114) (.s 107)⟩,
⟨none, none, .store 1 (.s 116) (.s 108)⟩,
⟨none, none, .store 1 (.s 118) (nI (-1))⟩]
[oo 97 (.load false 1 (.s 96)),
 oo 100 (.load false 1 (.s 99)),
 oo 103 (.load false 1 (.s 102)),
 oo 106 (.load false 1 (.s 105))])
 (.seq (.reg [oo 119 (.mov (.s 20)),
 oo 8 (.mov (.s 119)),
 oo 9 (.mov (nB true))])
 .ret)))))))))))
 (.reg [oo 120 (.bin .add (.s 54) (nI 1)),
 oo 54 (.mov (.s 120))]))))
def c51 : AC :=
 (.seq (.reg [oo 4 (.box (.s 0)),
 oo 5 (.box (.s 1)),
 oo 8 (.mov (.c .empty)),
 oo 9 (.mov (nB false))])
 (.seq (.reg [oo 23 (.load true 6 (.s 4)),
 oo 24 (.load true 4 (.s 5)),
 oo 25 (.mov (.s 2)),
 oo 26 (.mov (.s 3)),
 oo 27 (.call 82 [(.s 23), (.s 24), (.s 25), (.s 26)]),
 oo 22 (.mov (.s 27)),
 oo 28 (.ext 0 (.s 22)),
 oo 29 (.ext 1 (.s 22)),
 oo 10 (.mov (.s 28)),
 oo 11 (.mov (.s 29))])
 (.seq (.seq (.reg [oo 30 (.mov (.s 11)),
 oo 31 (.un .not (.s 30))])
 (.cond (.s 31)
 (.seq (.reg [oo 8 (.mov (.c .empty)),
 oo 9 (.mov (nB false))])
 .ret)
 .skip))
 (.seq (.reg [oo 32 (.mov (.s 2)),
 oo 33 (.mov (.s 3)),
 oo 34 (.idxA 10 (.s 32) (.s 33)),
 oo 35 (.load true 10 (.s 34)),
 oo 12 (.box (.c (.pure (.agg [(.int .i64 0), (.int .i64 0), (.int .i64 0), (.int .i64 0), (.int .i64 0), (.int .i64 0), (.int .i64 0), (.int .i64 0), (.int .i64 0), (.int .i64 0)])))),
⟨none, none, .store 10 (.s 12) (.s 35)⟩,
 oo 13 (.mov (nI (-1)))])
 (.seq (.seq (.regq [oo 36 (.fldA 7 (.s 12)),
 oo 37 (.load false 1 (.s 36)),
 oo 38 (.bin .neq (.s 37) (nI 0)),
 oo 39 (.mov (.s 38)),
 og 40 39 true (.fldA 7 (.s 12)),
 og 41 39 true (.load false 1 (.s 40)),
 og 42 39 true (.mov (.s 2)),
 og 43 39 true (.mov (.s 10)),
 og 44 39 true (.idxA 10 (.s 42) (.s 43)),
 og 45 39 true (.fldA 7 (.s 44)),
 og 46 39 true (.load false 1 (.s 45))]
[og 47 39 true (.bin .eql (.s 41) (.s 46)),
 oo 48 (.pick (.s 39) (.s 47) (nB false))])
 (.cond (.s 48)
 (.reg [oo 49 (.fldA 8 (.s 12)),
 oo 50 (.load false 1 (.s 49)),
 oo 13 (.mov (.s 50))])
 .skip))
 (.seq (.seq (.reg [oo 51 (.fldA 3 (.s 5)),
 oo 52 (.load false 1 (.s 51)),
 oo 53 (.len (.s 52)),
 oo 54 (.mov (nI 0))])
 (.block 0
 (.loop c51_1)))
 c51_0))))))
theorem k51 : OkF 51 Tryz.f51 c51 [.t 8, .t 9] 121 := ⟨Tryz.func51, by kernel_rfl, by kernel_rfl, by kernel_rfl, Tryz.ntmps51⟩
def hangR (o : Option (List Gl)) : List V := [.sl ((o.getD []).map gl), .bool o.isSome]
theorem goM_step {k : Lk} {g host comp : Int} {i : Nat} {s : Sub} {r : List Sub} : goM k g host comp i (s :: r) = match findMk s.marks g with
  | some m => (match anchorF k i host m.cls comp with
   | some a => some (m, a)
   | none => goM k g host comp (i + 1) r)
  | none => goM k g host comp (i + 1) r := rfl
def hangM (ls : List Gl) (y p : Int) : Option (Mk × (Int × Int)) → Option (List Gl)
 | none => none
 | some q => some (ls.set y.toNat (hangG (glAt ls y) q.1 q.2 p))
def envM (k : Lk) (ls : List Gl) (y p c : Int) (i : Nat) : Env := [(54, .pure (I i)), (53, .pure (I k.subs.length)), (52, .pure (.sl (k.subs.map sub))), (2, .pure (.sl (ls.map gl))), (3, .pure (I y)), (5, .ptr 0 0 0), (10, .pure (I p)), (12, .ptr 1 0 0), (13, .pure (I c))]
def rowM (k : Lk) (g : Gl) : Heap := [⟨[.pure (lk k)], 4, .live⟩, ⟨[.pure (gl g)], 10, .live⟩]
theorem envM_eq {k : Lk} {ls : List Gl} {y p c : Int} {i : Nat} : envM k ls y p c i = [(54, .pure (I i)), (53, .pure (I k.subs.length)), (52, .pure (.sl (k.subs.map sub))), (2, .pure (.sl (ls.map gl))), (3, .pure (I y)), (5, .ptr 0 0 0), (10, .pure (I p)), (12, .ptr 1 0 0), (13, .pure (I c))] := rfl
theorem rowM_eq {k : Lk} {g : Gl} : rowM k g = [⟨[.pure (lk k)], 4, .live⟩, ⟨[.pure (gl g)], 10, .live⟩] := rfl
theorem apply34_loop (k : Lk) (ls : List Gl) (hl : ls.length ≤ 1000) (hs : ∀ s ∈ k.subs, s.marks.length ≤ 5000 ∧ s.hosts.length ≤ 5000) (hk : k.subs.length ≤ 9223372036854775807) (y p c : Int) (y0 : 0 ≤ y) (y1 : y < ls.length) (p0 : 0 ≤ p) (p2 : p < ls.length) (out : Option (List Gl))
  (hv : out = hangM ls y p (goM k (glAt ls y).id (glAt ls p).id c 0 k.subs)) (l : List Nat) (hln : l.Nodup) {env : Env} {H : Heap} (hE : keepE env l.length (pick l) (envM k ls y p c 0)) (hH : keepH H l.length (pick l) l (rowM k (glAt ls y))) :
  aWx Tryz.prog 0 (.loop c51_1) (blockA 0 (thenA (aWx Tryz.prog 0 c51_0 (PostX [.t 8, .t 9] (GivesF (hangR out)))) (PostX [.t 8, .t 9] (GivesF (hangR out))))) env H := by
 have hgy := glAt_map y0 y1
 have hgp := glAt_map p0 p2
 refine loop_at (T := Nat) (envM k ls y p c) (fun _ => rowM k (glAt ls y)) (fun i => i ≤ k.subs.length ∧ goM k (glAt ls y).id (glAt ls p).id c i (k.subs.drop i) = goM k (glAt ls y).id (glAt ls p).id c 0 k.subs) (fun i => k.subs.length - i)
  0 l hln rfl ⟨by simp, by simp⟩ hE hH ?_
 rintro i ⟨hi, hr⟩
 rw [envM_eq, rowM_eq]
 unfold c51_1
 simp only [vmp,↓vmd,seval]
 refine onB_dec (fun h1 => ?_) (fun h1 => ?_)
 ·have hlt : i < k.subs.length := by omega
  rw [drop_at hlt, goM_step] at hr
  have hsi := hs k.subs[i] (List.getElem_mem _)
  have hgi : (k.subs.map sub)[i]? = some (sub k.subs[i]) := map_at hlt
  generalize k.subs[i] = s at hr hsi hgi
  simp only [h1, hgi, Int.natCast_nonneg, vmp,↓vmd,seval]
  refine onC_fr (ixmk_c (glAt ls y) s.marks hsi.1) [1] (by simp) (by simp only [kpp,seval]) rfl rfl (by simp) ?_
  (first | apply envO | apply envQ); simp only [vmp,↓vmd,seval]; rfl
  simp only [vmp,↓vmd,seval]
  rcases ix_mk (glAt ls y).id s.marks 0 with ⟨h2, h3⟩ | ⟨n, hn, h2, h3⟩
  ·rw [h3] at hr
   simp only [h2, vmp,↓vmd,seval]
   refine onBk_to (i + 1) [0, 1] (by simp) rfl (by omega) ⟨hlt, hr⟩ (by simp only [envM_eq, next_at hlt (by omega), kpp,seval]) (by simp only [rowM_eq, kpp,seval])
  rw [h3] at hr
  rw [Nat.zero_add] at h2
  have hgm : (s.marks.map mk)[n]? = some (mk s.marks[n]) := map_at hn
  generalize s.marks[n] = m at hr hgm
  simp only at hr
  have n0 : ¬ (n : Int) < 0 := by omega
  simp only [h2, n0, hgm, Int.natCast_nonneg, p0, p2, hgp, vmp,↓vmd,seval]
  refine onQ_q (anchor_q k (fun s h => (hs s h).2) (i : Int) (glAt ls p).id m.cls c) rfl ?_
  generalize anchorF k (i : Int) (glAt ls p).id m.cls c = a at hr
  cases a with
  | none =>
   simp only at hr
   (first | apply envO | apply envQ); simp only [vmp,↓vmd,seval]; rfl
   simp only [ancR, Option.getD_none, Option.isSome_none, vmp,↓vmd,seval]
   refine onBk_to (i + 1) [0, 1] (by simp) rfl (by omega) ⟨hlt, hr⟩ (by simp only [envM_eq, next_at hlt (by omega), kpp,seval]) (by simp only [rowM_eq, kpp,seval])
  | some a =>
   simp only at hr
   rw [← hr] at hv
   rw [hangM] at hv
   simp only at hv
   have w0 : (0 : Int) = (0 : Int) := rfl
   subst hv
   (first | apply envO | apply envQ); simp only [vmp,↓vmd,seval]; rfl
   simp only [ancR, Option.getD_some, Option.isSome_some, vmp,↓vmd,seval]
   refine onC_fr (cloneG_c ls hl) [] (by simp) trivial rfl rfl (by simp) ?_
   (first | apply envO | apply envQ); simp only [vmp,↓vmd,seval]; rfl
   have hgr := glAt_row y0 y1
   have hset : ∀ (L : List Gl) (c0 c1 c2 c3 c4 c5 c6 c7 c8 c9 : Int), ((L.map gl).map S.pure).set y.toNat (.pure (.agg [I c0, I c1, I c2, I c3, I c4, I c5, I c6, I c7, I c8, I c9])) = ((L.set y.toNat ⟨c0, c1, c2, c3, c4, c5, c6, c7, c8, c9⟩).map gl).map S.pure := fun L c0 c1 c2 c3 c4 c5 c6 c7 c8 c9 => row_set (f := gl) (a := ⟨c0, c1, c2, c3, c4, c5, c6, c7, c8, c9⟩)
   have hat : ∀ g, (((ls.set y.toNat g).map gl).map S.pure)[y.toNat]? = some (.pure (gl g)) := fun g => by
    have := glAt_row (ls := ls.set y.toNat g) y0 (by rw [List.length_set]; exact y1)
    rw [this, glAt_set, if_pos ⟨rfl, by omega⟩]
   simp only [y0, y1, hgr, hset, hat, List.set_set, vmp,↓vmd,seval]
   exact givesF_tup (toVs_of (toV_rowN rfl (.inr ⟨rfl, rfl⟩) (by simp)) rfl) (by simp) (.cons (fresh_row rfl (fun _ => rfl) (by simp)) (.cons (.pure _ rfl) .nil))
 ·rw [List.drop_of_length_le (by omega), goM] at hr
  rw [← hr, hangM] at hv
  subst hv
  simp only [h1, vmp,↓vmd,seval]
  unfold c51_0
  simp only [vmp,↓vmd,seval]
  exact givesF_tup rfl (by simp) (.cons .empty (.cons (.pure _ rfl) .nil))
theorem apply34_f (f : Fo) (k : Lk) (ls : List Gl) (hl : ls.length ≤ 1000) (hs : ∀ s ∈ k.subs, s.marks.length ≤ 5000 ∧ s.hosts.length ≤ 5000) (y : Int) : FnF Tryz.prog 51 [fo f, lk k, .sl (ls.map gl), I y] (hangR (markF f k ls y)) := by
 have key : aWx Tryz.prog 0 c51 (PostX [.t 8, .t 9] (GivesF (hangR (markF f k ls y)))) (argEnv 0 ([fo f, lk k, .sl (ls.map gl), I y].map .pure)) [] := ?_
 ·exact fnF_of_call (k51.a (by simp) key)
 unfold c51
 have hq := host_q f k ls hl y
 have hin := @hostF_in f k ls y
 have hv : markF f k ls y = match hostF f k ls y with
  | none => none
  | some p => hangM ls y p (goM k (glAt ls y).id (glAt ls p).id (compF (glAt ls y) (glAt ls p)) 0 k.subs) := by
  rw [markF]
  cases hostF f k ls y with
  | none => rfl
  | some p =>
   simp only
   cases goM k (glAt ls y).id (glAt ls p).id (compF (glAt ls y) (glAt ls p)) 0 k.subs <;> rfl
 generalize markF f k ls y = out at *
 generalize hostF f k ls y = o at *
 simp only [*, vmp,↓vmd,seval]
 refine onC_q hq rfl ?_
 cases o with
 | none =>
  subst hv
  simp only [hostR, Option.getD_none, Option.isSome_none, vmp,↓vmd,seval]
  exact givesF_tup rfl (by simp) (.cons .empty (.cons (.pure _ rfl) .nil))
 | some p =>
  obtain ⟨y0, y1, h3, p0, p1⟩ := hin rfl
  have p2 : p < ls.length := by omega
  have hgy := glAt_map y0 y1
  have hgp := glAt_map p0 p2
  simp only at hv
  simp only [hostR, Option.getD_some, Option.isSome_some, y0, y1, hgy, vmp,↓vmd,seval]
  by_cases hlig : (glAt ls y).lig = 0
  ·rw [compF, if_neg (fun e => e.1 hlig)] at hv
   simp only [hlig, vmp,↓vmd,seval]
   refine onIf_intro fun hk => ?_
   (first | apply envO | apply envQ); simp only [vmp,↓vmd,seval]; rfl
   simp only [hlig, vmp,↓vmd,seval]
   exact apply34_loop k ls hl hs hk y p (-1) y0 y1 p0 p2 out hv [1, 2] (by simp) (by simp only [envM_eq, kpp,seval]) (by simp only [rowM_eq, kpp,seval])
  simp only [hlig, p0, p2, hgp, vmp,↓vmd,seval]
  by_cases hl2 : (glAt ls y).lig = (glAt ls p).lig
  ·rw [compF, if_pos ⟨hlig, hl2⟩] at hv
   simp only [hlig, hl2, vmp,↓vmd,seval]
   refine onIf_intro fun hk => ?_
   (first | apply envO | apply envQ); simp only [vmp,↓vmd,seval]; rfl
   simp only [hlig, vmp,↓vmd,seval]
   exact apply34_loop k ls hl hs hk y p (glAt ls y).comp y0 y1 p0 p2 out hv [1, 2] (by simp) (by simp only [envM_eq, kpp,seval]) (by simp only [rowM_eq, kpp,seval])
  ·rw [compF, if_neg (fun e => hl2 e.2)] at hv
   simp only [hlig, hl2, vmp,↓vmd,seval]
   refine onIf_intro fun hk => ?_
   (first | apply envO | apply envQ); simp only [vmp,↓vmd,seval]; rfl
   simp only [hlig, vmp,↓vmd,seval]
   exact apply34_loop k ls hl hs hk y p (-1) y0 y1 p0 p2 out hv [1, 2] (by simp) (by simp only [envM_eq, kpp,seval]) (by simp only [rowM_eq, kpp,seval])
theorem apply34_q (f : Fo) (k : Lk) (ls : List Gl) (hl : ls.length ≤ 1000) (hs : ∀ s ∈ k.subs, s.marks.length ≤ 5000 ∧ s.hosts.length ≤ 5000) (y : Int) : FnQ Tryz.prog 51 [fo f, lk k, .sl (ls.map gl), I y] (hangR (markF f k ls y)) := (apply34_f f k ls hl hs y).fnQ
end Go.Proofs.YtcjmkpkhjhjepaaGreat.W
