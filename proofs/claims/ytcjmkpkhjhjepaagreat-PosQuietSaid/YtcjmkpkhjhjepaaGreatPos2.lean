/-
  The machine of positions: a context whose nests are done by the machine. No condition but on sizes.
-/
import Derived.Test.YtcjmkpkhjhjepaaGreatPos1
import Derived.Test.YtcjmkpkhjhjepaaGreatCopyG
namespace Go.Proofs.YtcjmkpkhjhjepaaGreat.W
open Go Go.Vm Go.Proofs
set_option maxRecDepth 100000
set_option linter.unusedSimpArgs false
set_option maxHeartbeats 4000000
/-! typecase/context.Apply -/
def c52_0 : AC :=
 (.seq (.regq [oo 60 (.fldA 1 (.s 17)),
 oo 61 (.load false 1 (.s 60)),
 oo 62 (.call 24 [(.s 61)]),
 oo 63 (.fldA 1 (.s 17)),
 oo 64 (.load false 1 (.s 63)),
 oo 65 (.len (.s 64)),
 oo 66 (.mov (.s 16)),
 oo 67 (.bin .sub (.s 65) (.s 66)),
 oo 68 (.mov (.s 3)),
 oo 69 (.mx (.s 67) (.s 68)),
 oo 10 (.mov (.s 62))]
[oo 11 (.mov (.s 69)),
 oo 12 (.mov (nB true))])
 .ret)
def c52_1 : AC :=
 (.seq (.reg [oo 54 (.bin .lss (.s 53) (.s 52))])
 (.seq (.cond (.s 54)
 .skip
 (.exit 0))
 (.seq (.block 1
 (.seq (.reg [oo 55 (.idxA 2 (.s 51) (.s 53)),
 oo 56 (.load true 2 (.s 55)),
 oo 19 (.box (.c (.pure (.agg [(.int .i64 0), (.int .i64 0)])))),
⟨none, none, .store 2 (.s 19) (.s 56)⟩])
 (.reg [oo 57 (.load true 2 (.s 19)),
 oo 58 (.call 86 [(.s 17), (.s 57)])])))
 (.reg [oo 59 (.bin .add (.s 53) (nI 1)),
 oo 53 (.mov (.s 59))]))))
def c52 : AC :=
 (.seq (.reg [oo 5 (.box (.s 0)),
 oo 6 (.box (.s 1)),
 oo 10 (.mov (.c .empty)),
 oo 11 (.mov (nI 0)),
 oo 12 (.mov (nB false))])
 (.seq (.reg [oo 21 (.load true 6 (.s 5)),
 oo 22 (.load true 4 (.s 6)),
 oo 23 (.mov (.s 2)),
 oo 24 (.mov (.s 3)),
 oo 25 (.call 48 [(.s 21), (.s 22), (.s 23), (.s 24)]),
 oo 20 (.mov (.s 25)),
 oo 26 (.ext 0 (.s 20)),
 oo 27 (.ext 1 (.s 20)),
 oo 28 (.ext 2 (.s 20)),
 oo 13 (.mov (.s 26)),
 oo 14 (.mov (.s 27)),
 oo 15 (.mov (.s 28))])
 (.seq (.seq (.reg [oo 29 (.mov (.s 15)),
 oo 30 (.un .not (.s 29))])
 (.cond (.s 30)
 (.seq (.reg [oo 10 (.mov (.c .empty)),
 oo 11 (.mov (nI 0)),
 oo 12 (.mov (nB false))])
 .ret)
 .skip))
 (.seq (.reg [oo 31 (.mov (.s 2)),
 oo 32 (.len (.s 31)),
 oo 33 (.mov (.s 14)),
 oo 34 (.mov (.s 14)),
 oo 35 (.len (.s 34)),
 oo 36 (.bin .sub (.s 35) (nI 1)),
 oo 37 (.idxA 1 (.s 33) (.s 36)),
 oo 38 (.load false 1 (.s 37)),
 oo 39 (.bin .sub (.s 32) (.s 38)),
 oo 40 (.bin .sub (.s 39) (nI 1)),
 oo 16 (.mov (.s 40))])
 (.seq (.reg [oo 41 (.mov (.s 4)),
 oo 42 (.mov (.s 2)),
 oo 43 (.call 24 [(.s 42)]),
 oo 44 (.mov (.s 14)),
 oo 45 (.build [(.pure .nilf), .empty, .empty] [(0, 1, (.s 41)), (1, 1, (.s 43)), (2, 1, (.s 44))]),
 oo 17 (.box (.c (.agg [(.pure .nilf), .empty, .empty]))),
⟨none, none, .store 3 (.s 17) (.s 45)⟩])
 (.seq (.seq (.reg [oo 46 (.fldA 3 (.s 6)),
 oo 47 (.load false 1 (.s 46)),
 oo 48 (.mov (.s 13)),
 oo 49 (.idxA 12 (.s 47) (.s 48)),
 oo 50 (.fldA 6 (.s 49)),
 oo 51 (.load false 1 (.s 50)),
 oo 52 (.len (.s 51)),
 oo 53 (.mov (nI 0))])
 (.block 0
 (.loop c52_1)))
 c52_0))))))
theorem k52 : OkF 52 Tryz.f52 c52 [.t 10, .t 11, .t 12] 70 := ⟨Tryz.func52, by kernel_rfl, by kernel_rfl, by kernel_rfl, Tryz.ntmps52⟩
theorem Match1.all {f : Fo} {k : Lk} {ls : List Gl} {x : Int} {i : Nat} {p : List Int} (h : Match1 f k ls x i p) : ∀ y ∈ p, 0 ≤ y ∧ y < (ls.length : Int) := by
 intro y hy
 obtain ⟨j, hj, rfl⟩ := List.mem_iff_getElem.1 hy
 have := h.ge j hj
 rw [intAt_last hj] at this
 have := h.x0
 omega
theorem nestP_succ {O : Once} {ps : List Int} {z : List Gl × Int} {l : List Ns} {j : Nat} (h : j < l.length) : nestP O ps z (l.take (j + 1)) = nestS O ps (nestP O ps z (l.take j)) l[j] := by
 rw [List.take_add_one, List.getElem?_eq_getElem h, nestP, List.foldl_append]
 rfl
theorem onceS_k {r : Option (List Gl × Int)} {n : Nat} {f : Nat → Nat} : S.inb n (onceS r) = true ∧ S.ren f (onceS r) = onceS r := by
 cases r <;> exact ⟨rfl, rfl⟩
theorem ctxa_c (F : Ff) {m : Nat} (h : OnceC F m) (k : Lk) (hs : ∀ s ∈ k.subs, s.back.length ≤ 16 ∧ s.inn.length ≤ 16 ∧ s.ahead.length ≤ 16) (hn : ∀ s ∈ k.subs, s.nests.length ≤ 16) (l : List Gl) (x left deep : Int) (hl : l.length ≤ 100) (h0 : 0 ≤ left) (h1 : left ≤ 65536) (hd : deep + 1 = 9 - (m : Int)) (hd0 : 0 ≤ deep) :
  CallA Tryz.prog 52 [.pure (ffV F), .pure (lk k), .pure (.sl (l.map gl)), .pure (I x), .func (.func 53) [] [.ptr 1 0 0, .ptr 2 0 0]] [mR F left, pR, dR deep]
   fun s H' => s = onceS (ctxO (onceF F m) F.fo k l x left).1 ∧ H' = [mR F (ctxO (onceF F m) F.fo k l x left).2, pR, dR deep] := by
 refine CallA.weak (K := fun s H' => s = onceS (ctxO (onceF F m) F.fo k l x left).1 ∧ ∃ R, H' = mR F (ctxO (onceF F m) F.fo k l x left).2 :: pR :: dR deep :: R) ?_ ?_
 ·refine k52.a (by simp) ?_
  unfold c52
  have hm := match_q F.fo k l (by omega) x hs
  rw [ffV_fo] at hm
  have hin := fun i p => @matchF_in F.fo k l x i p
  have ho : ctxO (onceF F m) F.fo k l x left = match matchF F.fo k l x with
   | none => (none, left)
   | some q => (some ((nestP (onceF F m) q.2 (l, left) (subK k.subs q.1).nests).1, lastI q.2 + 1), (nestP (onceF F m) q.2 (l, left) (subK k.subs q.1).nests).2) := rfl
  generalize ctxO (onceF F m) F.fo k l x left = out at *
  generalize matchF F.fo k l x = o at *
  simp only [vmp,↓vmd,seval]
  cases o with
  | none =>
   have hm' : FnQ Tryz.prog 48 [ffV F, lk k, .sl (l.map gl), I x] [I 0, LI [], .bool false] := hm
   refine onC_q hm' rfl ?_
   simp only at ho
   subst ho
   (first | apply envO | apply envQ); simp only [vmp,↓vmd,seval]; rfl
   simp only [onceS, vmp,↓vmd,seval]
   exact ⟨_, rfl⟩
  | some q =>
   obtain ⟨i, p⟩ := q
   have M := hin i p rfl
   obtain ⟨s, hsi, hpl⟩ := M.sub
   have hsm := List.mem_of_getElem? hsi
   obtain ⟨g0, g1, g2⟩ := M.last
   have hp16 := (hs s hsm).2.1
   have hn16 := hn s hsm
   have hpi := M.all
   have hsK : subK k.subs i = s := by rw [subK, hsi]; rfl
   have hm' : FnQ Tryz.prog 48 [ffV F, lk k, .sl (l.map gl), I x] [I (i : Int), LI p, .bool true] := hm
   refine onC_q hm' rfl ?_
   simp only [hsK] at ho
   have hw : IntKind.wrap .i64 ((p.length : Int) - 1) = (p.length : Int) - 1 := wrap_id (by omega) (by omega)
   have hlast := intAt_map (ps := p) (y := (p.length : Int) - 1) (by omega) (by omega)
   have hsub : (k.subs.map sub)[i]? = some (sub s) := by rw [List.getElem?_map, hsi]; rfl
   have w0 : 0 ≤ (p.length : Int) - 1 := by omega
   (first | apply envO | apply envQ); simp only [vmp,↓vmd,seval]; rfl
   simp only [vmp,↓vmd,seval]
   refine onIf_intro fun _ => ?_
   (first | apply envO | apply envQ); simp only [vmp,↓vmd,seval]; rfl
   simp only [vmp,↓vmd,seval]
   refine onIf_intro fun _ => ?_
   (first | apply envO | apply envQ); simp only [hw, vmp,↓vmd,seval]; rfl
   simp only [hw, hlast, w0, vmp,↓vmd,seval]
   refine onC_q (cloneG_q l (by omega)) rfl ?_
   (first | apply envO | apply envQ); simp only [vmp,↓vmd,seval]; rfl
   simp only [hsub, Int.natCast_nonneg, vmp,↓vmd,seval]
   refine onIf_intro fun _ => ?_
   (first | apply envO | apply envQ); simp only [vmp,↓vmd,seval]; rfl
   simp only [vmp,↓vmd,seval]
   have hP := fun j => nestP_p (onceF_p F m) (ps := p) (s.nests.take j) (l, left) h0
   refine loop_at (T := Nat) (fun j => [(53, .pure (I (j : Int))), (52, .pure (I s.nests.length)), (51, .pure (.sl (s.nests.map ns))), (17, .ptr 3 0 0), (16, .pure (I (IntKind.wrap .i64 (IntKind.wrap .i64 ((l.length : Int) - intAt p ((p.length : Int) - 1)) - 1)))), (3, .pure (I x))])
    (fun j => [mR F (nestP (onceF F m) p (l, left) (s.nests.take j)).2, pR, dR deep, wR (nestP (onceF F m) p (l, left) (s.nests.take j)).1 p]) (fun j => j ≤ s.nests.length) (fun j => s.nests.length - j)
    0 [0, 1, 2, 5] (by simp) rfl (by simp) (by simp only [kpp,seval]) (by simp only [kpp,seval, List.take_zero, show nestP (onceF F m) p (l, left) [] = (l, left) from rfl]) ?_
   intro j hj
   obtain ⟨c1, c2, c3, _⟩ := hP j
   have cl := coreL_len c1
   simp only at cl c3
   unfold c52_1
   simp only [vmp,↓vmd,seval]
   refine onB_dec (fun b1 => ?_) (fun b1 => ?_)
   ·have hlt : j < s.nests.length := by omega
    have hsuc := nestP_succ (O := onceF F m) (ps := p) (z := (l, left)) hlt
    have hgi : (s.nests.map ns)[j]? = some (ns s.nests[j]) := map_at hlt
    generalize nestP (onceF F m) p (l, left) (s.nests.take j) = z at *
    obtain ⟨z1, z2⟩ := z
    have hc := nest_c F h s.nests[j] z1 p z2 deep (by simp only at cl; omega) (by simp only at c2; omega) (by simp only at c3; omega) hd hd0 (by omega) (fun y hy => by have := hpi y hy; simp only at cl; omega)
    rw [← hsuc] at hc
    generalize s.nests[j] = nn at *
    simp only [b1, hgi, Int.natCast_nonneg, vmp,↓vmd,seval]
    refine onC_fr hc [0, 1, 2, 3] (by simp) (by simp only [kpp,seval]) rfl rfl (by simp) ?_
    (first | apply envO | apply envQ); simp only [vmp,↓vmd,seval]; rfl
    simp only [vmp,↓vmd,seval]
    refine onBk_to (j + 1) [0, 1, 2, 3] (by simp) rfl (by omega) hlt (by simp only [next_at hlt (by omega), kpp,seval]) (by simp only [kpp,seval])
   ·obtain rfl : j = s.nests.length := by omega
    rw [List.take_length] at cl c1 c2 c3 ⊢
    generalize nestP (onceF F m) p (l, left) s.nests = z at *
    have hfin : IntKind.wrap .i64 ((z.1.length : Int) - IntKind.wrap .i64 (IntKind.wrap .i64 ((l.length : Int) - intAt p ((p.length : Int) - 1)) - 1)) = lastI p + 1 := by
     have e : intAt p ((p.length : Int) - 1) = lastI p := rfl
     have hx0 := M.x0
     rw [e, wrap_id (n := (l.length : Int) - lastI p) (by omega) (by omega), wrap_id (n := (l.length : Int) - lastI p - 1) (by omega) (by omega), wrap_id (by omega) (by omega)]
     omega
    simp only [b1, vmp,↓vmd,seval]
    unfold c52_0
    simp only [vmp,↓vmd,seval]
    refine onQ_q (cloneG_q z.1 (by omega)) rfl ?_
    (first | apply envO | apply envQ); simp only [hfin, vmp,↓vmd,seval]; rfl
    simp only [hfin, vmp,↓vmd,seval]
    rw [if_neg (by omega)]
    subst ho
    exact ⟨rfl, _, rfl⟩
 ·rintro r H' ⟨rfl, R, rfl⟩
  exact ⟨[0, 1, 2], _, _, by simp, rfl, (by simp only [kpp,seval]; exact onceS_k), (by simp only [kpp,seval]), rfl, rfl⟩
end Go.Proofs.YtcjmkpkhjhjepaaGreat.W
