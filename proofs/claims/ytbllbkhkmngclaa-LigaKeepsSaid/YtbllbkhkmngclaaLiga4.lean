/-
  Ligatures that are applied: what becomes of the glyphs. No condition but on sizes.
-/
import Derived.Test.YtbllbkhkmngclaaLiga3
import Derived.Test.YtbllbkhkmngclaaBuf2
import Derived.Test.YtbllbkhkmngclaaFresh
namespace Go.Proofs.Ytbllbkhkmngclaa.W
open Go Go.Vm Go.Proofs
set_option maxRecDepth 100000
set_option linter.unusedSimpArgs false
set_option maxHeartbeats 4000000
/-! typecase/typecaseref28.next -/
def c76_0 : AC :=
  (.seq (.reg [⟨some 18, none, .mov (.s 3)⟩,
    ⟨some 19, none, .bin .add (.s 18) (.c (.pure (.int .i64 1)))⟩,
    ⟨some 2, none, .mov (.s 19)⟩])
  .ret)
def c76_1 : AC :=
  (.seq (.seq (.reg [⟨some 5, none, .mov (.s 4)⟩,
    ⟨some 6, none, .mov (.s 0)⟩,
    ⟨some 7, none, .len (.s 6)⟩,
    ⟨some 8, none, .bin .lss (.s 5) (.s 7)⟩])
  (.cond (.s 8)
  .skip
  (.exit 0)))
  (.seq (.block 1
  (.reg [⟨some 11, none, .mov (.s 3)⟩,
    ⟨some 12, none, .mov (.s 0)⟩,
    ⟨some 13, none, .mov (.s 4)⟩,
    ⟨some 14, none, .idxA 10 (.s 12) (.s 13)⟩,
    ⟨some 15, none, .fldA 7 (.s 14)⟩,
    ⟨some 16, none, .load false 1 (.s 15)⟩,
    ⟨some 17, none, .mx (.s 11) (.s 16)⟩,
    ⟨some 3, none, .mov (.s 17)⟩]))
  (.reg [⟨some 9, none, .mov (.s 4)⟩,
    ⟨some 10, none, .bin .add (.s 9) (.c (.pure (.int .i64 1)))⟩,
    ⟨some 4, none, .mov (.s 10)⟩])))
def c76 : AC :=
  (.seq (.reg [⟨some 2, none, .mov (.c (.pure (.int .i64 0)))⟩])
  (.seq (.reg [⟨some 3, none, .mov (.c (.pure (.int .i64 0)))⟩])
  (.seq (.seq (.reg [⟨some 4, none, .mov (.c (.pure (.int .i64 0)))⟩])
  (.block 0
  (.loop c76_1)))
  c76_0)))
theorem k76 : (Try.f76.body.bind fun c => cCode Try.prog Try.f76.ntmps RCs c) = some c76 := by kernel_rfl
theorem h76 : (Try.f76.name == "runtime.NumGoroutine") = false := by kernel_rfl
theorem r76 : resC Try.prog Try.f76.results.toList = some [.t 2] := by kernel_rfl
theorem a76 {args : List S} {H : Heap} {K : S → Heap → Prop} (hn : args.length ≤ 20) (h : aWx Try.prog H.length c76 (PostX [.t 2] K) (argEnv 0 args) H) : CallA Try.prog 76 args H K :=
  callA_of_x mixed Try.func76 h76 k76 r76 (by rw [Try.ntmps76]; exact hn) h
theorem q76 {vs ds : List V} (hn : vs.length ≤ 20) (h : aWx Try.prog 0 c76 (PostX [.t 2] (Gives ds)) (argEnv 0 (vs.map .pure)) []) : FnQ Try.prog 76 vs ds :=
  fnQ_of_call (a76 (by simpa using hn) h)

theorem folF_in {nx : Int → Int} {ls : List Gl} {n : Nat} (hnx : ∀ y, nx y = -1 ∨ (y < nx y ∧ 0 ≤ nx y ∧ nx y < n)) : ∀ {ps : List Int} {a : Int} {q : List Int}, folF nx ls a ps = some q →
    (a :: q).Pairwise (· < ·) ∧ (∀ z ∈ q, 0 ≤ z ∧ z < (n : Int)) ∧ q.map (fun z => (glAt ls z).id) = ps
  | [], a, q, h => by
    rw [folF] at h
    cases h
    simp
  | p :: r, a, q, h => by
    rw [folF] at h
    split at h
    · cases h
    · rename_i hc
      cases hq : folF nx ls (nx a) r with
      | none => rw [hq] at h; cases h
      | some q' =>
        rw [hq] at h
        cases h
        obtain ⟨h1, h2, h3⟩ := folF_in hnx hq
        have h4 := hnx a
        have h5 : ¬ nx a = -1 := fun e => hc (.inl e)
        have h6 : (glAt ls (nx a)).id = p := Classical.not_not.1 fun e => hc (.inr e)
        have hlt : a < nx a := by omega
        refine ⟨List.pairwise_cons.2 ⟨fun z hz => ?_, h1⟩, fun z hz => ?_, by rw [List.map_cons, h3, h6]⟩
        · rcases List.mem_cons.1 hz with rfl | hz
          · exact hlt
          · have := (List.pairwise_cons.1 h1).1 z hz
            omega
        · rcases List.mem_cons.1 hz with rfl | hz
          · omega
          · exact h2 z hz
/-- where a list of places ends -/
def lastL (ps : List Int) : Int := (ps[ps.length - 1]?).getD 0
structure FindIn (f : Fo) (k : Lk) (ls : List Gl) (x : Int) (y : Lg) (ps : List Int) : Prop where
  x0 : 0 ≤ x
  x1 : x < ls.length
  incr : ps.Pairwise (· < ·)
  inn : ∀ z ∈ ps, 0 ≤ z ∧ z < (ls.length : Int)
  cons : ∃ q, ps = x :: q ∧ folF (nxF f k ls) ls x y.parts = some q ∧ q.map (fun z => (glAt ls z).id) = y.parts
  mem : y ∈ partsL k.subs (glAt ls x).id
theorem findL_some {nx : Int → Int} {ls : List Gl} {x : Int} {y : Lg} {ps : List Int} : ∀ {L : List Lg}, findL nx ls x L = some (y, ps) → y ∈ L ∧ ∃ q, ps = x :: q ∧ folF nx ls x y.parts = some q
  | [], h => by cases h
  | z :: r, h => by
    rw [findL] at h
    split at h
    · rename_i q hq
      cases h
      exact ⟨by simp, q, rfl, hq⟩
    · obtain ⟨h1, h2⟩ := findL_some h
      exact ⟨by simp [h1], h2⟩
theorem findF_in {f : Fo} {k : Lk} {ls : List Gl} {x : Int} {y : Lg} {ps : List Int} (h : findF f k ls x = some (y, ps)) : FindIn f k ls x y ps := by
  rw [findF] at h
  split at h
  · rename_i hx
    obtain ⟨h1, q, rfl, h2⟩ := findL_some h
    obtain ⟨g1, g2, g3⟩ := folF_in (nxF_in f k ls) h2
    refine ⟨hx.1, hx.2, g1, fun z hz => ?_, ⟨q, rfl, h2, g3⟩, h1⟩
    rcases List.mem_cons.1 hz with rfl | hz
    · exact hx
    · exact g2 z hz
  · cases h
theorem FindIn.pos {f : Fo} {k : Lk} {ls : List Gl} {x : Int} {y : Lg} {ps : List Int} (h : FindIn f k ls x y ps) : 0 < ps.length := by
  obtain ⟨q, rfl, _⟩ := h.cons
  simp
theorem FindIn.zero {f : Fo} {k : Lk} {ls : List Gl} {x : Int} {y : Lg} {ps : List Int} (h : FindIn f k ls x y ps) : ps[0]? = some x := by
  obtain ⟨q, rfl, _⟩ := h.cons
  rfl
theorem FindIn.lt {f : Fo} {k : Lk} {ls : List Gl} {x : Int} {y : Lg} {ps : List Int} (h : FindIn f k ls x y ps) {i j : Nat} {a b : Int} (hij : i < j) (ha : ps[i]? = some a) (hb : ps[j]? = some b) : a < b := by
  obtain ⟨h1, rfl⟩ := List.getElem?_eq_some_iff.1 ha
  obtain ⟨h2, rfl⟩ := List.getElem?_eq_some_iff.1 hb
  exact List.pairwise_iff_getElem.1 h.incr i j h1 h2 hij
theorem FindIn.last {f : Fo} {k : Lk} {ls : List Gl} {x : Int} {y : Lg} {ps : List Int} (h : FindIn f k ls x y ps) : ps[ps.length - 1]? = some (lastL ps) ∧ x ≤ lastL ps ∧ lastL ps < ls.length := by
  have hp := h.pos
  have e : ps[ps.length - 1]? = some (lastL ps) := by rw [lastL, List.getElem?_eq_getElem (by omega)]; rfl
  have hm := h.inn _ (List.mem_of_getElem? e)
  refine ⟨e, ?_, hm.2⟩
  by_cases hc : ps.length - 1 = 0
  · rw [hc, h.zero] at e
    cases e
    omega
  · have := h.lt (show 0 < ps.length - 1 by omega) h.zero e
    omega
theorem FindIn.cnt {f : Fo} {k : Lk} {ls : List Gl} {x : Int} {y : Lg} {ps : List Int} (h : FindIn f k ls x y ps) : ps.length = y.parts.length + 1 := by
  obtain ⟨q, rfl, _, h2⟩ := h.cons
  rw [← h2]; simp
theorem FindIn.small {f : Fo} {k : Lk} {ls : List Gl} {x : Int} {y : Lg} {ps : List Int} (h : FindIn f k ls x y ps) (hs : SmallL k) : ps.length ≤ 41 := by
  obtain ⟨s, h3, z, h4, h5⟩ := partsL_in h.mem
  have := hs.parts s h3 z h4 y h5
  have := h.cnt
  omega
/-! the number of a ligature -/
def maxG (n : Int) (l : List Gl) : Int := l.foldl (fun n g => max n g.lig) n
theorem maxG_in {B : Int} : ∀ {l : List Gl} {n : Int}, (∀ g ∈ l, g.lig ≤ B) → n ≤ B → n ≤ maxG n l ∧ maxG n l ≤ B
  | [], n, _, h => ⟨Int.le_refl _, h⟩
  | g :: r, n, hl, h => by
    have h1 := hl g (by simp)
    have := @maxG_in B r (max n g.lig) (fun g' hg => hl g' (by simp [hg])) (by omega)
    have e : maxG n (g :: r) = maxG (max n g.lig) r := rfl
    omega
theorem maxG_map {n : Int} {l : List Gl} : maxG n l = (l.map (·.lig)).foldl max n := by rw [maxG, List.foldl_map]
theorem rngC_map {α : Type} {f : Gl → α} {c : Int} (hf : ∀ g, f (setC c g) = f g) : ∀ {n i : Nat} {l : List Gl}, (rngC c n i l).map f = l.map f
  | 0, _, _ => rfl
  | n + 1, i, l => by
    rw [rngC, rngC_map hf, List.map_set, hf]
    by_cases h : i < l.length
    · exact List.set_getElem_self' (by rw [List.getElem?_map, glAt_nat h]; rfl)
    · rw [List.set_eq_of_length_le (by simp; omega)]
theorem mergeF_map {α : Type} {f : Gl → α} (hf : ∀ c g, f (setC c g) = f g) {ls : List Gl} {x y : Int} : (mergeF ls x y).map f = ls.map f := by
  rw [mergeF]
  split
  · rw [mergeN, mergeG, rngC_map (hf _)]
  · rfl
theorem mergeF_max {n : Int} {ls : List Gl} {x y : Int} : maxG n (mergeF ls x y) = maxG n ls := by rw [maxG_map, maxG_map, mergeF_map (fun _ _ => rfl)]
theorem rnext28_q (ls : List Gl) (hb : ∀ g ∈ ls, g.lig ≤ 1099511627776) : FnQ Try.prog 76 [.sl (ls.map gl)] [I (maxG 0 ls + 1)] := by
  refine q76 (by simp) ?_
  unfold c76
  have hB := maxG_in hb (show (0 : Int) ≤ 1099511627776 by omega)
  generalize ho : maxG 0 ls = out at *
  simp -implicitDefEqProofs only [vmp,↓vmd,seval]
  refine loop_at (T := Nat × Int) (fun y => [(4, .pure (I (y.1 : Int))), (0, .pure (.sl (ls.map gl))), (3, .pure (I y.2))]) (fun _ => []) (fun y => y.1 ≤ ls.length ∧ maxG y.2 (ls.drop y.1) = out) (fun y => ls.length - y.1)
    (0, 0) [] (by simp) rfl ⟨by simp, ho⟩ (by simp -implicitDefEqProofs only [kpp,seval]) (by simp -implicitDefEqProofs only [kpp,seval]) ?_
  rintro ⟨i, n⟩ ⟨hi, hr⟩
  simp only at hi hr ⊢
  unfold c76_1
  simp -implicitDefEqProofs only [vmp,↓vmd,seval]
  refine onIf_intro fun _ => ?_
  first | refine envO (by simp -implicitDefEqProofs only [vmp,↓vmd,seval]; rfl) ?_ | refine envQ (by simp -implicitDefEqProofs only [vmp,↓vmd,seval]; rfl) ?_
  simp -implicitDefEqProofs only [vmp,↓vmd,seval]
  refine onB_dec (fun h1 => ?_) (fun h1 => ?_)
  · have hlt : i < ls.length := by omega
    rw [drop_at hlt] at hr
    have hgi : (ls.map gl)[i]? = some (gl ls[i]) := map_at hlt
    generalize ls[i] = u at hr hgi
    simp -implicitDefEqProofs only [h1, hgi, Int.natCast_nonneg, vmp,↓vmd,seval]
    refine onBk_to (i + 1, max n u.lig) [] (by simp) rfl (by simp only; omega) ⟨hlt, hr⟩ (by simp -implicitDefEqProofs only [next_at hlt (by omega), kpp,seval]) (by simp -implicitDefEqProofs only [kpp,seval])
  · rw [List.drop_of_length_le (by omega)] at hr
    have hr' : n = out := hr
    have hw : IntKind.wrap .i64 (out + 1) = out + 1 := wrap_id (by omega) (by omega)
    rw [hr']
    simp -implicitDefEqProofs only [h1, vmp,↓vmd,seval]
    unfold c76_0
    simp -implicitDefEqProofs only [hw, vmp,↓vmd,seval]
    exact gives_pure
/-! what becomes of the glyphs -/
def setL (num : Int) (part : Nat) (g : Gl) : Gl := ⟨g.id, g.cl, g.adv, g.dx, g.dy, g.to, g.hang, num, part, g.mask⟩
/-- the glyphs that were passed -/
def midL (m : List Gl) (ps : List Int) (num : Int) : Nat → Nat → Nat → List Gl
  | 0, _, _ => []
  | n + 1, i, p => if ps[p + 1]? = some (i : Int) then midL m ps num n (i + 1) (p + 1) else setL num p (glAt m (i : Int)) :: midL m ps num n (i + 1) p
def ligG (y : Lg) (m : List Gl) (x : Int) (num : Int) : Gl := ⟨y.gid, (glAt m x).cl, 0, 0, 0, -1, -1, num, 0, (glAt m x).mask⟩
def headL (m : List Gl) (y : Lg) (ps : List Int) (num : Int) (x e : Nat) : List Gl := m.take x ++ [ligG y m x num] ++ midL m ps num (e - (x + 1)) (x + 1) 0
def applyL (f : Fo) (k : Lk) (ls : List Gl) (x : Int) : Option (List Gl × Int) := match findF f k ls x with
  | none => none
  | some q => some (headL (mergeF ls x (lastL q.2 + 1)) q.1 q.2 (maxG 0 ls + 1) x.toNat (lastL q.2 + 1).toNat ++ (mergeF ls x (lastL q.2 + 1)).drop (lastL q.2 + 1).toNat,
      ((headL (mergeF ls x (lastL q.2 + 1)) q.1 q.2 (maxG 0 ls + 1) x.toNat (lastL q.2 + 1).toNat).length : Int))
def apR (o : Option (List Gl × Int)) : List V := [.sl (((o.map (·.1)).getD []).map gl), I ((o.map (·.2)).getD 0), .bool o.isSome]
end Go.Proofs.Ytbllbkhkmngclaa.W
