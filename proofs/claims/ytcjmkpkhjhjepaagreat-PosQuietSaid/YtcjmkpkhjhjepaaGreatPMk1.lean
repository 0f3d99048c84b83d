/-
  What a mark hangs on: the program's function. No condition but on sizes.
-/
import Derived.Test.YtcjmkpkhjhjepaaGreatPMk0
import Derived.Test.YtcjmkpkhjhjepaaGreatStops
namespace Go.Proofs.YtcjmkpkhjhjepaaGreat.W
open Go Go.Vm Go.Proofs
set_option maxRecDepth 100000
set_option linter.unusedSimpArgs false
set_option maxHeartbeats 4000000
/-! typecase/marks.hung -/
def c109 : AC :=
 (.seq (.reg [oo 2 (.mov (nB false))])
 (.seq (.reg [oo 3 (.mov (.s 0)),
 oo 4 (.bin .eql (.s 3) (nI 9)),
 oo 5 (.mov (.s 4)),
 og 6 5 false (.mov (.s 0)),
 og 7 5 false (.bin .eql (.s 6) (nI 10)),
 oo 8 (.pick (.s 5) (nB true) (.s 7)),
 oo 9 (.mov (.s 8)),
 og 10 9 false (.mov (.s 0)),
 og 11 9 false (.bin .eql (.s 10) (nI 11)),
 oo 12 (.pick (.s 9) (nB true) (.s 11)),
 oo 2 (.mov (.s 12))])
 .ret))
theorem k109 : OkF 109 Tryz.f109 c109 [.t 2] 13 := ⟨Tryz.func109, by kernel_rfl, by kernel_rfl, by kernel_rfl, Tryz.ntmps109⟩
/-! typecase/marks.one -/
def c110 : AC :=
 (.seq (.reg [oo 2 (.mov (nI 0))])
 (.seq (.seq (.reg [oo 3 (.mov (.s 0))])
 (.cond (.s 3)
 (.seq (.reg [oo 2 (.mov (nI 1))])
 .ret)
 .skip))
 (.seq (.reg [oo 2 (.mov (nI 0))])
 .ret)))
theorem k110 : OkF 110 Tryz.f110 c110 [.t 2] 4 := ⟨Tryz.func110, by kernel_rfl, by kernel_rfl, by kernel_rfl, Tryz.ntmps110⟩
/-! typecase/marks.Host -/
def c82_0 : AC :=
 (.seq (.seq (.regq [oo 115 (.mov (.s 10)),
 oo 116 (.bin .eql (.s 115) (nI (-1))),
 oo 117 (.mov (.s 116)),
 og 118 117 false (.load true 6 (.s 4)),
 og 119 117 false (.mov (.s 2)),
 og 120 117 false (.mov (.s 10)),
 og 121 117 false (.idxA 10 (.s 119) (.s 120)),
 og 122 117 false (.fldA 0 (.s 121)),
 og 123 117 false (.load false 1 (.s 122)),
 og 124 117 false (.call 46 [(.s 118), (.s 123)]),
 og 125 117 false (.bin .eql (.s 124) (nI 2)),
 og 126 117 false (.fldA 0 (.s 5)),
 og 127 117 false (.load false 1 (.s 126)),
 og 128 117 false (.bin .eql (.s 127) (nI 10))]
[og 129 117 false (.eqb true (.s 125) (.s 128)),
 oo 130 (.pick (.s 117) (nB true) (.s 129))])
 (.cond (.s 130)
 (.seq (.reg [oo 8 (.mov (nI 0)),
 oo 9 (.mov (nB false))])
 .ret)
 .skip))
 (.seq (.reg [oo 131 (.mov (.s 10)),
 oo 8 (.mov (.s 131)),
 oo 9 (.mov (nB true))])
 .ret))
def c82_1 : AC :=
 (.seq (.seq (.regq [oo 98 (.mov (.s 10)),
 oo 99 (.bin .neq (.s 98) (nI (-1))),
 oo 100 (.mov (.s 99)),
 og 101 100 true (.load true 6 (.s 4)),
 og 102 100 true (.mov (.s 2)),
 og 103 100 true (.mov (.s 10)),
 og 104 100 true (.idxA 10 (.s 102) (.s 103)),
 og 105 100 true (.fldA 0 (.s 104)),
 og 106 100 true (.load false 1 (.s 105))]
[og 107 100 true (.call 46 [(.s 101), (.s 106)]),
 og 108 100 true (.bin .eql (.s 107) (nI 3)),
 oo 109 (.pick (.s 100) (.s 108) (nB false))])
 (.cond (.s 109)
 .skip
 (.exit 0)))
 (.block 1
 (.reg [oo 110 (.load true 6 (.s 4)),
 oo 111 (.load true 4 (.s 5)),
 oo 112 (.mov (.s 2)),
 oo 113 (.mov (.s 10)),
 oo 114 (.call 105 [(.s 110), (.s 111), (.s 112), (.s 113)]),
 oo 10 (.mov (.s 114))])))
def c82 : AC :=
 (.seq (.reg [oo 4 (.box (.s 0)),
 oo 5 (.box (.s 1)),
 oo 8 (.mov (nI 0)),
 oo 9 (.mov (nB false))])
 (.seq (.seq (.regq [oo 12 (.fldA 0 (.s 5)),
 oo 13 (.load false 1 (.s 12)),
 oo 14 (.call 109 [(.s 13)]),
 oo 15 (.un .not (.s 14)),
 oo 16 (.mov (.s 15)),
 og 17 16 false (.mov (.s 3)),
 og 18 16 false (.bin .lss (.s 17) (nI 0)),
 oo 19 (.pick (.s 16) (nB true) (.s 18)),
 oo 20 (.mov (.s 19)),
 og 21 20 false (.mov (.s 3)),
 og 22 20 false (.mov (.s 2)),
 og 23 20 false (.len (.s 22)),
 og 24 20 false (.bin .geq (.s 21) (.s 23)),
 oo 25 (.pick (.s 20) (nB true) (.s 24)),
 oo 26 (.mov (.s 25)),
 og 27 26 false (.load true 6 (.s 4)),
 og 28 26 false (.mov (.s 2)),
 og 29 26 false (.mov (.s 3)),
 og 30 26 false (.idxA 10 (.s 28) (.s 29)),
 og 31 26 false (.fldA 0 (.s 30)),
 og 32 26 false (.load false 1 (.s 31)),
 og 33 26 false (.call 46 [(.s 27), (.s 32)]),
 og 34 26 false (.bin .neq (.s 33) (nI 3)),
 oo 35 (.pick (.s 26) (nB true) (.s 34)),
 oo 36 (.mov (.s 35)),
 og 37 36 false (.load true 6 (.s 4)),
 og 38 36 false (.load true 4 (.s 5)),
 og 39 36 false (.mov (.s 2)),
 og 40 36 false (.mov (.s 3)),
 og 41 36 false (.idxA 10 (.s 39) (.s 40)),
 og 42 36 false (.fldA 0 (.s 41)),
 og 43 36 false (.load false 1 (.s 42))]
[og 44 36 false (.call 31 [(.s 37), (.s 38), (.s 43)]),
 oo 45 (.pick (.s 36) (nB true) (.s 44))])
 (.cond (.s 45)
 (.seq (.reg [oo 8 (.mov (nI 0)),
 oo 9 (.mov (nB false))])
 .ret)
 .skip))
 (.seq (.reg [oo 46 (.load true 6 (.s 4)),
 oo 47 (.load true 4 (.s 5)),
 oo 48 (.mov (.s 2)),
 oo 49 (.mov (.s 3)),
 oo 50 (.call 105 [(.s 46), (.s 47), (.s 48), (.s 49)]),
 oo 10 (.mov (.s 50))])
 (.seq (.seq (.reg [oo 51 (.fldA 0 (.s 5)),
 oo 52 (.load false 1 (.s 51)),
 oo 53 (.bin .eql (.s 52) (nI 11))])
 (.cond (.s 53)
 (.seq (.regq [oo 54 (.mov (.s 10)),
 oo 55 (.bin .neq (.s 54) (nI (-1))),
 oo 56 (.mov (.s 55)),
 og 57 56 true (.load true 6 (.s 4)),
 og 58 56 true (.mov (.s 2)),
 og 59 56 true (.mov (.s 10)),
 og 60 56 true (.idxA 10 (.s 58) (.s 59)),
 og 61 56 true (.fldA 0 (.s 60)),
 og 62 56 true (.load false 1 (.s 61)),
 og 63 56 true (.call 46 [(.s 57), (.s 62)]),
 og 64 56 true (.bin .eql (.s 63) (nI 3)),
 oo 65 (.pick (.s 56) (.s 64) (nB false)),
 oo 66 (.mov (.s 65)),
 og 67 66 true (.mov (.s 2)),
 og 68 66 true (.mov (.s 10)),
 og 69 66 true (.idxA 10 (.s 67) (.s 68)),
 og 70 66 true (.fldA 7 (.s 69)),
 og 71 66 true (.load false 1 (.s 70)),
 og 72 66 true (.mov (.s 2)),
 og 73 66 true (.mov (.s 3)),
 og 74 66 true (.idxA 10 (.s 72) (.s 73)),
 og 75 66 true (.fldA 7 (.s 74)),
 og 76 66 true (.load false 1 (.s 75)),
 og 77 66 true (.bin .eql (.s 71) (.s 76)),
 oo 78 (.pick (.s 66) (.s 77) (nB false)),
 oo 79 (.mov (.s 78)),
 og 80 79 true (.mov (.s 2)),
 og 81 79 true (.mov (.s 10)),
 og 82 79 true (.idxA 10 (.s 80) (.s 81)),
 og 83 79 true (.fldA 8 (.s 82)),
 og 84 79 true (.load false 1 (.s 83)),
 og 85 79 true (.mov (.s 2)),
 og 86 79 true (.mov (.s 3)),
 og 87 79 true (.idxA 10 (.s 85) (.s 86)),
 og 88 79 true (.fldA 8 (.s 87)),
 og 89 79 true (.load false 1 (.s 88))]
[og 90 79 true (.bin .eql (.s 84) (.s 89)),
 oo 91 (.pick (.s 79) (.s 90) (nB false)),
 oo 11 (.mov (.s 91))])
 (.seq (.reg [oo 92 (.mov (.s 10)),
 oo 93 (.mx (.s 92) (nI 0)),
 oo 94 (.mov (.s 11)),
 oo 95 (.call 110 [(.s 94)]),
 oo 96 (.bin .mul (.s 93) (.s 95)),
 oo 97 (.mov (.s 11)),
 oo 8 (.mov (.s 96)),
 oo 9 (.mov (.s 97))])
 .ret))
 .skip))
 (.seq (.block 0
 (.loop c82_1))
 c82_0)))))
theorem k82 : OkF 82 Tryz.f82 c82 [.t 8, .t 9] 132 := ⟨Tryz.func82, by kernel_rfl, by kernel_rfl, by kernel_rfl, Tryz.ntmps82⟩
theorem hung_q (n : Int) : FnQ Tryz.prog 109 [I n] [.bool (hungF n)] := by
 refine k109.q (by simp) ?_
 unfold c109
 simp only [*, vmp,↓vmd,seval]
 by_cases h1 : n = 9
 ·simp only [h1, vmp,↓vmd,seval]
  exact gives_pure
 by_cases h2 : n = 10
 ·simp only [h1, h2, vmp,↓vmd,seval]
  exact gives_pure
 ·simp only [h1, h2, vmp,↓vmd,seval]
  rw [show hungF n = decide (n = 11) by simp [hungF, h1, h2]]
  exact gives_pure
theorem mone_q (b : Bool) : FnQ Tryz.prog 110 [.bool b] [I (if b = true then 1 else 0)] := by
 refine k110.q (by simp) ?_
 unfold c110
 cases b
 ·simp only [*, vmp,↓vmd,seval]
  exact gives_pure
 ·simp only [*, vmp,↓vmd,seval]
  exact gives_pure
theorem prv_q (f : Fo) (k : Lk) (ls : List Gl) (hl : ls.length ≤ 1000) (y : Int) : FnQ Tryz.prog 105 [fo f, lk k, .sl (ls.map gl), I y] [I (prvF f k ls y)] := prev_q f k.kind k.flags k.set (.sl (k.subs.map sub)) ls y hl
theorem kat_q (f : Fo) (ls : List Gl) (y : Int) : FnQ Tryz.prog 46 [fo f, I (glAt ls y).id] [I (kAt f ls y)] := kind_q f _
theorem skp_q (f : Fo) (k : Lk) (g : Int) : FnQ Tryz.prog 31 [fo f, lk k, I g] [.bool (skipsF f k.flags k.set g)] := skips_q f k.kind k.flags k.set g _
def hostR (o : Option Int) : List V := [I (o.getD 0), .bool o.isSome]
theorem host_q (f : Fo) (k : Lk) (ls : List Gl) (hl : ls.length ≤ 1000) (y : Int) : FnQ Tryz.prog 82 [fo f, lk k, .sl (ls.map gl), I y] (hostR (hostF f k ls y)) := by
 refine k82.q (by simp) ?_
 unfold c82
 simp only [*, vmp,↓vmd,seval]
 refine onQ_q (hung_q _) rfl ?_
 (first | apply envO | apply envQ); simp only [vmp,↓vmd,seval]; rfl
 simp only [vmp,↓vmd,seval]
 by_cases hh : hungF k.kind = true
 ·simp only [hh, vmp,↓vmd,seval]
  by_cases h0 : y < 0
  ·simp only [h0, vmp,↓vmd,seval]
   rw [hostF, if_pos (.inr (.inl h0))]
   exact gives_tup rfl (by simp)
  simp only [h0, vmp,↓vmd,seval]
  by_cases h1 : (ls.length : Int) ≤ y
  ·simp only [h0, h1, vmp,↓vmd,seval]
   rw [hostF, if_pos (.inr (.inr (.inl h1)))]
   exact gives_tup rfl (by simp)
  have y0 : 0 ≤ y := by omega
  have y1 : y < ls.length := by omega
  have hg := glAt_map y0 y1
  simp only [h0, h1, y0, y1, hg, vmp,↓vmd,seval]
  refine onQ_q (kat_q f ls y) rfl ?_
  (first | apply envO | apply envQ); simp only [vmp,↓vmd,seval]; rfl
  by_cases h3 : kAt f ls y = 3
  ·simp only [hh, h0, h1, h3, y0, y1, hg, vmp,↓vmd,seval]
   refine onC_q (skp_q f k _) rfl ?_
   (first | apply envO | apply envQ); simp only [vmp,↓vmd,seval]; rfl
   by_cases hs : skipsF f k.flags k.set (glAt ls y).id = true
   ·simp only [hh, h0, h1, h3, hs, vmp,↓vmd,seval]
    rw [hostF, if_pos (.inr (.inr (.inr (.inr hs))))]
    exact gives_tup rfl (by simp)
   have hs' : skipsF f k.flags k.set (glAt ls y).id = false := by simpa using hs
   have hv := hostF_eq hh h0 h1 h3 hs'
   simp only [hh, h0, h1, h3, hs', vmp,↓vmd,seval]
   refine onC_q (prv_q f k ls hl y) rfl ?_
   (first | apply envO | apply envQ); simp only [vmp,↓vmd,seval]; rfl
   simp only [vmp,↓vmd,seval]
   have hin := prvF_lt f k ls y
   by_cases h11 : k.kind = 11
   ·generalize baseM f k ls (ls.length + 1) (prvF f k ls y) = bb at *
    generalize prvF f k ls y = z at *
    have w0 : ∀ n : Int, IntKind.wrap .i64 (n * 0) = 0 := fun n => by rw [Int.mul_zero]; decide
    by_cases hz : z = -1
    ·rw [hostM_11n h11 (fun e => e.1 hz)] at hv
     simp only [h11, hz, vmp,↓vmd,seval]
     refine onC_q (mone_q false) rfl ?_
     simp only [w0, vmp,↓vmd,seval]
     rw [hv]
     exact gives_tup rfl (by simp)
    have z0 : 0 ≤ z := by omega
    have z1 : z < ls.length := by omega
    have hgz := glAt_map z0 z1
    have m1 : max z 0 = z := by omega
    have w1 : IntKind.wrap .i64 (z * 1) = z := by rw [Int.mul_one, wrap_id (by omega) (by omega)]
    simp only [h11, hz, z0, z1, hgz, vmp,↓vmd,seval]
    refine onQ_q (kat_q f ls z) rfl ?_
    (first | apply envO | apply envQ); simp only [vmp,↓vmd,seval]; rfl
    by_cases k3 : kAt f ls z = 3
    ·simp only [hz, k3, z0, z1, hgz, y0, y1, hg, vmp,↓vmd,seval]
     by_cases kl : (glAt ls z).lig = (glAt ls y).lig
     ·simp only [hz, k3, kl, z0, z1, hgz, y0, y1, hg, vmp,↓vmd,seval]
      by_cases kc : (glAt ls z).comp = (glAt ls y).comp
      ·rw [hostM_11 h11 hz k3 kl kc] at hv
       simp only [hz, k3, kl, kc, vmp,↓vmd,seval]
       refine onC_q (mone_q true) rfl ?_
       simp only [m1, w1, kc, vmp,↓vmd,seval]
       rw [hv]
       exact gives_tup rfl (by simp)
      ·rw [hostM_11n h11 (fun e => kc e.2.2.2)] at hv
       simp only [hz, k3, kl, kc, vmp,↓vmd,seval]
       refine onC_q (mone_q false) rfl ?_
       simp only [w0, kc, vmp,↓vmd,seval]
       rw [hv]
       exact gives_tup rfl (by simp)
     ·rw [hostM_11n h11 (fun e => kl e.2.2.1)] at hv
      simp only [hz, k3, kl, vmp,↓vmd,seval]
      refine onC_q (mone_q false) rfl ?_
      simp only [w0, vmp,↓vmd,seval]
      rw [hv]
      exact gives_tup rfl (by simp)
    ·rw [hostM_11n h11 (fun e => k3 e.2.1)] at hv
     simp only [hz, k3, vmp,↓vmd,seval]
     refine onC_q (mone_q false) rfl ?_
     simp only [w0, vmp,↓vmd,seval]
     rw [hv]
     exact gives_tup rfl (by simp)
   ·skip
    simp only [h11, vmp,↓vmd,seval]
    generalize prvF f k ls y = z at *
    refine loop_at (T := Int) (fun i => [(10, .pure (I i)), (2, .pure (.sl (ls.map gl))), (4, .ptr 0 0 0), (5, .ptr 1 0 0)]) (fun _ => [⟨[.pure (fo f)], 6, .live⟩, ⟨[.pure (lk k)], 4, .live⟩])
     (fun i => -1 ≤ i ∧ i < ls.length ∧ baseM f k ls (ls.length + 1) i = baseM f k ls (ls.length + 1) z) (fun i => (i + 1).toNat)
     z [0, 1] (by simp) rfl ⟨by omega, by omega, rfl⟩ (by simp only [kpp,seval]) (by simp only [kpp,seval]) ?_
    rintro i ⟨hi0, hi1, hr⟩
    unfold c82_1
    simp only [vmp,↓vmd,seval]
    by_cases hi : i = -1
    ·rw [baseM_at (.inl hi)] at hr
     simp only [hi, vmp,↓vmd,seval]
     unfold c82_0
     simp only [hi, vmp,↓vmd,seval]
     rw [hv, hostM_n h11 (.inl (by rw [← hr]; exact hi))]
     exact gives_tup rfl (by simp)
    have i0 : 0 ≤ i := by omega
    have hgi := glAt_map i0 hi1
    simp only [hi, i0, hi1, hgi, vmp,↓vmd,seval]
    refine onC_q (kat_q f ls i) rfl ?_
    (first | apply envO | apply envQ); simp only [vmp,↓vmd,seval]; rfl
    by_cases k3 : kAt f ls i = 3
    ·have hn := baseM_next (k := k) i0 hi1 k3
     have hp := prvF_lt f k ls i
     simp only [hi, k3, vmp,↓vmd,seval]
     refine onC_q (prv_q f k ls hl i) rfl ?_
     (first | apply envO | apply envQ); simp only [vmp,↓vmd,seval]; rfl
     simp only [vmp,↓vmd,seval]
     generalize prvF f k ls i = w at *
     refine onBk_to w [0, 1] (by simp) rfl (by omega) ⟨by omega, by omega, by rw [← hn, hr]⟩ (by simp only [kpp,seval]) (by simp only [kpp,seval])
    ·rw [baseM_at (.inr k3)] at hr
     rw [← hr] at hv
     simp only [hi, k3, vmp,↓vmd,seval]
     unfold c82_0
     simp only [hi, i0, hi1, hgi, vmp,↓vmd,seval]
     refine onQ_q (kat_q f ls i) rfl ?_
     (first | apply envO | apply envQ); simp only [vmp,↓vmd,seval]; rfl
     have bt : (true != false) = true := rfl
     have bf : (false != true) = true := rfl
     by_cases k2 : kAt f ls i = 2
     ·by_cases k10 : k.kind = 10
      ·rw [hostM_b h11 hi (by simp [k2, k10])] at hv
       simp only [hi, k2, k10, vmp,↓vmd,seval]
       rw [hv]
       exact gives_tup rfl (by simp)
      ·rw [hostM_n h11 (.inr (by simp [k2, k10]))] at hv
       simp only [hi, k2, k10, bt, vmp,↓vmd,seval]
       rw [hv]
       exact gives_tup rfl (by simp)
     ·by_cases k10 : k.kind = 10
      ·rw [hostM_n h11 (.inr (by simp [k2, k10]))] at hv
       simp only [hi, k2, k10, bf, vmp,↓vmd,seval]
       rw [hv]
       exact gives_tup rfl (by simp)
      ·rw [hostM_b h11 hi (by simp [k2, k10])] at hv
       simp only [hi, k2, k10, vmp,↓vmd,seval]
       rw [hv]
       exact gives_tup rfl (by simp)
  ·simp only [hh, h0, h1, h3, vmp,↓vmd,seval]
   rw [hostF, if_pos (.inr (.inr (.inr (.inl h3))))]
   exact gives_tup rfl (by simp)
 ·have hh' : hungF k.kind = false := by simpa using hh
  simp only [hh', vmp,↓vmd,seval]
  rw [hostF, if_pos (.inl hh')]
  exact gives_tup rfl (by simp)
end Go.Proofs.YtcjmkpkhjhjepaaGreat.W
