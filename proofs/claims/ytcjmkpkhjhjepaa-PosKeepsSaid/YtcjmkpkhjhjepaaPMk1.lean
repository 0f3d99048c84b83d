/-
  What a mark hangs on: the program's function. No condition but on sizes.
-/
import Derived.Test.YtcjmkpkhjhjepaaPMk0
import Derived.Test.YtcjmkpkhjhjepaaStops
namespace Go.Proofs.Ytcjmkpkhjhjepaa.W
open Go Go.Vm Go.Proofs
set_option maxRecDepth 100000
set_option linter.unusedSimpArgs false
set_option maxHeartbeats 4000000
/-! typecase/marks.hung -/
def c116 : AC :=
 (.seq (.reg [⟨some 2, none, .mov (.c (.pure (.bool false)))⟩])
 (.seq (.reg [⟨some 3, none, .mov (.s 0)⟩,
⟨some 4, none, .bin .eql (.s 3) (.c (.pure (.int .i64 9)))⟩,
⟨some 5, none, .mov (.s 4)⟩,
⟨some 6, some (5, false), .mov (.s 0)⟩,
⟨some 7, some (5, false), .bin .eql (.s 6) (.c (.pure (.int .i64 10)))⟩,
⟨some 8, none, .pick (.s 5) (.c (.pure (.bool true))) (.s 7)⟩,
⟨some 9, none, .mov (.s 8)⟩,
⟨some 10, some (9, false), .mov (.s 0)⟩,
⟨some 11, some (9, false), .bin .eql (.s 10) (.c (.pure (.int .i64 11)))⟩,
⟨some 12, none, .pick (.s 9) (.c (.pure (.bool true))) (.s 11)⟩,
⟨some 2, none, .mov (.s 12)⟩])
 .ret))
theorem k116 : OkF 116 Try.f116 c116 [.t 2] 13 := ⟨Try.func116, by kernel_rfl, by kernel_rfl, by kernel_rfl, Try.ntmps116⟩
/-! typecase/marks.one -/
def c117 : AC :=
 (.seq (.reg [⟨some 2, none, .mov (.c (.pure (.int .i64 0)))⟩])
 (.seq (.seq (.reg [⟨some 3, none, .mov (.s 0)⟩])
 (.cond (.s 3)
 (.seq (.reg [⟨some 2, none, .mov (.c (.pure (.int .i64 1)))⟩])
 .ret)
 .skip))
 (.seq (.reg [⟨some 2, none, .mov (.c (.pure (.int .i64 0)))⟩])
 .ret)))
theorem k117 : OkF 117 Try.f117 c117 [.t 2] 4 := ⟨Try.func117, by kernel_rfl, by kernel_rfl, by kernel_rfl, Try.ntmps117⟩
/-! typecase/marks.Host -/
def c111_0 : AC :=
 (.seq (.seq (.regq [⟨some 115, none, .mov (.s 10)⟩,
⟨some 116, none, .bin .eql (.s 115) (.c (.pure (.int .i64 (-1))))⟩,
⟨some 117, none, .mov (.s 116)⟩,
⟨some 118, some (117, false), .load true 6 (.s 4)⟩,
⟨some 119, some (117, false), .mov (.s 2)⟩,
⟨some 120, some (117, false), .mov (.s 10)⟩,
⟨some 121, some (117, false), .idxA 10 (.s 119) (.s 120)⟩,
⟨some 122, some (117, false), .fldA 0 (.s 121)⟩,
⟨some 123, some (117, false), .load false 1 (.s 122)⟩,
⟨some 124, some (117, false), .call 67 [(.s 118), (.s 123)]⟩,
⟨some 125, some (117, false), .bin .eql (.s 124) (.c (.pure (.int .i64 2)))⟩,
⟨some 126, some (117, false), .fldA 0 (.s 5)⟩,
⟨some 127, some (117, false), .load false 1 (.s 126)⟩,
⟨some 128, some (117, false), .bin .eql (.s 127) (.c (.pure (.int .i64 10)))⟩]
[⟨some 129, some (117, false), .eqb true (.s 125) (.s 128)⟩,
⟨some 130, none, .pick (.s 117) (.c (.pure (.bool true))) (.s 129)⟩])
 (.cond (.s 130)
 (.seq (.reg [⟨some 8, none, .mov (.c (.pure (.int .i64 0)))⟩,
⟨some 9, none, .mov (.c (.pure (.bool false)))⟩])
 .ret)
 .skip))
 (.seq (.reg [⟨some 131, none, .mov (.s 10)⟩,
⟨some 8, none, .mov (.s 131)⟩,
⟨some 9, none, .mov (.c (.pure (.bool true)))⟩])
 .ret))
def c111_1 : AC :=
 (.seq (.seq (.regq [⟨some 98, none, .mov (.s 10)⟩,
⟨some 99, none, .bin .neq (.s 98) (.c (.pure (.int .i64 (-1))))⟩,
⟨some 100, none, .mov (.s 99)⟩,
⟨some 101, some (100, true), .load true 6 (.s 4)⟩,
⟨some 102, some (100, true), .mov (.s 2)⟩,
⟨some 103, some (100, true), .mov (.s 10)⟩,
⟨some 104, some (100, true), .idxA 10 (.s 102) (.s 103)⟩,
⟨some 105, some (100, true), .fldA 0 (.s 104)⟩,
⟨some 106, some (100, true), .load false 1 (.s 105)⟩]
[⟨some 107, some (100, true), .call 67 [(.s 101), (.s 106)]⟩,
⟨some 108, some (100, true), .bin .eql (.s 107) (.c (.pure (.int .i64 3)))⟩,
⟨some 109, none, .pick (.s 100) (.s 108) (.c (.pure (.bool false)))⟩])
 (.cond (.s 109)
 .skip
 (.exit 0)))
 (.block 1
 (.reg [⟨some 110, none, .load true 6 (.s 4)⟩,
⟨some 111, none, .load true 4 (.s 5)⟩,
⟨some 112, none, .mov (.s 2)⟩,
⟨some 113, none, .mov (.s 10)⟩,
⟨some 114, none, .call 64 [(.s 110), (.s 111), (.s 112), (.s 113)]⟩,
⟨some 10, none, .mov (.s 114)⟩])))
def c111 : AC :=
 (.seq (.reg [⟨some 4, none, .box (.s 0)⟩,
⟨some 5, none, .box (.s 1)⟩,
⟨some 8, none, .mov (.c (.pure (.int .i64 0)))⟩,
⟨some 9, none, .mov (.c (.pure (.bool false)))⟩])
 (.seq (.seq (.regq [⟨some 12, none, .fldA 0 (.s 5)⟩,
⟨some 13, none, .load false 1 (.s 12)⟩,
⟨some 14, none, .call 116 [(.s 13)]⟩,
⟨some 15, none, .un .not (.s 14)⟩,
⟨some 16, none, .mov (.s 15)⟩,
⟨some 17, some (16, false), .mov (.s 3)⟩,
⟨some 18, some (16, false), .bin .lss (.s 17) (.c (.pure (.int .i64 0)))⟩,
⟨some 19, none, .pick (.s 16) (.c (.pure (.bool true))) (.s 18)⟩,
⟨some 20, none, .mov (.s 19)⟩,
⟨some 21, some (20, false), .mov (.s 3)⟩,
⟨some 22, some (20, false), .mov (.s 2)⟩,
⟨some 23, some (20, false), .len (.s 22)⟩,
⟨some 24, some (20, false), .bin .geq (.s 21) (.s 23)⟩,
⟨some 25, none, .pick (.s 20) (.c (.pure (.bool true))) (.s 24)⟩,
⟨some 26, none, .mov (.s 25)⟩,
⟨some 27, some (26, false), .load true 6 (.s 4)⟩,
⟨some 28, some (26, false), .mov (.s 2)⟩,
⟨some 29, some (26, false), .mov (.s 3)⟩,
⟨some 30, some (26, false), .idxA 10 (.s 28) (.s 29)⟩,
⟨some 31, some (26, false), .fldA 0 (.s 30)⟩,
⟨some 32, some (26, false), .load false 1 (.s 31)⟩,
⟨some 33, some (26, false), .call 67 [(.s 27), (.s 32)]⟩,
⟨some 34, some (26, false), .bin .neq (.s 33) (.c (.pure (.int .i64 3)))⟩,
⟨some 35, none, .pick (.s 26) (.c (.pure (.bool true))) (.s 34)⟩,
⟨some 36, none, .mov (.s 35)⟩,
⟨some 37, some (36, false), .load true 6 (.s 4)⟩,
⟨some 38, some (36, false), .load true 4 (.s 5)⟩,
⟨some 39, some (36, false), .mov (.s 2)⟩,
⟨some 40, some (36, false), .mov (.s 3)⟩,
⟨some 41, some (36, false), .idxA 10 (.s 39) (.s 40)⟩,
⟨some 42, some (36, false), .fldA 0 (.s 41)⟩,
⟨some 43, some (36, false), .load false 1 (.s 42)⟩]
[⟨some 44, some (36, false), .call 49 [(.s 37), (.s 38), (.s 43)]⟩,
⟨some 45, none, .pick (.s 36) (.c (.pure (.bool true))) (.s 44)⟩])
 (.cond (.s 45)
 (.seq (.reg [⟨some 8, none, .mov (.c (.pure (.int .i64 0)))⟩,
⟨some 9, none, .mov (.c (.pure (.bool false)))⟩])
 .ret)
 .skip))
 (.seq (.reg [⟨some 46, none, .load true 6 (.s 4)⟩,
⟨some 47, none, .load true 4 (.s 5)⟩,
⟨some 48, none, .mov (.s 2)⟩,
⟨some 49, none, .mov (.s 3)⟩,
⟨some 50, none, .call 64 [(.s 46), (.s 47), (.s 48), (.s 49)]⟩,
⟨some 10, none, .mov (.s 50)⟩])
 (.seq (.seq (.reg [⟨some 51, none, .fldA 0 (.s 5)⟩,
⟨some 52, none, .load false 1 (.s 51)⟩,
⟨some 53, none, .bin .eql (.s 52) (.c (.pure (.int .i64 11)))⟩])
 (.cond (.s 53)
 (.seq (.regq [⟨some 54, none, .mov (.s 10)⟩,
⟨some 55, none, .bin .neq (.s 54) (.c (.pure (.int .i64 (-1))))⟩,
⟨some 56, none, .mov (.s 55)⟩,
⟨some 57, some (56, true), .load true 6 (.s 4)⟩,
⟨some 58, some (56, true), .mov (.s 2)⟩,
⟨some 59, some (56, true), .mov (.s 10)⟩,
⟨some 60, some (56, true), .idxA 10 (.s 58) (.s 59)⟩,
⟨some 61, some (56, true), .fldA 0 (.s 60)⟩,
⟨some 62, some (56, true), .load false 1 (.s 61)⟩,
⟨some 63, some (56, true), .call 67 [(.s 57), (.s 62)]⟩,
⟨some 64, some (56, true), .bin .eql (.s 63) (.c (.pure (.int .i64 3)))⟩,
⟨some 65, none, .pick (.s 56) (.s 64) (.c (.pure (.bool false)))⟩,
⟨some 66, none, .mov (.s 65)⟩,
⟨some 67, some (66, true), .mov (.s 2)⟩,
⟨some 68, some (66, true), .mov (.s 10)⟩,
⟨some 69, some (66, true), .idxA 10 (.s 67) (.s 68)⟩,
⟨some 70, some (66, true), .fldA 7 (.s 69)⟩,
⟨some 71, some (66, true), .load false 1 (.s 70)⟩,
⟨some 72, some (66, true), .mov (.s 2)⟩,
⟨some 73, some (66, true), .mov (.s 3)⟩,
⟨some 74, some (66, true), .idxA 10 (.s 72) (.s 73)⟩,
⟨some 75, some (66, true), .fldA 7 (.s 74)⟩,
⟨some 76, some (66, true), .load false 1 (.s 75)⟩,
⟨some 77, some (66, true), .bin .eql (.s 71) (.s 76)⟩,
⟨some 78, none, .pick (.s 66) (.s 77) (.c (.pure (.bool false)))⟩,
⟨some 79, none, .mov (.s 78)⟩,
⟨some 80, some (79, true), .mov (.s 2)⟩,
⟨some 81, some (79, true), .mov (.s 10)⟩,
⟨some 82, some (79, true), .idxA 10 (.s 80) (.s 81)⟩,
⟨some 83, some (79, true), .fldA 8 (.s 82)⟩,
⟨some 84, some (79, true), .load false 1 (.s 83)⟩,
⟨some 85, some (79, true), .mov (.s 2)⟩,
⟨some 86, some (79, true), .mov (.s 3)⟩,
⟨some 87, some (79, true), .idxA 10 (.s 85) (.s 86)⟩,
⟨some 88, some (79, true), .fldA 8 (.s 87)⟩,
⟨some 89, some (79, true), .load false 1 (.s 88)⟩]
[⟨some 90, some (79, true), .bin .eql (.s 84) (.s 89)⟩,
⟨some 91, none, .pick (.s 79) (.s 90) (.c (.pure (.bool false)))⟩,
⟨some 11, none, .mov (.s 91)⟩])
 (.seq (.reg [⟨some 92, none, .mov (.s 10)⟩,
⟨some 93, none, .mx (.s 92) (.c (.pure (.int .i64 0)))⟩,
⟨some 94, none, .mov (.s 11)⟩,
⟨some 95, none, .call 117 [(.s 94)]⟩,
⟨some 96, none, .bin .mul (.s 93) (.s 95)⟩,
⟨some 97, none, .mov (.s 11)⟩,
⟨some 8, none, .mov (.s 96)⟩,
⟨some 9, none, .mov (.s 97)⟩])
 .ret))
 .skip))
 (.seq (.block 0
 (.loop c111_1))
 c111_0)))))
theorem k111 : OkF 111 Try.f111 c111 [.t 8, .t 9] 132 := ⟨Try.func111, by kernel_rfl, by kernel_rfl, by kernel_rfl, Try.ntmps111⟩
theorem hung_q (n : Int) : FnQ Try.prog 116 [I n] [.bool (hungF n)] := by
 refine k116.q (by simp) ?_
 unfold c116
 simp -implicitDefEqProofs only [*, vmp,↓vmd,seval]
 by_cases h1 : n = 9
 ·simp -implicitDefEqProofs only [h1, vmp,↓vmd,seval]
  exact gives_pure
 by_cases h2 : n = 10
 ·simp -implicitDefEqProofs only [h1, h2, vmp,↓vmd,seval]
  exact gives_pure
 ·simp -implicitDefEqProofs only [h1, h2, vmp,↓vmd,seval]
  rw [show hungF n = decide (n = 11) by simp [hungF, h1, h2]]
  exact gives_pure
theorem mone_q (b : Bool) : FnQ Try.prog 117 [.bool b] [I (if b = true then 1 else 0)] := by
 refine k117.q (by simp) ?_
 unfold c117
 cases b
 ·simp -implicitDefEqProofs only [*, vmp,↓vmd,seval]
  exact gives_pure
 ·simp -implicitDefEqProofs only [*, vmp,↓vmd,seval]
  exact gives_pure
theorem prv_q (f : Fo) (k : Lk) (ls : List Gl) (hl : ls.length ≤ 1000) (y : Int) : FnQ Try.prog 64 [fo f, lk k, .sl (ls.map gl), I y] [I (prvF f k ls y)] := prev_q f k.kind k.flags k.set (.sl (k.subs.map sub)) ls y hl
theorem kat_q (f : Fo) (ls : List Gl) (y : Int) : FnQ Try.prog 67 [fo f, I (glAt ls y).id] [I (kAt f ls y)] := kind_q f _
theorem skp_q (f : Fo) (k : Lk) (g : Int) : FnQ Try.prog 49 [fo f, lk k, I g] [.bool (skipsF f k.flags k.set g)] := skips_q f k.kind k.flags k.set g _
def hostR (o : Option Int) : List V := [I (o.getD 0), .bool o.isSome]
theorem host_q (f : Fo) (k : Lk) (ls : List Gl) (hl : ls.length ≤ 1000) (y : Int) : FnQ Try.prog 111 [fo f, lk k, .sl (ls.map gl), I y] (hostR (hostF f k ls y)) := by
 refine k111.q (by simp) ?_
 unfold c111
 simp -implicitDefEqProofs only [*, vmp,↓vmd,seval]
 refine onQ_q (hung_q _) rfl ?_
 (first | apply envO | apply envQ); simp -implicitDefEqProofs only [vmp,↓vmd,seval]; rfl
 simp -implicitDefEqProofs only [vmp,↓vmd,seval]
 by_cases hh : hungF k.kind = true
 ·simp -implicitDefEqProofs only [hh, vmp,↓vmd,seval]
  by_cases h0 : y < 0
  ·simp -implicitDefEqProofs only [h0, vmp,↓vmd,seval]
   rw [hostF, if_pos (.inr (.inl h0))]
   exact gives_tup rfl (by simp)
  simp -implicitDefEqProofs only [h0, vmp,↓vmd,seval]
  by_cases h1 : (ls.length : Int) ≤ y
  ·simp -implicitDefEqProofs only [h0, h1, vmp,↓vmd,seval]
   rw [hostF, if_pos (.inr (.inr (.inl h1)))]
   exact gives_tup rfl (by simp)
  have y0 : 0 ≤ y := by omega
  have y1 : y < ls.length := by omega
  have hg := glAt_map y0 y1
  simp -implicitDefEqProofs only [h0, h1, y0, y1, hg, vmp,↓vmd,seval]
  refine onQ_q (kat_q f ls y) rfl ?_
  (first | apply envO | apply envQ); simp -implicitDefEqProofs only [vmp,↓vmd,seval]; rfl
  by_cases h3 : kAt f ls y = 3
  ·simp -implicitDefEqProofs only [hh, h0, h1, h3, y0, y1, hg, vmp,↓vmd,seval]
   refine onC_q (skp_q f k _) rfl ?_
   (first | apply envO | apply envQ); simp -implicitDefEqProofs only [vmp,↓vmd,seval]; rfl
   by_cases hs : skipsF f k.flags k.set (glAt ls y).id = true
   ·simp -implicitDefEqProofs only [hh, h0, h1, h3, hs, vmp,↓vmd,seval]
    rw [hostF, if_pos (.inr (.inr (.inr (.inr hs))))]
    exact gives_tup rfl (by simp)
   have hs' : skipsF f k.flags k.set (glAt ls y).id = false := by simpa using hs
   have hv := hostF_eq hh h0 h1 h3 hs'
   simp -implicitDefEqProofs only [hh, h0, h1, h3, hs', vmp,↓vmd,seval]
   refine onC_q (prv_q f k ls hl y) rfl ?_
   (first | apply envO | apply envQ); simp -implicitDefEqProofs only [vmp,↓vmd,seval]; rfl
   simp -implicitDefEqProofs only [vmp,↓vmd,seval]
   have hin := prvF_lt f k ls y
   by_cases h11 : k.kind = 11
   ·generalize baseM f k ls (ls.length + 1) (prvF f k ls y) = bb at *
    generalize prvF f k ls y = z at *
    have w0 : ∀ n : Int, IntKind.wrap .i64 (n * 0) = 0 := fun n => by rw [Int.mul_zero]; decide
    by_cases hz : z = -1
    ·rw [hostM_11n h11 (fun e => e.1 hz)] at hv
     simp -implicitDefEqProofs only [h11, hz, vmp,↓vmd,seval]
     refine onC_q (mone_q false) rfl ?_
     simp -implicitDefEqProofs only [w0, vmp,↓vmd,seval]
     rw [hv]
     exact gives_tup rfl (by simp)
    have z0 : 0 ≤ z := by omega
    have z1 : z < ls.length := by omega
    have hgz := glAt_map z0 z1
    have m1 : max z 0 = z := by omega
    have w1 : IntKind.wrap .i64 (z * 1) = z := by rw [Int.mul_one, wrap_id (by omega) (by omega)]
    simp -implicitDefEqProofs only [h11, hz, z0, z1, hgz, vmp,↓vmd,seval]
    refine onQ_q (kat_q f ls z) rfl ?_
    (first | apply envO | apply envQ); simp -implicitDefEqProofs only [vmp,↓vmd,seval]; rfl
    by_cases k3 : kAt f ls z = 3
    ·simp -implicitDefEqProofs only [hz, k3, z0, z1, hgz, y0, y1, hg, vmp,↓vmd,seval]
     by_cases kl : (glAt ls z).lig = (glAt ls y).lig
     ·simp -implicitDefEqProofs only [hz, k3, kl, z0, z1, hgz, y0, y1, hg, vmp,↓vmd,seval]
      by_cases kc : (glAt ls z).comp = (glAt ls y).comp
      ·rw [hostM_11 h11 hz k3 kl kc] at hv
       simp -implicitDefEqProofs only [hz, k3, kl, kc, vmp,↓vmd,seval]
       refine onC_q (mone_q true) rfl ?_
       simp -implicitDefEqProofs only [m1, w1, kc, vmp,↓vmd,seval]
       rw [hv]
       exact gives_tup rfl (by simp)
      ·rw [hostM_11n h11 (fun e => kc e.2.2.2)] at hv
       simp -implicitDefEqProofs only [hz, k3, kl, kc, vmp,↓vmd,seval]
       refine onC_q (mone_q false) rfl ?_
       simp -implicitDefEqProofs only [w0, kc, vmp,↓vmd,seval]
       rw [hv]
       exact gives_tup rfl (by simp)
     ·rw [hostM_11n h11 (fun e => kl e.2.2.1)] at hv
      simp -implicitDefEqProofs only [hz, k3, kl, vmp,↓vmd,seval]
      refine onC_q (mone_q false) rfl ?_
      simp -implicitDefEqProofs only [w0, vmp,↓vmd,seval]
      rw [hv]
      exact gives_tup rfl (by simp)
    ·rw [hostM_11n h11 (fun e => k3 e.2.1)] at hv
     simp -implicitDefEqProofs only [hz, k3, vmp,↓vmd,seval]
     refine onC_q (mone_q false) rfl ?_
     simp -implicitDefEqProofs only [w0, vmp,↓vmd,seval]
     rw [hv]
     exact gives_tup rfl (by simp)
   ·skip
    simp -implicitDefEqProofs only [h11, vmp,↓vmd,seval]
    generalize prvF f k ls y = z at *
    refine loop_at (T := Int) (fun i => [(10, .pure (I i)), (2, .pure (.sl (ls.map gl))), (4, .ptr 0 0 0), (5, .ptr 1 0 0)]) (fun _ => [⟨[.pure (fo f)], 6, .live⟩, ⟨[.pure (lk k)], 4, .live⟩])
     (fun i => -1 ≤ i ∧ i < ls.length ∧ baseM f k ls (ls.length + 1) i = baseM f k ls (ls.length + 1) z) (fun i => (i + 1).toNat)
     z [0, 1] (by simp) rfl ⟨by omega, by omega, rfl⟩ (by simp -implicitDefEqProofs only [kpp,seval]) (by simp -implicitDefEqProofs only [kpp,seval]) ?_
    rintro i ⟨hi0, hi1, hr⟩
    unfold c111_1
    simp -implicitDefEqProofs only [vmp,↓vmd,seval]
    by_cases hi : i = -1
    ·rw [baseM_at (.inl hi)] at hr
     simp -implicitDefEqProofs only [hi, vmp,↓vmd,seval]
     unfold c111_0
     simp -implicitDefEqProofs only [hi, vmp,↓vmd,seval]
     rw [hv, hostM_n h11 (.inl (by rw [← hr]; exact hi))]
     exact gives_tup rfl (by simp)
    have i0 : 0 ≤ i := by omega
    have hgi := glAt_map i0 hi1
    simp -implicitDefEqProofs only [hi, i0, hi1, hgi, vmp,↓vmd,seval]
    refine onC_q (kat_q f ls i) rfl ?_
    (first | apply envO | apply envQ); simp -implicitDefEqProofs only [vmp,↓vmd,seval]; rfl
    by_cases k3 : kAt f ls i = 3
    ·have hn := baseM_next (k := k) i0 hi1 k3
     have hp := prvF_lt f k ls i
     simp -implicitDefEqProofs only [hi, k3, vmp,↓vmd,seval]
     refine onC_q (prv_q f k ls hl i) rfl ?_
     (first | apply envO | apply envQ); simp -implicitDefEqProofs only [vmp,↓vmd,seval]; rfl
     simp -implicitDefEqProofs only [vmp,↓vmd,seval]
     generalize prvF f k ls i = w at *
     refine onBk_to w [0, 1] (by simp) rfl (by omega) ⟨by omega, by omega, by rw [← hn, hr]⟩ (by simp -implicitDefEqProofs only [kpp,seval]) (by simp -implicitDefEqProofs only [kpp,seval])
    ·rw [baseM_at (.inr k3)] at hr
     rw [← hr] at hv
     simp -implicitDefEqProofs only [hi, k3, vmp,↓vmd,seval]
     unfold c111_0
     simp -implicitDefEqProofs only [hi, i0, hi1, hgi, vmp,↓vmd,seval]
     refine onQ_q (kat_q f ls i) rfl ?_
     (first | apply envO | apply envQ); simp -implicitDefEqProofs only [vmp,↓vmd,seval]; rfl
     have bt : (true != false) = true := rfl
     have bf : (false != true) = true := rfl
     by_cases k2 : kAt f ls i = 2
     ·by_cases k10 : k.kind = 10
      ·rw [hostM_b h11 hi (by simp [k2, k10])] at hv
       simp -implicitDefEqProofs only [hi, k2, k10, vmp,↓vmd,seval]
       rw [hv]
       exact gives_tup rfl (by simp)
      ·rw [hostM_n h11 (.inr (by simp [k2, k10]))] at hv
       simp -implicitDefEqProofs only [hi, k2, k10, bt, vmp,↓vmd,seval]
       rw [hv]
       exact gives_tup rfl (by simp)
     ·by_cases k10 : k.kind = 10
      ·rw [hostM_n h11 (.inr (by simp [k2, k10]))] at hv
       simp -implicitDefEqProofs only [hi, k2, k10, bf, vmp,↓vmd,seval]
       rw [hv]
       exact gives_tup rfl (by simp)
      ·rw [hostM_b h11 hi (by simp [k2, k10])] at hv
       simp -implicitDefEqProofs only [hi, k2, k10, vmp,↓vmd,seval]
       rw [hv]
       exact gives_tup rfl (by simp)
  ·simp -implicitDefEqProofs only [hh, h0, h1, h3, vmp,↓vmd,seval]
   rw [hostF, if_pos (.inr (.inr (.inr (.inl h3))))]
   exact gives_tup rfl (by simp)
 ·have hh' : hungF k.kind = false := by simpa using hh
  simp -implicitDefEqProofs only [hh', vmp,↓vmd,seval]
  rw [hostF, if_pos (.inl hh')]
  exact gives_tup rfl (by simp)
end Go.Proofs.Ytcjmkpkhjhjepaa.W
