/-
  What a font may be: the rules, as functions. No condition.
-/
import Derived.Test.YtcjmkpkhjhjepaaGreatFontD
namespace Go.Proofs.YtcjmkpkhjhjepaaGreat.W
open Go Go.Vm Go.Proofs
set_option maxRecDepth 100000
set_option linter.unusedSimpArgs false
def atI (l : List Int) (i : Nat) : Int := (l[i]?).getD 0
theorem atI_eq {l : List Int} {i : Nat} (h : i < l.length) : (l.map I)[i]? = some (I (atI l i)) := by
 rw [List.getElem?_map, atI, List.getElem?_eq_getElem h]; rfl
def withB (n lo hi : Int) : Bool := decide (lo ≤ n) && decide (n ≤ hi)
def measB (n : Int) : Bool := decide (-1048576 ≤ n) && decide (n ≤ 1048576)
def thereB (F : Ff) (g : Int) : Bool := decide (0 ≤ g) && decide (g < (F.gs.length : Int))
def allB (F : Ff) (l : List Int) : Bool := l.all (thereB F)
def riseB (l : List Int) (i : Nat) : Bool := decide (atI l (i - 1) < atI l i)
def risesB (l : List Int) : Bool := allFrom (riseB l) (l.length - 1) 1
def coverB (F : Ff) (l : List Int) : Bool := decide (l.length ≤ 4096) && risesB l && allB F l
def coversB (F : Ff) (l : List (List Int)) (lo : Int) : Bool := l.all (coverB F) && withB l.length lo 16
def sortsF (k : Int) : Int := if withB k 1 5 = true then 1 else if withB k 6 12 = true then 2 else 0
def glyphB (g : Gi) : Bool := measB g.adv && withB g.kind 0 3 && withB g.att 0 255 && decide (g.car.length ≤ 15) && risesB g.car && (decide (g.car.length = 0) || decide (g.kind = 2)) && g.car.all measB
def glyphsB (F : Ff) : Bool := withB F.em 1 16384 && withB F.gs.length 1 4096 && F.gs.all glyphB
def oneB (r : Int) : Bool := decide (0 ≤ r) && decide (r < 55296) || decide (57343 < r) && decide (r ≤ 1114111)
def mpAt (l : List Mp) (i : Nat) : Mp := (l[i]?).getD ⟨0, 0⟩
def mapB (F : Ff) (i : Nat) : Bool := oneB (mpAt F.maps i).code && thereB F (mpAt F.maps i).glyph && (decide (i = 0) || decide ((mpAt F.maps (i - 1)).code < (mpAt F.maps i).code))
def mapsB (F : Ff) : Bool := decide (F.maps.length ≤ 4096) && decide (F.sets.length ≤ 16) && allFrom (mapB F) F.maps.length 0 && F.sets.all (coverB F)
def valueB (v : Sp) : Bool := measB v.f && measB v.t && measB v.v
def anchorB (x y : Int) (has : Bool) : Bool := measB x && measB y && (has || decide (x = 0) && decide (y = 0))
def toB (F : Ff) (s : Sub) (lo hi : Int) : Bool := coverB F s.cover && decide (s.to.length = s.cover.length) && s.to.all fun t => withB t.length lo hi && allB F t
def ligB (F : Ff) (x : Lg) : Bool := withB x.parts.length 1 15 && allB F x.parts && thereB F x.gid
def sumL (n : Int) (l : List (List Lg)) : Int := l.foldl (fun n r => IntKind.wrap .i64 (n + (r.length : Int))) n
def ligsB (F : Ff) (s : Sub) : Bool := coverB F s.cover && decide (s.ligs.length = s.cover.length) && (s.ligs.all fun r => r.all (ligB F)) && decide (sumL 0 s.ligs ≤ 4096)
def lkAt (l : List Lk) (i : Int) : Lk := (l[i.toNat]?).getD ⟨0, 0, 0, []⟩
def nestB (F : Ff) (k : Lk) (s : Sub) (n : Ns) : Bool := withB n.at_ 0 ((s.inn.length : Int) - 1) && withB n.lookup 0 ((F.lks.length : Int) - 1) && decide (sortsF (lkAt F.lks n.lookup).kind = sortsF k.kind)
def aroundB (F : Ff) (k : Lk) (s : Sub) : Bool := coversB F s.inn 1 && coversB F s.back 0 && coversB F s.ahead 0 && decide (s.nests.length ≤ 16) && s.nests.all (nestB F k s)
def prAt (l : List Pr) (i : Nat) : Pr := (l[i]?).getD ⟨0, 0, ⟨0, 0, 0⟩, ⟨0, 0, 0⟩⟩
def pairB (F : Ff) (l : List Pr) (i : Nat) : Bool :=
 thereB F (prAt l i).a && thereB F (prAt l i).b && valueB (prAt l i).x && valueB (prAt l i).y &&
  (decide (i = 0) || !(decide ((prAt l i).a < (prAt l (i - 1)).a) || decide ((prAt l i).a = (prAt l (i - 1)).a) && decide ((prAt l i).b ≤ (prAt l (i - 1)).b)))
def pairsB (F : Ff) (l : List Pr) : Bool := allFrom (pairB F l) l.length 0 && decide (l.length ≤ 4096)
def cuAt (l : List Cu) (i : Nat) : Cu := (l[i]?).getD ⟨0, false, false, 0, 0, 0, 0⟩
def curB (F : Ff) (l : List Cu) (i : Nat) : Bool :=
 thereB F (cuAt l i).glyph && anchorB (cuAt l i).ex (cuAt l i).ey (cuAt l i).he && anchorB (cuAt l i).xx (cuAt l i).xy (cuAt l i).hx && (decide (i = 0) || decide ((cuAt l (i - 1)).glyph < (cuAt l i).glyph))
def cursB (F : Ff) (l : List Cu) : Bool := allFrom (curB F l) l.length 0 && decide (l.length ≤ 4096)
def mkAt (l : List Mk) (i : Nat) : Mk := (l[i]?).getD ⟨0, 0, 0, 0⟩
def markB (F : Ff) (l : List Mk) (i : Nat) : Bool :=
 thereB F (mkAt l i).glyph && withB (mkAt l i).cls 0 15 && anchorB (mkAt l i).x (mkAt l i).y true && (decide (i = 0) || decide ((mkAt l (i - 1)).glyph < (mkAt l i).glyph))
def hoAt (l : List Ho) (i : Nat) : Ho := (l[i]?).getD ⟨0, []⟩
def spotsB (l : List Spt) : Bool := decide (l.length ≤ 16) && l.all fun s => anchorB s.x s.y s.has
def hostB (F : Ff) (most : Int) (l : List Ho) (i : Nat) : Bool :=
 thereB F (hoAt l i).glyph && withB (hoAt l i).spots.length 1 most && (decide (i = 0) || decide ((hoAt l (i - 1)).glyph < (hoAt l i).glyph)) && (hoAt l i).spots.all spotsB
def mostF (k : Lk) : Int := if k.kind = 10 then 16 else 1
def marksB (F : Ff) (k : Lk) (s : Sub) : Bool := decide (s.marks.length ≤ 4096) && decide (s.hosts.length ≤ 4096) && allFrom (markB F s.marks) s.marks.length 0 && allFrom (hostB F (mostF k) s.hosts) s.hosts.length 0
def kCov (k : Int) : Bool := decide (k = 1) || decide (k = 2) || decide (k = 5) || decide (k = 6) || decide (k = 3)
def kTo (k : Int) : Bool := decide (k = 1) || decide (k = 2) || decide (k = 5)
def kRow (k : Int) : Bool := decide (k = 4) || decide (k = 12)
def kHang (k : Int) : Bool := decide (k = 9) || decide (k = 10) || decide (k = 11)
abbrev sumE (a b : Nat) : Int := IntKind.wrap .i64 ((a : Int) + (b : Int))
def bareB (k : Int) (s : Sub) : Bool :=
 (kCov k || decide (s.cover.length = 0)) && (kTo k || decide (s.to.length = 0)) && (decide (k = 3) || decide (s.ligs.length = 0)) && (kRow k || decide (sumE s.inn.length s.nests.length ≤ 0)) &&
  (kRow k || decide (k = 5) || decide (sumE s.back.length s.ahead.length ≤ 0)) && (decide (k = 6) || decide (s.values.length = 0)) && (decide (k = 7) || decide (s.pairs.length = 0)) &&
  (decide (k = 8) || decide (s.curs.length = 0)) && (kHang k || decide (sumE s.marks.length s.hosts.length = 0))
def kindB (F : Ff) (k : Lk) (s : Sub) : Bool :=
 if k.kind = 1 then toB F s 1 1 else if k.kind = 2 then toB F s 0 16 else if k.kind = 3 then ligsB F s else if k.kind = 4 ∨ k.kind = 12 then aroundB F k s
 else if k.kind = 5 then toB F s 1 1 && coversB F s.back 0 && coversB F s.ahead 0
 else if k.kind = 6 then s.values.all valueB && coverB F s.cover && decide (s.values.length = s.cover.length)
 else if k.kind = 7 then pairsB F s.pairs else if k.kind = 8 then cursB F s.curs else marksB F k s
def subB (F : Ff) (k : Lk) (s : Sub) : Bool := bareB k.kind s && kindB F k s
abbrev divE (a b : Int) : Int := IntKind.wrap .i64 (a.tdiv b)
abbrev modE (a b : Int) : Int := a.tmod b
def lookupB (F : Ff) (k : Lk) : Bool :=
 decide (sortsF k.kind ≠ 0) && withB k.flags 0 65535 && decide (modE k.flags 2 = 0) && decide (modE (divE k.flags 32) 8 = 0) && decide (k.subs.length ≤ 64) &&
  !(decide (modE (divE k.flags 16) 2 = 1) && !withB k.set 0 ((F.sets.length : Int) - 1) || decide (modE (divE k.flags 16) 2 = 0) && decide (k.set ≠ 0)) && k.subs.all (subB F k)
def lookupsB (F : Ff) : Bool := decide (F.lks.length ≤ 64) && F.lks.all (lookupB F)
def ftAt (l : List Ft) (i : Nat) : Ft := (l[i]?).getD ⟨[], 0, []⟩
def chB (t : List UInt8) (i : Nat) : Bool := !(decide ((((t[i]?).getD 0).toNat : Int) < 33) || decide (126 < (((t[i]?).getD 0).toNat : Int)))
def featB (F : Ff) (i : Nat) : Bool :=
 decide ((ftAt F.fts i).tag.length = 4) && withB (ftAt F.fts i).script (-1) 11 && decide ((ftAt F.fts i).lks.length ≤ 64) && risesB (ftAt F.fts i).lks && allFrom (chB (ftAt F.fts i).tag) 4 0 &&
  ((ftAt F.fts i).lks.all fun n => withB n 0 ((F.lks.length : Int) - 1)) && allFrom (fun k => !(decide ((ftAt F.fts k).tag = (ftAt F.fts i).tag) && decide ((ftAt F.fts k).script = (ftAt F.fts i).script))) i 0
def featsB (F : Ff) : Bool := decide (F.fts.length ≤ 64) && allFrom (featB F) F.fts.length 0
def checkB (F : Ff) : Bool := glyphsB F && mapsB F && lookupsB F && featsB F
def checkF (F : Ff) : Int := if checkB F = true then 0 else 12
/-! what follows -/
theorem withB_iff {n lo hi : Int} : withB n lo hi = true ↔ lo ≤ n ∧ n ≤ hi := by simp [withB]
theorem checkB_sub {F : Ff} (h : checkB F = true) {k : Lk} (hk : k ∈ F.lks) : k.subs.length ≤ 64 ∧ ∀ s ∈ k.subs, bareB k.kind s = true ∧ kindB F k s = true := by
 simp only [checkB, lookupsB, Bool.and_eq_true, List.all_eq_true] at h
 have := h.1.2.2 k hk
 simp only [lookupB, Bool.and_eq_true, List.all_eq_true, decide_eq_true_eq] at this
 refine ⟨this.1.1.2, fun s hs => ?_⟩
 have h2 := this.2 s hs
 rw [subB, Bool.and_eq_true] at h2
 exact h2
end Go.Proofs.YtcjmkpkhjhjepaaGreat.W
