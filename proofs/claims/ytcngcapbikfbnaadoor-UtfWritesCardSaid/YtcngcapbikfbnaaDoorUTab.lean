/-
  Texts: the tables of the library lie where the row says. No condition but the row's.
-/
import Derived.Test.YtcngcapbikfbnaaDoorBase
import GoSem.PinnedTables
import GoSem.ClaimJoined
import Derived.Lib.LaidU8
import Derived.MakeChecks
import Derived.KernelRfl
namespace Go.Proofs.YtcngcapbikfbnaaDoor.W
open Go Go.Vm Go.Proofs
set_option maxRecDepth 100000
set_option linter.unusedSimpArgs false
/-- the sixteen ranges -/
def accP : List (List Int) := [[128, 191], [160, 191], [128, 159], [144, 191], [128, 143], [0, 0], [0, 0], [0, 0], [0, 0], [0, 0], [0, 0], [0, 0], [0, 0], [0, 0], [0, 0], [0, 0]]
def accD : DataW Unit := .agg (accP.map fun x => .agg (x.map fun z => .lit (.int .u8 z)))
abbrev laidU : List (String × DataW Unit) := [("unicode/utf8.acceptRanges", accD), ("unicode/utf8.first", Pinned.utf8First)]
theorem getDat {α : Type} {l : List α} (d : α) (j : Nat) (h : j < l.length) : l.getD j d = l[j] := by
 rw [List.getD_eq_getElem?_getD, List.getElem?_eq_getElem h]
 rfl
theorem first_data : (Pinned.utf8First : DataW Unit) = Lib.tabData .u8 (Pinned.utf8FirstZ.map fun (n : Nat) => (n : Int)) := by
 simp only [Pinned.utf8First, Pinned.numbers, Lib.tabData, List.map_map]
 rfl
theorem first_cells {w : World} (h : Lib.VarReads Tryd.prog w "unicode/utf8.first" Pinned.utf8First) (j : Nat) : w.cell? ⟨0, j, none⟩ = ((Pinned.utf8FirstZ.map fun (n : Nat) => (n : Int)).map fun z => Value.int .u8 z)[j]? := by
 obtain ⟨g, t, cs, fuel, p, hg, hty, hvar, hd⟩ := h
 obtain rfl := Option.some.inj ((show Tryd.prog.globalNamed "unicode/utf8.first" = some 0 by kernel_rfl).symm.trans hg)
 obtain rfl := Option.some.inj ((show (Tryd.prog.globals[0]?).map (·.type) = some 57 by kernel_rfl).symm.trans hty)
 rw [first_data] at hd
 have hcs := Lib.cells_of_tab Tryd.underlying57 Tryd.underlying5 (by kernel_rfl) (by kernel_rfl) hd
 rw [World.var?_cell hg hvar j, ← Array.getElem?_toList, hcs]
theorem acc_cells {w : World} (h : Lib.VarReads Tryd.prog w "unicode/utf8.acceptRanges" accD) {i : Nat} {lo hi : Int} (hi16 : i < 16) (hp : accP[i]? = some [lo, hi]) :
  w.cell? ⟨1, 2 * i, none⟩ = some (.int .u8 lo) ∧ w.cell? ⟨1, 2 * i + 1, none⟩ = some (.int .u8 hi) := by
 obtain ⟨g, t, cs, fuel, p, hg, hty, hvar, hd⟩ := h
 obtain rfl := Option.some.inj ((show Tryd.prog.globalNamed "unicode/utf8.acceptRanges" = some 1 by kernel_rfl).symm.trans hg)
 obtain rfl := Option.some.inj ((show (Tryd.prog.globals[1]?).map (·.type) = some 60 by kernel_rfl).symm.trans hty)
 obtain ⟨fuel', d, q, hdi, he⟩ := Lib.array_elem Tryd.underlying60 hd i hi16
 rw [List.getElem?_map, hp] at hdi
 obtain rfl := Option.some.inj hdi
 have c59 : Tryd.prog.cellsOf 59 = 2 := by kernel_rfl
 have c5 : Tryd.prog.cellsOf 5 = 1 := by kernel_rfl
 rw [c59] at he
 have hcs := Lib.ints_of_struct Tryd.underlying59 (fun j f hj => by
  match j, hj with
  | 0, hj => simp at hj; subst hj; exact ⟨Tryd.underlying5, rfl, c5⟩
  | 1, hj => simp at hj; subst hj; exact ⟨Tryd.underlying5, rfl, c5⟩
  | j + 2, hj => simp at hj) (by rw [c59]; rfl) he
 have e0 := congrArg (·[0]?) hcs
 have e1 := congrArg (·[1]?) hcs
 simp only [List.getElem?_take, List.getElem?_drop] at e0 e1
 constructor
 ·rw [World.var?_cell hg hvar (2 * i), ← Array.getElem?_toList]
  simpa [Nat.mul_comm] using e0
 ·rw [World.var?_cell hg hvar (2 * i + 1), ← Array.getElem?_toList]
  simpa [Nat.mul_comm] using e1
theorem first_wf : (Pinned.utf8FirstZ.all fun (n : Nat) => (Lit.int .u8 (n : Int)).wf) = true := by kernel_rfl
theorem cells256 : tabV256.cells = Pinned.utf8FirstZ.map fun (n : Nat) => V.int .u8 (n : Int) := rfl
theorem cells32 : tabV32.cells = rangesZ.map fun (n : Nat) => V.int .u8 (n : Int) := rfl
theorem acc_all {w : World} (h : Lib.VarReads Tryd.prog w "unicode/utf8.acceptRanges" accD) (j : Nat) (hj : j < 32) : w.cell? ⟨1, j, none⟩ = some (.int .u8 ((rangesZ.getD j 0 : Nat) : Int)) := by
 have f : ∀ i : Fin 16, accP[i.val]? = some [((rangesZ.getD (2 * i.val) 0 : Nat) : Int), ((rangesZ.getD (2 * i.val + 1) 0 : Nat) : Int)] := by decide +kernel
 have g := acc_cells h (i := j / 2) (by omega) (f ⟨j / 2, by omega⟩)
 rcases Nat.mod_two_eq_zero_or_one j with e | e
 ·have e' : 2 * (j / 2) = j := by omega
  rw [e'] at g
  exact g.1
 ·have e' : 2 * (j / 2) + 1 = j := by omega
  rw [e'] at g
  exact g.2
theorem tab_ok {W : World} (h : laidMetH Tryd.prog laidU W) : TabOk W (fun _ => False) := by
 rw [MakeChecks.laidMetH_plain _ _ _ (by kernel_rfl)] at h
 have h1 := Lib.laidMet.reads h (n := "unicode/utf8.first") (d := Pinned.utf8First) (by simp)
 have h2 := Lib.laidMet.reads h (n := "unicode/utf8.acceptRanges") (d := accD) (by simp)
 have l1 : Pinned.utf8FirstZ.length = 256 := by kernel_rfl
 have l2 : rangesZ.length = 32 := by kernel_rfl
 intro p hp
 rw [tabs, List.mem_cons, List.mem_singleton] at hp
 rcases hp with rfl | rfl
 ·refine ⟨fun j => .int .u8 ((Pinned.utf8FirstZ.getD j 0 : Nat) : Int), ?_, id, ?_, ?_, ?_⟩
  ·rw [cells256, List.length_map, l1]; decide
  ·rw [cells256]
   intro v hv
   obtain ⟨n, _, rfl⟩ := List.mem_map.1 hv
   rfl
  ·intro j hj
   rw [cells256, List.length_map] at hj
   rw [first_cells h1 j, List.getElem?_map, List.getElem?_map, List.getElem?_eq_getElem hj]
   show _ = some (Value.int .u8 ((Pinned.utf8FirstZ.getD j 0 : Nat) : Int))
   rw [getDat _ j hj]
   rfl
  ·intro j hj
   rw [cells256, List.length_map] at hj
   rw [cells256, getDat _ j (by simpa using hj), List.getElem_map]
   show PRep W (fun _ => False) (Value.int .u8 ((Pinned.utf8FirstZ.getD j 0 : Nat) : Int)) _
   rw [getDat _ j hj]
   exact .int _ _ (List.all_eq_true.1 first_wf _ (List.getElem_mem hj))
 ·refine ⟨fun j => .int .u8 ((rangesZ.getD j 0 : Nat) : Int), ?_, id, ?_, ?_, ?_⟩
  ·rw [cells32, List.length_map, l2]; decide
  ·rw [cells32]
   intro v hv
   obtain ⟨n, _, rfl⟩ := List.mem_map.1 hv
   rfl
  ·intro j hj
   rw [cells32, List.length_map, l2] at hj
   exact acc_all h2 j hj
  ·intro j hj
   rw [cells32, List.length_map] at hj
   rw [cells32, getDat _ j (by simpa using hj), List.getElem_map]
   show PRep W (fun _ => False) (Value.int .u8 ((rangesZ.getD j 0 : Nat) : Int)) _
   rw [getDat _ j hj]
   have f : (rangesZ.all fun (n : Nat) => (Lit.int .u8 (n : Int)).wf) = true := by kernel_rfl
   exact .int _ _ (List.all_eq_true.1 f _ (List.getElem_mem hj))
end Go.Proofs.YtcngcapbikfbnaaDoor.W
