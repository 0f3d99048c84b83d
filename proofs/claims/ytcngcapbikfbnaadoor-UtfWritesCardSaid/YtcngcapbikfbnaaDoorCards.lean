/-
  DERIVED. GIVEN WITH THE SEED: THE CARDS: each row of YtcngcapbikfbnaaDoorRows.lean that lists a variable, with what it lists TIED to the program's text (the seventh form; the later family's looks); each row that meets fmt, with fmt's text TOLD by the authors' own Lean function (tested against real Go, not proved from fmt's source: count such statements apart). THE CARD IS WHAT COUNTS. Prove the row's statement (the work); the ties are given (YtcngcapbikfbnaaDoorTie.lean); close each card by the builder's one call (the guide's Derived/Test/ToyasCard.lean, 'card_holds'). Laid BY PROGRAM, IN A SANDBOX (cutbox-door.mjs). By AI agents, Wed Nov 11 2026. No macro, syntax, notation, axiom, sorry.
-/
import Derived.Test.YtcngcapbikfbnaaDoorRows
import GoSem.ClaimSeven
namespace Go.Proofs.YtcngcapbikfbnaaDoor
namespace Rows

/-- THE TIED CARD OF 'typecaselaw02.UtfWrites'. -/
def utfWritesCard : Claim7 := { stood := { row := utfWritesRow, standIns := [], harness := (true, "771d064d7b4110efbaf3315f568775befe3e77303308bae287a1266bf26421a1"), looks := false }, kinds := [], alts := [], laidByText := true, laidKinds := [.data, .pinned], laidTests := true, laidLooks := .later }
def UtfWritesCardSaid : Prop := Claim7.holds Tryd.pinned (.plain (OpenSpec.ofChange utfWritesSpec)) utfWritesCard

/-- THE TIED CARD OF 'typecaselaw02.UtfPlaces'. -/
def utfPlacesCard : Claim7 := { stood := { row := utfPlacesRow, standIns := [], harness := (true, "771d064d7b4110efbaf3315f568775befe3e77303308bae287a1266bf26421a1"), looks := false }, kinds := [], alts := [], laidByText := true, laidKinds := [.data, .pinned], laidTests := true, laidLooks := .later }
def UtfPlacesCardSaid : Prop := Claim7.holds Tryd.pinned (.plain (OpenSpec.ofChange utfPlacesSpec)) utfPlacesCard

/-- THE TIED CARD OF 'typecaselaw02.UtfReads'. -/
def utfReadsCard : Claim7 := { stood := { row := utfReadsRow, standIns := [], harness := (true, "771d064d7b4110efbaf3315f568775befe3e77303308bae287a1266bf26421a1"), looks := false }, kinds := [], alts := [], laidByText := true, laidKinds := [.data, .pinned], laidTests := true, laidLooks := .later }
def UtfReadsCardSaid : Prop := Claim7.holds Tryd.pinned (.plain (OpenSpec.ofChange utfReadsSpec)) utfReadsCard

/-- THE TIED CARD OF 'typecaselaw02.UtfLossy'. -/
def utfLossyCard : Claim7 := { stood := { row := utfLossyRow, standIns := [], harness := (true, "771d064d7b4110efbaf3315f568775befe3e77303308bae287a1266bf26421a1"), looks := false }, kinds := [], alts := [], laidByText := true, laidKinds := [.data, .pinned], laidTests := true, laidLooks := .later }
def UtfLossyCardSaid : Prop := Claim7.holds Tryd.pinned (.plain (OpenSpec.ofChange utfLossySpec)) utfLossyCard

/-- THE TIED CARD OF 'typecaselaw02.UtfFromUnits'. -/
def utfFromUnitsCard : Claim7 := { stood := { row := utfFromUnitsRow, standIns := [], harness := (true, "771d064d7b4110efbaf3315f568775befe3e77303308bae287a1266bf26421a1"), looks := false }, kinds := [], alts := [], laidByText := true, laidKinds := [.data, .pinned], laidTests := true, laidLooks := .later }
def UtfFromUnitsCardSaid : Prop := Claim7.holds Tryd.pinned (.plain (OpenSpec.ofChange utfFromUnitsSpec)) utfFromUnitsCard

/-- THE TIED CARD OF 'typecaselaw02.UtfBack'. -/
def utfBackCard : Claim7 := { stood := { row := utfBackRow, standIns := [], harness := (true, "771d064d7b4110efbaf3315f568775befe3e77303308bae287a1266bf26421a1"), looks := false }, kinds := [], alts := [], laidByText := true, laidKinds := [.data, .pinned], laidTests := true, laidLooks := .later }
def UtfBackCardSaid : Prop := Claim7.holds Tryd.pinned (.plain (OpenSpec.ofChange utfBackSpec)) utfBackCard

/-- THE SECOND FORM's CARD OF 'typecaselaw02.UtfWrites'. -/
def utfWritesUptoCard : Claim7 := { stood := { row := utfWritesUptoRow, standIns := [], harness := (true, "771d064d7b4110efbaf3315f568775befe3e77303308bae287a1266bf26421a1"), looks := false }, kinds := [], alts := [], laidByText := true, laidKinds := [.data, .pinned], laidTests := true, laidLooks := .later }
def UtfWritesUptoCardSaid : Prop := Claim7.holds Tryd.pinned (.plain (OpenSpec.upto utfWritesSpec)) utfWritesUptoCard

/-- THE SECOND FORM's CARD OF 'typecaselaw02.UtfPlaces'. -/
def utfPlacesUptoCard : Claim7 := { stood := { row := utfPlacesUptoRow, standIns := [], harness := (true, "771d064d7b4110efbaf3315f568775befe3e77303308bae287a1266bf26421a1"), looks := false }, kinds := [], alts := [], laidByText := true, laidKinds := [.data, .pinned], laidTests := true, laidLooks := .later }
def UtfPlacesUptoCardSaid : Prop := Claim7.holds Tryd.pinned (.plain (OpenSpec.upto utfPlacesSpec)) utfPlacesUptoCard

/-- THE SECOND FORM's CARD OF 'typecaselaw02.UtfReads'. -/
def utfReadsUptoCard : Claim7 := { stood := { row := utfReadsUptoRow, standIns := [], harness := (true, "771d064d7b4110efbaf3315f568775befe3e77303308bae287a1266bf26421a1"), looks := false }, kinds := [], alts := [], laidByText := true, laidKinds := [.data, .pinned], laidTests := true, laidLooks := .later }
def UtfReadsUptoCardSaid : Prop := Claim7.holds Tryd.pinned (.plain (OpenSpec.upto utfReadsSpec)) utfReadsUptoCard

/-- THE SECOND FORM's CARD OF 'typecaselaw02.UtfLossy'. -/
def utfLossyUptoCard : Claim7 := { stood := { row := utfLossyUptoRow, standIns := [], harness := (true, "771d064d7b4110efbaf3315f568775befe3e77303308bae287a1266bf26421a1"), looks := false }, kinds := [], alts := [], laidByText := true, laidKinds := [.data, .pinned], laidTests := true, laidLooks := .later }
def UtfLossyUptoCardSaid : Prop := Claim7.holds Tryd.pinned (.plain (OpenSpec.upto utfLossySpec)) utfLossyUptoCard

/-- THE SECOND FORM's CARD OF 'typecaselaw02.UtfFromUnits'. -/
def utfFromUnitsUptoCard : Claim7 := { stood := { row := utfFromUnitsUptoRow, standIns := [], harness := (true, "771d064d7b4110efbaf3315f568775befe3e77303308bae287a1266bf26421a1"), looks := false }, kinds := [], alts := [], laidByText := true, laidKinds := [.data, .pinned], laidTests := true, laidLooks := .later }
def UtfFromUnitsUptoCardSaid : Prop := Claim7.holds Tryd.pinned (.plain (OpenSpec.upto utfFromUnitsSpec)) utfFromUnitsUptoCard

/-- THE SECOND FORM's CARD OF 'typecaselaw02.UtfBack'. -/
def utfBackUptoCard : Claim7 := { stood := { row := utfBackUptoRow, standIns := [], harness := (true, "771d064d7b4110efbaf3315f568775befe3e77303308bae287a1266bf26421a1"), looks := false }, kinds := [], alts := [], laidByText := true, laidKinds := [.data, .pinned], laidTests := true, laidLooks := .later }
def UtfBackUptoCardSaid : Prop := Claim7.holds Tryd.pinned (.plain (OpenSpec.upto utfBackSpec)) utfBackUptoCard
end Rows
end Go.Proofs.YtcngcapbikfbnaaDoor
