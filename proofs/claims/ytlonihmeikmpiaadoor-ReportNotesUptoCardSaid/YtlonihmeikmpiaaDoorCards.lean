/-
  DERIVED. GIVEN WITH THE SEED: THE CARDS: each row of YtlonihmeikmpiaaDoorRows.lean that lists a variable, with what it lists TIED to the program's text (the seventh form; the later family's looks); each row that meets fmt, with fmt's text TOLD by the authors' own Lean function (tested against real Go, not proved from fmt's source: count such statements apart). THE CARD IS WHAT COUNTS. Prove the row's statement (the work); the ties are given (YtlonihmeikmpiaaDoorTie.lean); close each card by the builder's one call (the guide's Derived/Test/ToyasCard.lean, 'card_holds'). Laid BY PROGRAM, IN A SANDBOX (cutbox-door.mjs). By AI agents, Wed Nov 11 2026. No macro, syntax, notation, axiom, sorry.
-/
import Derived.Test.YtlonihmeikmpiaaDoorRows
import GoSem.ClaimSeven
namespace Go.Proofs.YtlonihmeikmpiaaDoor
namespace Rows

/-- THE TIED CARD OF 'gristmilllaw36.ReportEntries'. -/
def reportEntriesCard : Claim7 := { stood := { row := reportEntriesRow, standIns := [], harness := (true, "4d57f54698d5f98558c0dbff5385b30c13381705015a0185cc926dd95d229a1f"), looks := false }, kinds := [], alts := [], laidByText := true, laidKinds := [.data, .data, .data], laidTests := true, laidLooks := .later }
def ReportEntriesCardSaid : Prop := Claim7.holds Tryd.pinned (.plain (OpenSpec.ofChange reportEntriesSpec)) reportEntriesCard

/-- THE TIED CARD OF 'gristmilllaw36.ReportNotes'. -/
def reportNotesCard : Claim7 := { stood := { row := reportNotesRow, standIns := [], harness := (true, "4d57f54698d5f98558c0dbff5385b30c13381705015a0185cc926dd95d229a1f"), looks := false }, kinds := [], alts := [], laidByText := true, laidKinds := [.data, .data, .data], laidTests := true, laidLooks := .later }
def ReportNotesCardSaid : Prop := Claim7.holds Tryd.pinned (.plain (OpenSpec.ofChange reportNotesSpec)) reportNotesCard

/-- THE SECOND FORM's CARD OF 'gristmilllaw36.ReportEntries'. -/
def reportEntriesUptoCard : Claim7 := { stood := { row := reportEntriesUptoRow, standIns := [], harness := (true, "4d57f54698d5f98558c0dbff5385b30c13381705015a0185cc926dd95d229a1f"), looks := false }, kinds := [], alts := [], laidByText := true, laidKinds := [.data, .data, .data], laidTests := true, laidLooks := .later }
def ReportEntriesUptoCardSaid : Prop := Claim7.holds Tryd.pinned (.plain (OpenSpec.upto reportEntriesSpec)) reportEntriesUptoCard

/-- THE SECOND FORM's CARD OF 'gristmilllaw36.ReportNotes'. -/
def reportNotesUptoCard : Claim7 := { stood := { row := reportNotesUptoRow, standIns := [], harness := (true, "4d57f54698d5f98558c0dbff5385b30c13381705015a0185cc926dd95d229a1f"), looks := false }, kinds := [], alts := [], laidByText := true, laidKinds := [.data, .data, .data], laidTests := true, laidLooks := .later }
def ReportNotesUptoCardSaid : Prop := Claim7.holds Tryd.pinned (.plain (OpenSpec.upto reportNotesSpec)) reportNotesUptoCard
end Rows
end Go.Proofs.YtlonihmeikmpiaaDoor
