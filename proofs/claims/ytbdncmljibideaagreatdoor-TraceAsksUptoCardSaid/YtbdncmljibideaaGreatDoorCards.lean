/-
  DERIVED. GIVEN WITH THE SEED: THE CARDS: each row of YtbdncmljibideaaGreatDoorRows.lean that lists a variable, with what it lists TIED to the program's text (the seventh form; the later family's looks); each row that meets fmt, with fmt's text TOLD by the authors' own Lean function (tested against real Go, not proved from fmt's source: count such statements apart). THE CARD IS WHAT COUNTS. Prove the row's statement (the work); the ties are given (YtbdncmljibideaaGreatDoorTie.lean); close each card by the builder's one call (the guide's Derived/Test/ToyasCard.lean, 'card_holds'). Laid BY PROGRAM, IN A SANDBOX (cutbox-door.mjs). By AI agents, Wed Nov 11 2026. No macro, syntax, notation, axiom, sorry.
-/
import Derived.Test.YtbdncmljibideaaGreatDoorRows
import GoSem.ClaimSeven
namespace Go.Proofs.YtbdncmljibideaaGreatDoor
namespace Rows

/-- THE TIED CARD OF 'gristmilllaw32.TraceOpens'. -/
def traceOpensCard : Claim7 := { stood := { row := traceOpensRow, standIns := [], harness := (true, "8a53ec92495a67fb27de19e7deb0d3620b7fbd6dd5cc2b63d51a905bdcdaad08"), looks := true }, kinds := [], alts := [], laidByText := true, laidKinds := [.handle], laidTests := true, laidLooks := .later }
def TraceOpensCardSaid : Prop := Claim7.holds Tryz.pinned (.plain (OpenSpec.ofChange traceOpensSpec)) traceOpensCard

/-- THE TIED CARD OF 'gristmilllaw32.TraceAsks'. -/
def traceAsksCard : Claim7 := { stood := { row := traceAsksRow, standIns := [], harness := (true, "8a53ec92495a67fb27de19e7deb0d3620b7fbd6dd5cc2b63d51a905bdcdaad08"), looks := true }, kinds := [], alts := [], laidByText := true, laidKinds := [.handle], laidTests := true, laidLooks := .later }
def TraceAsksCardSaid : Prop := Claim7.holds Tryz.pinned (.plain (OpenSpec.ofChange traceAsksSpec)) traceAsksCard

/-- THE TIED CARD OF 'gristmilllaw32.TraceNils'. -/
def traceNilsCard : Claim7 := { stood := { row := traceNilsRow, standIns := [], harness := (true, "8a53ec92495a67fb27de19e7deb0d3620b7fbd6dd5cc2b63d51a905bdcdaad08"), looks := true }, kinds := [], alts := [], laidByText := true, laidKinds := [.handle], laidTests := true, laidLooks := .later }
def TraceNilsCardSaid : Prop := Claim7.holds Tryz.pinned (.plain (OpenSpec.ofChange traceNilsSpec)) traceNilsCard

/-- THE SECOND FORM's CARD OF 'gristmilllaw32.TraceOpens'. -/
def traceOpensUptoCard : Claim7 := { stood := { row := traceOpensUptoRow, standIns := [], harness := (true, "8a53ec92495a67fb27de19e7deb0d3620b7fbd6dd5cc2b63d51a905bdcdaad08"), looks := true }, kinds := [], alts := [], laidByText := true, laidKinds := [.handle], laidTests := true, laidLooks := .later }
def TraceOpensUptoCardSaid : Prop := Claim7.holds Tryz.pinned (.plain (OpenSpec.upto traceOpensSpec)) traceOpensUptoCard

/-- THE SECOND FORM's CARD OF 'gristmilllaw32.TraceAsks'. -/
def traceAsksUptoCard : Claim7 := { stood := { row := traceAsksUptoRow, standIns := [], harness := (true, "8a53ec92495a67fb27de19e7deb0d3620b7fbd6dd5cc2b63d51a905bdcdaad08"), looks := true }, kinds := [], alts := [], laidByText := true, laidKinds := [.handle], laidTests := true, laidLooks := .later }
def TraceAsksUptoCardSaid : Prop := Claim7.holds Tryz.pinned (.plain (OpenSpec.upto traceAsksSpec)) traceAsksUptoCard

/-- THE SECOND FORM's CARD OF 'gristmilllaw32.TraceNils'. -/
def traceNilsUptoCard : Claim7 := { stood := { row := traceNilsUptoRow, standIns := [], harness := (true, "8a53ec92495a67fb27de19e7deb0d3620b7fbd6dd5cc2b63d51a905bdcdaad08"), looks := true }, kinds := [], alts := [], laidByText := true, laidKinds := [.handle], laidTests := true, laidLooks := .later }
def TraceNilsUptoCardSaid : Prop := Claim7.holds Tryz.pinned (.plain (OpenSpec.upto traceNilsSpec)) traceNilsUptoCard
end Rows
end Go.Proofs.YtbdncmljibideaaGreatDoor
