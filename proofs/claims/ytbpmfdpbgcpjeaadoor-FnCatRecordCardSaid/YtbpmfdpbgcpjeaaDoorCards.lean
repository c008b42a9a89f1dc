/-
  DERIVED. GIVEN WITH THE SEED: THE CARDS: each row of YtbpmfdpbgcpjeaaDoorRows.lean that lists a variable, with what it lists TIED to the program's text (the seventh form; the later family's looks); each row that meets fmt, with fmt's text TOLD by the authors' own Lean function (tested against real Go, not proved from fmt's source: count such statements apart). THE CARD IS WHAT COUNTS. Prove the row's statement (the work); the ties are given (YtbpmfdpbgcpjeaaDoorTie.lean); close each card by the builder's one call (the guide's Derived/Test/ToyasCard.lean, 'card_holds'). Laid BY PROGRAM, IN A SANDBOX (cutbox-door.mjs). By AI agents, Wed Nov 11 2026. No macro, syntax, notation, axiom, sorry.
-/
import Derived.Test.YtbpmfdpbgcpjeaaDoorRows
import GoSem.ClaimSeven
namespace Go.Proofs.YtbpmfdpbgcpjeaaDoor
namespace Rows

/-- THE TIED CARD OF 'laws.FnExactCatRecord'. -/
def fnExactCatRecordCard : Claim7 := { stood := { row := fnExactCatRecordRow, standIns := [], harness := (true, "0c9aeffab48d34958976354a822e294f405e497848ef148d3a9f3c71a2b8a9d7"), looks := true }, kinds := [], alts := [], laidByText := true, laidKinds := [.data, .data, .data], laidTests := true, laidLooks := .later }
def FnExactCatRecordCardSaid : Prop := Claim7.holds Tryd.pinned (.plain (OpenSpec.ofChange fnExactCatRecordSpec)) fnExactCatRecordCard

/-- THE TIED CARD OF 'laws.FnCatRecord'. -/
def fnCatRecordCard : Claim7 := { stood := { row := fnCatRecordRow, standIns := [], harness := (true, "0c9aeffab48d34958976354a822e294f405e497848ef148d3a9f3c71a2b8a9d7"), looks := true }, kinds := [], alts := [], laidByText := true, laidKinds := [.data, .data, .data, .sentinel, .sentinel], laidTests := true, laidLooks := .later }
def FnCatRecordCardSaid : Prop := Claim7.holds Tryd.pinned (.plain (OpenSpec.ofChange fnCatRecordSpec)) fnCatRecordCard

/-- THE SECOND FORM's CARD OF 'laws.FnExactCatRecord'. -/
def fnExactCatRecordUptoCard : Claim7 := { stood := { row := fnExactCatRecordUptoRow, standIns := [], harness := (true, "0c9aeffab48d34958976354a822e294f405e497848ef148d3a9f3c71a2b8a9d7"), looks := true }, kinds := [], alts := [], laidByText := true, laidKinds := [.data, .data, .data], laidTests := true, laidLooks := .later }
def FnExactCatRecordUptoCardSaid : Prop := Claim7.holds Tryd.pinned (.plain (OpenSpec.upto fnExactCatRecordSpec)) fnExactCatRecordUptoCard

/-- THE SECOND FORM's CARD OF 'laws.FnCatRecord'. -/
def fnCatRecordUptoCard : Claim7 := { stood := { row := fnCatRecordUptoRow, standIns := [], harness := (true, "0c9aeffab48d34958976354a822e294f405e497848ef148d3a9f3c71a2b8a9d7"), looks := true }, kinds := [], alts := [], laidByText := true, laidKinds := [.data, .data, .data, .sentinel, .sentinel], laidTests := true, laidLooks := .later }
def FnCatRecordUptoCardSaid : Prop := Claim7.holds Tryd.pinned (.plain (OpenSpec.upto fnCatRecordSpec)) fnCatRecordUptoCard
end Rows
end Go.Proofs.YtbpmfdpbgcpjeaaDoor
