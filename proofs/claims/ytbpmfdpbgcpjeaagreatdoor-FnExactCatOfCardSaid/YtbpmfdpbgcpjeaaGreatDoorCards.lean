/-
  DERIVED. GIVEN WITH THE SEED: THE CARDS: each row of YtbpmfdpbgcpjeaaGreatDoorRows.lean that lists a variable, with what it lists TIED to the program's text (the seventh form; the later family's looks); each row that meets fmt, with fmt's text TOLD by the authors' own Lean function (tested against real Go, not proved from fmt's source: count such statements apart). THE CARD IS WHAT COUNTS. Prove the row's statement (the work); the ties are given (YtbpmfdpbgcpjeaaGreatDoorTie.lean); close each card by the builder's one call (the guide's Derived/Test/ToyasCard.lean, 'card_holds'). Laid BY PROGRAM, IN A SANDBOX (cutbox-door.mjs). By AI agents, Wed Nov 11 2026. No macro, syntax, notation, axiom, sorry.
-/
import Derived.Test.YtbpmfdpbgcpjeaaGreatDoorRows
import GoSem.ClaimSeven
namespace Go.Proofs.YtbpmfdpbgcpjeaaGreatDoor
namespace Rows

/-- THE TIED CARD OF 'laws.FnExactCatOf'. -/
def fnExactCatOfCard : Claim7 := { stood := { row := fnExactCatOfRow, standIns := [], harness := (true, "ee0e4366b9f1a2ab5db48058b8a3ba1f27b1d09998526d08eb4369241362948b"), looks := true }, kinds := [], alts := [], laidByText := true, laidKinds := [.data, .data, .data, .sentinel, .sentinel], laidTests := true, laidLooks := .later }
def FnExactCatOfCardSaid : Prop := Claim7.holds Tryz.pinned (.plain (OpenSpec.ofChange fnExactCatOfSpec)) fnExactCatOfCard

/-- THE TIED CARD OF 'laws.FnCatOf'. -/
def fnCatOfCard : Claim7 := { stood := { row := fnCatOfRow, standIns := [], harness := (true, "ee0e4366b9f1a2ab5db48058b8a3ba1f27b1d09998526d08eb4369241362948b"), looks := true }, kinds := [], alts := [], laidByText := true, laidKinds := [.data, .data, .data, .sentinel, .sentinel], laidTests := true, laidLooks := .later }
def FnCatOfCardSaid : Prop := Claim7.holds Tryz.pinned (.plain (OpenSpec.ofChange fnCatOfSpec)) fnCatOfCard

/-- THE SECOND FORM's CARD OF 'laws.FnExactCatOf'. -/
def fnExactCatOfUptoCard : Claim7 := { stood := { row := fnExactCatOfUptoRow, standIns := [], harness := (true, "ee0e4366b9f1a2ab5db48058b8a3ba1f27b1d09998526d08eb4369241362948b"), looks := true }, kinds := [], alts := [], laidByText := true, laidKinds := [.data, .data, .data, .sentinel, .sentinel], laidTests := true, laidLooks := .later }
def FnExactCatOfUptoCardSaid : Prop := Claim7.holds Tryz.pinned (.plain (OpenSpec.upto fnExactCatOfSpec)) fnExactCatOfUptoCard

/-- THE SECOND FORM's CARD OF 'laws.FnCatOf'. -/
def fnCatOfUptoCard : Claim7 := { stood := { row := fnCatOfUptoRow, standIns := [], harness := (true, "ee0e4366b9f1a2ab5db48058b8a3ba1f27b1d09998526d08eb4369241362948b"), looks := true }, kinds := [], alts := [], laidByText := true, laidKinds := [.data, .data, .data, .sentinel, .sentinel], laidTests := true, laidLooks := .later }
def FnCatOfUptoCardSaid : Prop := Claim7.holds Tryz.pinned (.plain (OpenSpec.upto fnCatOfSpec)) fnCatOfUptoCard
end Rows
end Go.Proofs.YtbpmfdpbgcpjeaaGreatDoor
