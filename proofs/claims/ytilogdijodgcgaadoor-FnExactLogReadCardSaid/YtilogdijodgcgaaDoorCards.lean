/-
  DERIVED. GIVEN WITH THE SEED: THE CARDS: each row of YtilogdijodgcgaaDoorRows.lean that lists a variable, with what it lists TIED to the program's text (the seventh form; the later family's looks); each row that meets fmt, with fmt's text TOLD by the authors' own Lean function (tested against real Go, not proved from fmt's source: count such statements apart). THE CARD IS WHAT COUNTS. Prove the row's statement (the work); the ties are given (YtilogdijodgcgaaDoorTie.lean); close each card by the builder's one call (the guide's Derived/Test/ToyasCard.lean, 'card_holds'). Laid BY PROGRAM, IN A SANDBOX (cutbox-door.mjs). By AI agents, Wed Nov 11 2026. No macro, syntax, notation, axiom, sorry.
-/
import Derived.Test.YtilogdijodgcgaaDoorRows
import GoSem.ClaimSeven
namespace Go.Proofs.YtilogdijodgcgaaDoor
namespace Rows

/-- THE TIED CARD OF 'laws.FnExactLogMend'. -/
def fnExactLogMendCard : Claim7 := { stood := { row := fnExactLogMendRow, standIns := [], harness := (true, "4d53b854b2aabfe110c339551de6bc8455ab25b7f82409324f4764d9631be3f5"), looks := true }, kinds := [], alts := [], laidByText := true, laidKinds := [.data, .data, .data, .sentinel, .sentinel, .data], laidTests := true, laidLooks := .later }
def FnExactLogMendCardSaid : Prop := Claim7.holds Tryd.pinned (.plain (OpenSpec.ofChange fnExactLogMendSpec)) fnExactLogMendCard

/-- THE TIED CARD OF 'laws.FnExactLogOk'. -/
def fnExactLogOkCard : Claim7 := { stood := { row := fnExactLogOkRow, standIns := [], harness := (true, "4d53b854b2aabfe110c339551de6bc8455ab25b7f82409324f4764d9631be3f5"), looks := true }, kinds := [], alts := [], laidByText := true, laidKinds := [.data, .data, .data, .sentinel, .sentinel, .data], laidTests := true, laidLooks := .later }
def FnExactLogOkCardSaid : Prop := Claim7.holds Tryd.pinned (.plain (OpenSpec.ofChange fnExactLogOkSpec)) fnExactLogOkCard

/-- THE TIED CARD OF 'laws.FnExactLogAdd'. -/
def fnExactLogAddCard : Claim7 := { stood := { row := fnExactLogAddRow, standIns := [], harness := (true, "4d53b854b2aabfe110c339551de6bc8455ab25b7f82409324f4764d9631be3f5"), looks := true }, kinds := [], alts := [], laidByText := true, laidKinds := [.data, .data, .data, .sentinel, .sentinel, .data], laidTests := true, laidLooks := .later }
def FnExactLogAddCardSaid : Prop := Claim7.holds Tryd.pinned (.plain (OpenSpec.ofChange fnExactLogAddSpec)) fnExactLogAddCard

/-- THE TIED CARD OF 'laws.FnExactLogRead'. -/
def fnExactLogReadCard : Claim7 := { stood := { row := fnExactLogReadRow, standIns := [], harness := (true, "4d53b854b2aabfe110c339551de6bc8455ab25b7f82409324f4764d9631be3f5"), looks := true }, kinds := [], alts := [], laidByText := true, laidKinds := [.data, .data, .data, .sentinel, .sentinel, .data], laidTests := true, laidLooks := .later }
def FnExactLogReadCardSaid : Prop := Claim7.holds Tryd.pinned (.plain (OpenSpec.ofChange fnExactLogReadSpec)) fnExactLogReadCard

/-- THE TIED CARD OF 'laws.FnExactLogTorn'. -/
def fnExactLogTornCard : Claim7 := { stood := { row := fnExactLogTornRow, standIns := [], harness := (true, "4d53b854b2aabfe110c339551de6bc8455ab25b7f82409324f4764d9631be3f5"), looks := true }, kinds := [], alts := [], laidByText := true, laidKinds := [.data, .data, .data, .sentinel, .sentinel, .data], laidTests := true, laidLooks := .later }
def FnExactLogTornCardSaid : Prop := Claim7.holds Tryd.pinned (.plain (OpenSpec.ofChange fnExactLogTornSpec)) fnExactLogTornCard

/-- THE TIED CARD OF 'laws.FnLogRead'. -/
def fnLogReadCard : Claim7 := { stood := { row := fnLogReadRow, standIns := [], harness := (true, "4d53b854b2aabfe110c339551de6bc8455ab25b7f82409324f4764d9631be3f5"), looks := true }, kinds := [], alts := [], laidByText := true, laidKinds := [.data, .data, .data, .sentinel, .sentinel, .data], laidTests := true, laidLooks := .later }
def FnLogReadCardSaid : Prop := Claim7.holds Tryd.pinned (.plain (OpenSpec.ofChange fnLogReadSpec)) fnLogReadCard

/-- THE TIED CARD OF 'laws.FnLogAdd'. -/
def fnLogAddCard : Claim7 := { stood := { row := fnLogAddRow, standIns := [], harness := (true, "4d53b854b2aabfe110c339551de6bc8455ab25b7f82409324f4764d9631be3f5"), looks := true }, kinds := [], alts := [], laidByText := true, laidKinds := [.data, .data, .data, .sentinel, .sentinel, .data], laidTests := true, laidLooks := .later }
def FnLogAddCardSaid : Prop := Claim7.holds Tryd.pinned (.plain (OpenSpec.ofChange fnLogAddSpec)) fnLogAddCard

/-- THE TIED CARD OF 'laws.FnLogTorn'. -/
def fnLogTornCard : Claim7 := { stood := { row := fnLogTornRow, standIns := [], harness := (true, "4d53b854b2aabfe110c339551de6bc8455ab25b7f82409324f4764d9631be3f5"), looks := true }, kinds := [], alts := [], laidByText := true, laidKinds := [.data, .data, .data, .sentinel, .sentinel, .data], laidTests := true, laidLooks := .later }
def FnLogTornCardSaid : Prop := Claim7.holds Tryd.pinned (.plain (OpenSpec.ofChange fnLogTornSpec)) fnLogTornCard

/-- THE SECOND FORM's CARD OF 'laws.FnExactLogMend'. -/
def fnExactLogMendUptoCard : Claim7 := { stood := { row := fnExactLogMendUptoRow, standIns := [], harness := (true, "4d53b854b2aabfe110c339551de6bc8455ab25b7f82409324f4764d9631be3f5"), looks := true }, kinds := [], alts := [], laidByText := true, laidKinds := [.data, .data, .data, .sentinel, .sentinel, .data], laidTests := true, laidLooks := .later }
def FnExactLogMendUptoCardSaid : Prop := Claim7.holds Tryd.pinned (.plain (OpenSpec.upto fnExactLogMendSpec)) fnExactLogMendUptoCard

/-- THE SECOND FORM's CARD OF 'laws.FnExactLogOk'. -/
def fnExactLogOkUptoCard : Claim7 := { stood := { row := fnExactLogOkUptoRow, standIns := [], harness := (true, "4d53b854b2aabfe110c339551de6bc8455ab25b7f82409324f4764d9631be3f5"), looks := true }, kinds := [], alts := [], laidByText := true, laidKinds := [.data, .data, .data, .sentinel, .sentinel, .data], laidTests := true, laidLooks := .later }
def FnExactLogOkUptoCardSaid : Prop := Claim7.holds Tryd.pinned (.plain (OpenSpec.upto fnExactLogOkSpec)) fnExactLogOkUptoCard

/-- THE SECOND FORM's CARD OF 'laws.FnExactLogAdd'. -/
def fnExactLogAddUptoCard : Claim7 := { stood := { row := fnExactLogAddUptoRow, standIns := [], harness := (true, "4d53b854b2aabfe110c339551de6bc8455ab25b7f82409324f4764d9631be3f5"), looks := true }, kinds := [], alts := [], laidByText := true, laidKinds := [.data, .data, .data, .sentinel, .sentinel, .data], laidTests := true, laidLooks := .later }
def FnExactLogAddUptoCardSaid : Prop := Claim7.holds Tryd.pinned (.plain (OpenSpec.upto fnExactLogAddSpec)) fnExactLogAddUptoCard

/-- THE SECOND FORM's CARD OF 'laws.FnExactLogRead'. -/
def fnExactLogReadUptoCard : Claim7 := { stood := { row := fnExactLogReadUptoRow, standIns := [], harness := (true, "4d53b854b2aabfe110c339551de6bc8455ab25b7f82409324f4764d9631be3f5"), looks := true }, kinds := [], alts := [], laidByText := true, laidKinds := [.data, .data, .data, .sentinel, .sentinel, .data], laidTests := true, laidLooks := .later }
def FnExactLogReadUptoCardSaid : Prop := Claim7.holds Tryd.pinned (.plain (OpenSpec.upto fnExactLogReadSpec)) fnExactLogReadUptoCard

/-- THE SECOND FORM's CARD OF 'laws.FnExactLogTorn'. -/
def fnExactLogTornUptoCard : Claim7 := { stood := { row := fnExactLogTornUptoRow, standIns := [], harness := (true, "4d53b854b2aabfe110c339551de6bc8455ab25b7f82409324f4764d9631be3f5"), looks := true }, kinds := [], alts := [], laidByText := true, laidKinds := [.data, .data, .data, .sentinel, .sentinel, .data], laidTests := true, laidLooks := .later }
def FnExactLogTornUptoCardSaid : Prop := Claim7.holds Tryd.pinned (.plain (OpenSpec.upto fnExactLogTornSpec)) fnExactLogTornUptoCard

/-- THE SECOND FORM's CARD OF 'laws.FnLogRead'. -/
def fnLogReadUptoCard : Claim7 := { stood := { row := fnLogReadUptoRow, standIns := [], harness := (true, "4d53b854b2aabfe110c339551de6bc8455ab25b7f82409324f4764d9631be3f5"), looks := true }, kinds := [], alts := [], laidByText := true, laidKinds := [.data, .data, .data, .sentinel, .sentinel, .data], laidTests := true, laidLooks := .later }
def FnLogReadUptoCardSaid : Prop := Claim7.holds Tryd.pinned (.plain (OpenSpec.upto fnLogReadSpec)) fnLogReadUptoCard

/-- THE SECOND FORM's CARD OF 'laws.FnLogAdd'. -/
def fnLogAddUptoCard : Claim7 := { stood := { row := fnLogAddUptoRow, standIns := [], harness := (true, "4d53b854b2aabfe110c339551de6bc8455ab25b7f82409324f4764d9631be3f5"), looks := true }, kinds := [], alts := [], laidByText := true, laidKinds := [.data, .data, .data, .sentinel, .sentinel, .data], laidTests := true, laidLooks := .later }
def FnLogAddUptoCardSaid : Prop := Claim7.holds Tryd.pinned (.plain (OpenSpec.upto fnLogAddSpec)) fnLogAddUptoCard

/-- THE SECOND FORM's CARD OF 'laws.FnLogTorn'. -/
def fnLogTornUptoCard : Claim7 := { stood := { row := fnLogTornUptoRow, standIns := [], harness := (true, "4d53b854b2aabfe110c339551de6bc8455ab25b7f82409324f4764d9631be3f5"), looks := true }, kinds := [], alts := [], laidByText := true, laidKinds := [.data, .data, .data, .sentinel, .sentinel, .data], laidTests := true, laidLooks := .later }
def FnLogTornUptoCardSaid : Prop := Claim7.holds Tryd.pinned (.plain (OpenSpec.upto fnLogTornSpec)) fnLogTornUptoCard
end Rows
end Go.Proofs.YtilogdijodgcgaaDoor
