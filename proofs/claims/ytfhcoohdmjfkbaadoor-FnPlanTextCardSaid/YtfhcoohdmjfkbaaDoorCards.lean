/-
  DERIVED. GIVEN WITH THE SEED: THE CARDS: each row of YtfhcoohdmjfkbaaDoorRows.lean that lists a variable, with what it lists TIED to the program's text (the seventh form; the later family's looks); each row that meets fmt, with fmt's text TOLD by the authors' own Lean function (tested against real Go, not proved from fmt's source: count such statements apart). THE CARD IS WHAT COUNTS. Prove the row's statement (the work); the ties are given (YtfhcoohdmjfkbaaDoorTie.lean); close each card by the builder's one call (the guide's Derived/Test/ToyasCard.lean, 'card_holds'). Laid BY PROGRAM, IN A SANDBOX (cutbox-door.mjs). By AI agents, Wed Nov 11 2026. No macro, syntax, notation, axiom, sorry.
-/
import Derived.Test.YtfhcoohdmjfkbaaDoorRows
import GoSem.ClaimSeven
namespace Go.Proofs.YtfhcoohdmjfkbaaDoor
namespace Rows

/-- THE TIED CARD OF 'laws.FnExactWordWrite'. -/
def fnExactWordWriteCard : Claim7 := { stood := { row := fnExactWordWriteRow, standIns := [], harness := (true, "859fb48bebbe08803bef618249babfaa1322c48c846eeaa755dfaebdc7aa3228"), looks := true }, kinds := [], alts := [], laidByText := true, laidKinds := [.data, .data, .data], laidTests := true, laidLooks := .later }
def FnExactWordWriteCardSaid : Prop := Claim7.holds Tryd.pinned (.plain (OpenSpec.ofChange fnExactWordWriteSpec)) fnExactWordWriteCard

/-- THE TIED CARD OF 'laws.FnExactWordRead'. -/
def fnExactWordReadCard : Claim7 := { stood := { row := fnExactWordReadRow, standIns := [], harness := (true, "859fb48bebbe08803bef618249babfaa1322c48c846eeaa755dfaebdc7aa3228"), looks := true }, kinds := [], alts := [], laidByText := true, laidKinds := [.data, .data, .data, .data, .sentinel, .sentinel, .pinned], laidTests := true, laidLooks := .later }
def FnExactWordReadCardSaid : Prop := Claim7.holds Tryd.pinned (.plain (OpenSpec.ofChange fnExactWordReadSpec)) fnExactWordReadCard

/-- THE TIED CARD OF 'laws.FnWordByte'. -/
def fnWordByteCard : Claim7 := { stood := { row := fnWordByteRow, standIns := [], harness := (true, "859fb48bebbe08803bef618249babfaa1322c48c846eeaa755dfaebdc7aa3228"), looks := true }, kinds := [], alts := [], laidByText := true, laidKinds := [.data, .data, .data, .data, .sentinel, .sentinel, .pinned], laidTests := true, laidLooks := .later }
def FnWordByteCardSaid : Prop := Claim7.holds Tryd.pinned (.plain (OpenSpec.ofChange fnWordByteSpec)) fnWordByteCard

/-- THE TIED CARD OF 'laws.FnWordText'. -/
def fnWordTextCard : Claim7 := { stood := { row := fnWordTextRow, standIns := [], harness := (true, "859fb48bebbe08803bef618249babfaa1322c48c846eeaa755dfaebdc7aa3228"), looks := true }, kinds := [], alts := [], laidByText := true, laidKinds := [.data, .data, .data, .data, .sentinel, .sentinel, .pinned], laidTests := true, laidLooks := .later }
def FnWordTextCardSaid : Prop := Claim7.holds Tryd.pinned (.plain (OpenSpec.ofChange fnWordTextSpec)) fnWordTextCard

/-- THE TIED CARD OF 'laws.FnPlanText'. -/
def fnPlanTextCard : Claim7 := { stood := { row := fnPlanTextRow, standIns := [], harness := (true, "859fb48bebbe08803bef618249babfaa1322c48c846eeaa755dfaebdc7aa3228"), looks := true }, kinds := [], alts := [], laidByText := true, laidKinds := [.data, .data, .data, .data, .sentinel, .sentinel, .pinned], laidTests := true, laidLooks := .later }
def FnPlanTextCardSaid : Prop := Claim7.holds Tryd.pinned (.plain (OpenSpec.ofChange fnPlanTextSpec)) fnPlanTextCard

/-- THE SECOND FORM's CARD OF 'laws.FnExactWordWrite'. -/
def fnExactWordWriteUptoCard : Claim7 := { stood := { row := fnExactWordWriteUptoRow, standIns := [], harness := (true, "859fb48bebbe08803bef618249babfaa1322c48c846eeaa755dfaebdc7aa3228"), looks := true }, kinds := [], alts := [], laidByText := true, laidKinds := [.data, .data, .data], laidTests := true, laidLooks := .later }
def FnExactWordWriteUptoCardSaid : Prop := Claim7.holds Tryd.pinned (.plain (OpenSpec.upto fnExactWordWriteSpec)) fnExactWordWriteUptoCard

/-- THE SECOND FORM's CARD OF 'laws.FnExactWordRead'. -/
def fnExactWordReadUptoCard : Claim7 := { stood := { row := fnExactWordReadUptoRow, standIns := [], harness := (true, "859fb48bebbe08803bef618249babfaa1322c48c846eeaa755dfaebdc7aa3228"), looks := true }, kinds := [], alts := [], laidByText := true, laidKinds := [.data, .data, .data, .data, .sentinel, .sentinel, .pinned], laidTests := true, laidLooks := .later }
def FnExactWordReadUptoCardSaid : Prop := Claim7.holds Tryd.pinned (.plain (OpenSpec.upto fnExactWordReadSpec)) fnExactWordReadUptoCard

/-- THE SECOND FORM's CARD OF 'laws.FnWordByte'. -/
def fnWordByteUptoCard : Claim7 := { stood := { row := fnWordByteUptoRow, standIns := [], harness := (true, "859fb48bebbe08803bef618249babfaa1322c48c846eeaa755dfaebdc7aa3228"), looks := true }, kinds := [], alts := [], laidByText := true, laidKinds := [.data, .data, .data, .data, .sentinel, .sentinel, .pinned], laidTests := true, laidLooks := .later }
def FnWordByteUptoCardSaid : Prop := Claim7.holds Tryd.pinned (.plain (OpenSpec.upto fnWordByteSpec)) fnWordByteUptoCard

/-- THE SECOND FORM's CARD OF 'laws.FnWordText'. -/
def fnWordTextUptoCard : Claim7 := { stood := { row := fnWordTextUptoRow, standIns := [], harness := (true, "859fb48bebbe08803bef618249babfaa1322c48c846eeaa755dfaebdc7aa3228"), looks := true }, kinds := [], alts := [], laidByText := true, laidKinds := [.data, .data, .data, .data, .sentinel, .sentinel, .pinned], laidTests := true, laidLooks := .later }
def FnWordTextUptoCardSaid : Prop := Claim7.holds Tryd.pinned (.plain (OpenSpec.upto fnWordTextSpec)) fnWordTextUptoCard

/-- THE SECOND FORM's CARD OF 'laws.FnPlanText'. -/
def fnPlanTextUptoCard : Claim7 := { stood := { row := fnPlanTextUptoRow, standIns := [], harness := (true, "859fb48bebbe08803bef618249babfaa1322c48c846eeaa755dfaebdc7aa3228"), looks := true }, kinds := [], alts := [], laidByText := true, laidKinds := [.data, .data, .data, .data, .sentinel, .sentinel, .pinned], laidTests := true, laidLooks := .later }
def FnPlanTextUptoCardSaid : Prop := Claim7.holds Tryd.pinned (.plain (OpenSpec.upto fnPlanTextSpec)) fnPlanTextUptoCard
end Rows
end Go.Proofs.YtfhcoohdmjfkbaaDoor
