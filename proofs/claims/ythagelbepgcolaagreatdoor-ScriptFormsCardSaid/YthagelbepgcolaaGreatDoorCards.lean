/-
  DERIVED. GIVEN WITH THE SEED: THE CARDS: each row of YthagelbepgcolaaGreatDoorRows.lean that lists a variable, with what it lists TIED to the program's text (the seventh form; the later family's looks); each row that meets fmt, with fmt's text TOLD by the authors' own Lean function (tested against real Go, not proved from fmt's source: count such statements apart). THE CARD IS WHAT COUNTS. Prove the row's statement (the work); the ties are given (YthagelbepgcolaaGreatDoorTie.lean); close each card by the builder's one call (the guide's Derived/Test/ToyasCard.lean, 'card_holds'). Laid BY PROGRAM, IN A SANDBOX (cutbox-door.mjs). By AI agents, Wed Nov 11 2026. No macro, syntax, notation, axiom, sorry.
-/
import Derived.Test.YthagelbepgcolaaGreatDoorRows
import GoSem.ClaimSeven
namespace Go.Proofs.YthagelbepgcolaaGreatDoor
namespace Rows

/-- THE TIED CARD OF 'weighbridgelaw30.ScriptEncode'. -/
def scriptEncodeCard : Claim7 := { stood := { row := scriptEncodeRow, standIns := [], harness := (true, "e3b03700bb3e8e2024b743808f63340b0a073ad43671800ba072bcaabe25ce5b"), looks := true }, kinds := [], alts := [], laidByText := true, laidKinds := [.data, .data, .data], laidTests := true, laidLooks := .later }
def ScriptEncodeCardSaid : Prop := Claim7.holds Tryz.pinned (.plain (OpenSpec.ofChange scriptEncodeSpec)) scriptEncodeCard

/-- THE TIED CARD OF 'weighbridgelaw30.ScriptUnits'. -/
def scriptUnitsCard : Claim7 := { stood := { row := scriptUnitsRow, standIns := [], harness := (true, "e3b03700bb3e8e2024b743808f63340b0a073ad43671800ba072bcaabe25ce5b"), looks := true }, kinds := [], alts := [], laidByText := true, laidKinds := [.data, .data, .data], laidTests := true, laidLooks := .later }
def ScriptUnitsCardSaid : Prop := Claim7.holds Tryz.pinned (.plain (OpenSpec.ofChange scriptUnitsSpec)) scriptUnitsCard

/-- THE TIED CARD OF 'weighbridgelaw30.ScriptMany'. -/
def scriptManyCard : Claim7 := { stood := { row := scriptManyRow, standIns := [], harness := (true, "e3b03700bb3e8e2024b743808f63340b0a073ad43671800ba072bcaabe25ce5b"), looks := true }, kinds := [], alts := [], laidByText := true, laidKinds := [.data, .data, .data], laidTests := true, laidLooks := .later }
def ScriptManyCardSaid : Prop := Claim7.holds Tryz.pinned (.plain (OpenSpec.ofChange scriptManySpec)) scriptManyCard

/-- THE TIED CARD OF 'weighbridgelaw30.ScriptDecode'. -/
def scriptDecodeCard : Claim7 := { stood := { row := scriptDecodeRow, standIns := [], harness := (true, "e3b03700bb3e8e2024b743808f63340b0a073ad43671800ba072bcaabe25ce5b"), looks := true }, kinds := [], alts := [], laidByText := true, laidKinds := [.data, .data, .data], laidTests := true, laidLooks := .later }
def ScriptDecodeCardSaid : Prop := Claim7.holds Tryz.pinned (.plain (OpenSpec.ofChange scriptDecodeSpec)) scriptDecodeCard

/-- THE TIED CARD OF 'weighbridgelaw30.ScriptCut'. -/
def scriptCutCard : Claim7 := { stood := { row := scriptCutRow, standIns := [], harness := (true, "e3b03700bb3e8e2024b743808f63340b0a073ad43671800ba072bcaabe25ce5b"), looks := true }, kinds := [], alts := [], laidByText := true, laidKinds := [.data, .data, .data], laidTests := true, laidLooks := .later }
def ScriptCutCardSaid : Prop := Claim7.holds Tryz.pinned (.plain (OpenSpec.ofChange scriptCutSpec)) scriptCutCard

/-- THE TIED CARD OF 'weighbridgelaw30.ScriptForms'. -/
def scriptFormsCard : Claim7 := { stood := { row := scriptFormsRow, standIns := [], harness := (true, "e3b03700bb3e8e2024b743808f63340b0a073ad43671800ba072bcaabe25ce5b"), looks := true }, kinds := [], alts := [], laidByText := true, laidKinds := [.data, .data, .data], laidTests := true, laidLooks := .later }
def ScriptFormsCardSaid : Prop := Claim7.holds Tryz.pinned (.plain (OpenSpec.ofChange scriptFormsSpec)) scriptFormsCard

/-- THE TIED CARD OF 'weighbridgelaw30.ScriptAbove'. -/
def scriptAboveCard : Claim7 := { stood := { row := scriptAboveRow, standIns := [], harness := (true, "e3b03700bb3e8e2024b743808f63340b0a073ad43671800ba072bcaabe25ce5b"), looks := true }, kinds := [], alts := [], laidByText := true, laidKinds := [.data, .data, .data], laidTests := true, laidLooks := .later }
def ScriptAboveCardSaid : Prop := Claim7.holds Tryz.pinned (.plain (OpenSpec.ofChange scriptAboveSpec)) scriptAboveCard

/-- THE SECOND FORM's CARD OF 'weighbridgelaw30.ScriptEncode'. -/
def scriptEncodeUptoCard : Claim7 := { stood := { row := scriptEncodeUptoRow, standIns := [], harness := (true, "e3b03700bb3e8e2024b743808f63340b0a073ad43671800ba072bcaabe25ce5b"), looks := true }, kinds := [], alts := [], laidByText := true, laidKinds := [.data, .data, .data], laidTests := true, laidLooks := .later }
def ScriptEncodeUptoCardSaid : Prop := Claim7.holds Tryz.pinned (.plain (OpenSpec.upto scriptEncodeSpec)) scriptEncodeUptoCard

/-- THE SECOND FORM's CARD OF 'weighbridgelaw30.ScriptUnits'. -/
def scriptUnitsUptoCard : Claim7 := { stood := { row := scriptUnitsUptoRow, standIns := [], harness := (true, "e3b03700bb3e8e2024b743808f63340b0a073ad43671800ba072bcaabe25ce5b"), looks := true }, kinds := [], alts := [], laidByText := true, laidKinds := [.data, .data, .data], laidTests := true, laidLooks := .later }
def ScriptUnitsUptoCardSaid : Prop := Claim7.holds Tryz.pinned (.plain (OpenSpec.upto scriptUnitsSpec)) scriptUnitsUptoCard

/-- THE SECOND FORM's CARD OF 'weighbridgelaw30.ScriptMany'. -/
def scriptManyUptoCard : Claim7 := { stood := { row := scriptManyUptoRow, standIns := [], harness := (true, "e3b03700bb3e8e2024b743808f63340b0a073ad43671800ba072bcaabe25ce5b"), looks := true }, kinds := [], alts := [], laidByText := true, laidKinds := [.data, .data, .data], laidTests := true, laidLooks := .later }
def ScriptManyUptoCardSaid : Prop := Claim7.holds Tryz.pinned (.plain (OpenSpec.upto scriptManySpec)) scriptManyUptoCard

/-- THE SECOND FORM's CARD OF 'weighbridgelaw30.ScriptDecode'. -/
def scriptDecodeUptoCard : Claim7 := { stood := { row := scriptDecodeUptoRow, standIns := [], harness := (true, "e3b03700bb3e8e2024b743808f63340b0a073ad43671800ba072bcaabe25ce5b"), looks := true }, kinds := [], alts := [], laidByText := true, laidKinds := [.data, .data, .data], laidTests := true, laidLooks := .later }
def ScriptDecodeUptoCardSaid : Prop := Claim7.holds Tryz.pinned (.plain (OpenSpec.upto scriptDecodeSpec)) scriptDecodeUptoCard

/-- THE SECOND FORM's CARD OF 'weighbridgelaw30.ScriptCut'. -/
def scriptCutUptoCard : Claim7 := { stood := { row := scriptCutUptoRow, standIns := [], harness := (true, "e3b03700bb3e8e2024b743808f63340b0a073ad43671800ba072bcaabe25ce5b"), looks := true }, kinds := [], alts := [], laidByText := true, laidKinds := [.data, .data, .data], laidTests := true, laidLooks := .later }
def ScriptCutUptoCardSaid : Prop := Claim7.holds Tryz.pinned (.plain (OpenSpec.upto scriptCutSpec)) scriptCutUptoCard

/-- THE SECOND FORM's CARD OF 'weighbridgelaw30.ScriptForms'. -/
def scriptFormsUptoCard : Claim7 := { stood := { row := scriptFormsUptoRow, standIns := [], harness := (true, "e3b03700bb3e8e2024b743808f63340b0a073ad43671800ba072bcaabe25ce5b"), looks := true }, kinds := [], alts := [], laidByText := true, laidKinds := [.data, .data, .data], laidTests := true, laidLooks := .later }
def ScriptFormsUptoCardSaid : Prop := Claim7.holds Tryz.pinned (.plain (OpenSpec.upto scriptFormsSpec)) scriptFormsUptoCard

/-- THE SECOND FORM's CARD OF 'weighbridgelaw30.ScriptAbove'. -/
def scriptAboveUptoCard : Claim7 := { stood := { row := scriptAboveUptoRow, standIns := [], harness := (true, "e3b03700bb3e8e2024b743808f63340b0a073ad43671800ba072bcaabe25ce5b"), looks := true }, kinds := [], alts := [], laidByText := true, laidKinds := [.data, .data, .data], laidTests := true, laidLooks := .later }
def ScriptAboveUptoCardSaid : Prop := Claim7.holds Tryz.pinned (.plain (OpenSpec.upto scriptAboveSpec)) scriptAboveUptoCard
end Rows
end Go.Proofs.YthagelbepgcolaaGreatDoor
