/-
  DERIVED. GIVEN WITH THE SEED: THE CARDS: each row of YtghoamdlcjdfjaaGreatDoorRows.lean that lists a variable, with what it lists TIED to the program's text (the seventh form; the later family's looks); each row that meets fmt, with fmt's text TOLD by the authors' own Lean function (tested against real Go, not proved from fmt's source: count such statements apart). THE CARD IS WHAT COUNTS. Prove the row's statement (the work); the ties are given (YtghoamdlcjdfjaaGreatDoorTie.lean); close each card by the builder's one call (the guide's Derived/Test/ToyasCard.lean, 'card_holds'). Laid BY PROGRAM, IN A SANDBOX (cutbox-door.mjs). By AI agents, Wed Nov 11 2026. No macro, syntax, notation, axiom, sorry.
-/
import Derived.Test.YtghoamdlcjdfjaaGreatDoorRows
import GoSem.ClaimSeven
namespace Go.Proofs.YtghoamdlcjdfjaaGreatDoor
namespace Rows

/-- THE TIED CARD OF 'weighbridgelaw24.RegModel'. -/
def regModelCard : Claim7 := { stood := { row := regModelRow, standIns := [], harness := (true, "c0d45d9331ca910f4476b8785321555f6daf09d334b8a3c3f2b0d7eb0738fbd2"), looks := false }, kinds := [], alts := [], laidByText := true, laidKinds := [.data], laidTests := true, laidLooks := .later }
def RegModelCardSaid : Prop := Claim7.holds Tryz.pinned (.plain (OpenSpec.ofChange regModelSpec)) regModelCard

/-- THE TIED CARD OF 'weighbridgelaw24.RegCosts'. -/
def regCostsCard : Claim7 := { stood := { row := regCostsRow, standIns := [], harness := (true, "c0d45d9331ca910f4476b8785321555f6daf09d334b8a3c3f2b0d7eb0738fbd2"), looks := false }, kinds := [], alts := [], laidByText := true, laidKinds := [.data], laidTests := true, laidLooks := .later }
def RegCostsCardSaid : Prop := Claim7.holds Tryz.pinned (.plain (OpenSpec.ofChange regCostsSpec)) regCostsCard

/-- THE TIED CARD OF 'weighbridgelaw23.EnqModel'. -/
def enqModelCard : Claim7 := { stood := { row := enqModelRow, standIns := [], harness := (true, "c0d45d9331ca910f4476b8785321555f6daf09d334b8a3c3f2b0d7eb0738fbd2"), looks := false }, kinds := [], alts := [], laidByText := true, laidKinds := [.data], laidTests := true, laidLooks := .later }
def EnqModelCardSaid : Prop := Claim7.holds Tryz.pinned (.plain (OpenSpec.ofChange enqModelSpec)) enqModelCard

/-- THE TIED CARD OF 'weighbridgelaw24.RegRaces'. -/
def regRacesCard : Claim7 := { stood := { row := regRacesRow, standIns := [], harness := (true, "c0d45d9331ca910f4476b8785321555f6daf09d334b8a3c3f2b0d7eb0738fbd2"), looks := false }, kinds := [], alts := [], laidByText := true, laidKinds := [.data], laidTests := true, laidLooks := .later }
def RegRacesCardSaid : Prop := Claim7.holds Tryz.pinned (.plain (OpenSpec.ofChange regRacesSpec)) regRacesCard

/-- THE TIED CARD OF 'weighbridgelaw23.EnqRaces'. -/
def enqRacesCard : Claim7 := { stood := { row := enqRacesRow, standIns := [], harness := (true, "c0d45d9331ca910f4476b8785321555f6daf09d334b8a3c3f2b0d7eb0738fbd2"), looks := false }, kinds := [], alts := [], laidByText := true, laidKinds := [.data], laidTests := true, laidLooks := .later }
def EnqRacesCardSaid : Prop := Claim7.holds Tryz.pinned (.plain (OpenSpec.ofChange enqRacesSpec)) enqRacesCard

/-- THE TIED CARD OF 'weighbridgelaw23.EnqWakes'. -/
def enqWakesCard : Claim7 := { stood := { row := enqWakesRow, standIns := [], harness := (true, "c0d45d9331ca910f4476b8785321555f6daf09d334b8a3c3f2b0d7eb0738fbd2"), looks := false }, kinds := [], alts := [], laidByText := true, laidKinds := [.data], laidTests := true, laidLooks := .later }
def EnqWakesCardSaid : Prop := Claim7.holds Tryz.pinned (.plain (OpenSpec.ofChange enqWakesSpec)) enqWakesCard

/-- THE TIED CARD OF 'weighbridgelaw23.EnqCells'. -/
def enqCellsCard : Claim7 := { stood := { row := enqCellsRow, standIns := [], harness := (true, "c0d45d9331ca910f4476b8785321555f6daf09d334b8a3c3f2b0d7eb0738fbd2"), looks := false }, kinds := [], alts := [], laidByText := true, laidKinds := [.data], laidTests := true, laidLooks := .later }
def EnqCellsCardSaid : Prop := Claim7.holds Tryz.pinned (.plain (OpenSpec.ofChange enqCellsSpec)) enqCellsCard

/-- THE SECOND FORM's CARD OF 'weighbridgelaw24.RegModel'. -/
def regModelUptoCard : Claim7 := { stood := { row := regModelUptoRow, standIns := [], harness := (true, "c0d45d9331ca910f4476b8785321555f6daf09d334b8a3c3f2b0d7eb0738fbd2"), looks := false }, kinds := [], alts := [], laidByText := true, laidKinds := [.data], laidTests := true, laidLooks := .later }
def RegModelUptoCardSaid : Prop := Claim7.holds Tryz.pinned (.plain (OpenSpec.upto regModelSpec)) regModelUptoCard

/-- THE SECOND FORM's CARD OF 'weighbridgelaw24.RegCosts'. -/
def regCostsUptoCard : Claim7 := { stood := { row := regCostsUptoRow, standIns := [], harness := (true, "c0d45d9331ca910f4476b8785321555f6daf09d334b8a3c3f2b0d7eb0738fbd2"), looks := false }, kinds := [], alts := [], laidByText := true, laidKinds := [.data], laidTests := true, laidLooks := .later }
def RegCostsUptoCardSaid : Prop := Claim7.holds Tryz.pinned (.plain (OpenSpec.upto regCostsSpec)) regCostsUptoCard

/-- THE SECOND FORM's CARD OF 'weighbridgelaw23.EnqModel'. -/
def enqModelUptoCard : Claim7 := { stood := { row := enqModelUptoRow, standIns := [], harness := (true, "c0d45d9331ca910f4476b8785321555f6daf09d334b8a3c3f2b0d7eb0738fbd2"), looks := false }, kinds := [], alts := [], laidByText := true, laidKinds := [.data], laidTests := true, laidLooks := .later }
def EnqModelUptoCardSaid : Prop := Claim7.holds Tryz.pinned (.plain (OpenSpec.upto enqModelSpec)) enqModelUptoCard

/-- THE SECOND FORM's CARD OF 'weighbridgelaw24.RegRaces'. -/
def regRacesUptoCard : Claim7 := { stood := { row := regRacesUptoRow, standIns := [], harness := (true, "c0d45d9331ca910f4476b8785321555f6daf09d334b8a3c3f2b0d7eb0738fbd2"), looks := false }, kinds := [], alts := [], laidByText := true, laidKinds := [.data], laidTests := true, laidLooks := .later }
def RegRacesUptoCardSaid : Prop := Claim7.holds Tryz.pinned (.plain (OpenSpec.upto regRacesSpec)) regRacesUptoCard

/-- THE SECOND FORM's CARD OF 'weighbridgelaw23.EnqRaces'. -/
def enqRacesUptoCard : Claim7 := { stood := { row := enqRacesUptoRow, standIns := [], harness := (true, "c0d45d9331ca910f4476b8785321555f6daf09d334b8a3c3f2b0d7eb0738fbd2"), looks := false }, kinds := [], alts := [], laidByText := true, laidKinds := [.data], laidTests := true, laidLooks := .later }
def EnqRacesUptoCardSaid : Prop := Claim7.holds Tryz.pinned (.plain (OpenSpec.upto enqRacesSpec)) enqRacesUptoCard

/-- THE SECOND FORM's CARD OF 'weighbridgelaw23.EnqWakes'. -/
def enqWakesUptoCard : Claim7 := { stood := { row := enqWakesUptoRow, standIns := [], harness := (true, "c0d45d9331ca910f4476b8785321555f6daf09d334b8a3c3f2b0d7eb0738fbd2"), looks := false }, kinds := [], alts := [], laidByText := true, laidKinds := [.data], laidTests := true, laidLooks := .later }
def EnqWakesUptoCardSaid : Prop := Claim7.holds Tryz.pinned (.plain (OpenSpec.upto enqWakesSpec)) enqWakesUptoCard

/-- THE SECOND FORM's CARD OF 'weighbridgelaw23.EnqCells'. -/
def enqCellsUptoCard : Claim7 := { stood := { row := enqCellsUptoRow, standIns := [], harness := (true, "c0d45d9331ca910f4476b8785321555f6daf09d334b8a3c3f2b0d7eb0738fbd2"), looks := false }, kinds := [], alts := [], laidByText := true, laidKinds := [.data], laidTests := true, laidLooks := .later }
def EnqCellsUptoCardSaid : Prop := Claim7.holds Tryz.pinned (.plain (OpenSpec.upto enqCellsSpec)) enqCellsUptoCard
end Rows
end Go.Proofs.YtghoamdlcjdfjaaGreatDoor
