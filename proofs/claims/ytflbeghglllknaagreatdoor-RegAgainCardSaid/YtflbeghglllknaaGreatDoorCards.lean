/-
  DERIVED. GIVEN WITH THE SEED: THE CARDS: each row of YtflbeghglllknaaGreatDoorRows.lean that lists a variable, with what it lists TIED to the program's text (the seventh form; the later family's looks); each row that meets fmt, with fmt's text TOLD by the authors' own Lean function (tested against real Go, not proved from fmt's source: count such statements apart). THE CARD IS WHAT COUNTS. Prove the row's statement (the work); the ties are given (YtflbeghglllknaaGreatDoorTie.lean); close each card by the builder's one call (the guide's Derived/Test/ToyasCard.lean, 'card_holds'). Laid BY PROGRAM, IN A SANDBOX (cutbox-door.mjs). By AI agents, Wed Nov 11 2026. No macro, syntax, notation, axiom, sorry.
-/
import Derived.Test.YtflbeghglllknaaGreatDoorRows
import GoSem.ClaimSeven
namespace Go.Proofs.YtflbeghglllknaaGreatDoor
namespace Rows

/-- THE TIED CARD OF 'weighbridgelaw24.RegAlone'. -/
def regAloneCard : Claim7 := { stood := { row := regAloneRow, standIns := [], harness := (true, "d9b53e99571d4d5ca8b8974babaf7bc1cfb9dc0878a08dbcd5a9c417cd87a5cb"), looks := false }, kinds := [], alts := [], laidByText := true, laidKinds := [.data], laidTests := true, laidLooks := .later }
def RegAloneCardSaid : Prop := Claim7.holds Tryz.pinned (.plain (OpenSpec.ofChange regAloneSpec)) regAloneCard

/-- THE TIED CARD OF 'weighbridgelaw24.RegTurns'. -/
def regTurnsCard : Claim7 := { stood := { row := regTurnsRow, standIns := [], harness := (true, "d9b53e99571d4d5ca8b8974babaf7bc1cfb9dc0878a08dbcd5a9c417cd87a5cb"), looks := false }, kinds := [], alts := [], laidByText := true, laidKinds := [.data], laidTests := true, laidLooks := .later }
def RegTurnsCardSaid : Prop := Claim7.holds Tryz.pinned (.plain (OpenSpec.ofChange regTurnsSpec)) regTurnsCard

/-- THE TIED CARD OF 'weighbridgelaw24.RegBlows'. -/
def regBlowsCard : Claim7 := { stood := { row := regBlowsRow, standIns := [], harness := (true, "d9b53e99571d4d5ca8b8974babaf7bc1cfb9dc0878a08dbcd5a9c417cd87a5cb"), looks := false }, kinds := [], alts := [], laidByText := true, laidKinds := [.data], laidTests := true, laidLooks := .later }
def RegBlowsCardSaid : Prop := Claim7.holds Tryz.pinned (.plain (OpenSpec.ofChange regBlowsSpec)) regBlowsCard

/-- THE TIED CARD OF 'weighbridgelaw24.RegMutex'. -/
def regMutexCard : Claim7 := { stood := { row := regMutexRow, standIns := [], harness := (true, "d9b53e99571d4d5ca8b8974babaf7bc1cfb9dc0878a08dbcd5a9c417cd87a5cb"), looks := false }, kinds := [], alts := [], laidByText := true, laidKinds := [.data], laidTests := true, laidLooks := .later }
def RegMutexCardSaid : Prop := Claim7.holds Tryz.pinned (.plain (OpenSpec.ofChange regMutexSpec)) regMutexCard

/-- THE TIED CARD OF 'weighbridgelaw24.RegAgain'. -/
def regAgainCard : Claim7 := { stood := { row := regAgainRow, standIns := [], harness := (true, "d9b53e99571d4d5ca8b8974babaf7bc1cfb9dc0878a08dbcd5a9c417cd87a5cb"), looks := false }, kinds := [], alts := [], laidByText := true, laidKinds := [.data], laidTests := true, laidLooks := .later }
def RegAgainCardSaid : Prop := Claim7.holds Tryz.pinned (.plain (OpenSpec.ofChange regAgainSpec)) regAgainCard

/-- THE TIED CARD OF 'weighbridgelaw24.RegSlots'. -/
def regSlotsCard : Claim7 := { stood := { row := regSlotsRow, standIns := [], harness := (true, "d9b53e99571d4d5ca8b8974babaf7bc1cfb9dc0878a08dbcd5a9c417cd87a5cb"), looks := false }, kinds := [], alts := [], laidByText := true, laidKinds := [.data], laidTests := true, laidLooks := .later }
def RegSlotsCardSaid : Prop := Claim7.holds Tryz.pinned (.plain (OpenSpec.ofChange regSlotsSpec)) regSlotsCard

/-- THE SECOND FORM's CARD OF 'weighbridgelaw24.RegAlone'. -/
def regAloneUptoCard : Claim7 := { stood := { row := regAloneUptoRow, standIns := [], harness := (true, "d9b53e99571d4d5ca8b8974babaf7bc1cfb9dc0878a08dbcd5a9c417cd87a5cb"), looks := false }, kinds := [], alts := [], laidByText := true, laidKinds := [.data], laidTests := true, laidLooks := .later }
def RegAloneUptoCardSaid : Prop := Claim7.holds Tryz.pinned (.plain (OpenSpec.upto regAloneSpec)) regAloneUptoCard

/-- THE SECOND FORM's CARD OF 'weighbridgelaw24.RegTurns'. -/
def regTurnsUptoCard : Claim7 := { stood := { row := regTurnsUptoRow, standIns := [], harness := (true, "d9b53e99571d4d5ca8b8974babaf7bc1cfb9dc0878a08dbcd5a9c417cd87a5cb"), looks := false }, kinds := [], alts := [], laidByText := true, laidKinds := [.data], laidTests := true, laidLooks := .later }
def RegTurnsUptoCardSaid : Prop := Claim7.holds Tryz.pinned (.plain (OpenSpec.upto regTurnsSpec)) regTurnsUptoCard

/-- THE SECOND FORM's CARD OF 'weighbridgelaw24.RegBlows'. -/
def regBlowsUptoCard : Claim7 := { stood := { row := regBlowsUptoRow, standIns := [], harness := (true, "d9b53e99571d4d5ca8b8974babaf7bc1cfb9dc0878a08dbcd5a9c417cd87a5cb"), looks := false }, kinds := [], alts := [], laidByText := true, laidKinds := [.data], laidTests := true, laidLooks := .later }
def RegBlowsUptoCardSaid : Prop := Claim7.holds Tryz.pinned (.plain (OpenSpec.upto regBlowsSpec)) regBlowsUptoCard

/-- THE SECOND FORM's CARD OF 'weighbridgelaw24.RegMutex'. -/
def regMutexUptoCard : Claim7 := { stood := { row := regMutexUptoRow, standIns := [], harness := (true, "d9b53e99571d4d5ca8b8974babaf7bc1cfb9dc0878a08dbcd5a9c417cd87a5cb"), looks := false }, kinds := [], alts := [], laidByText := true, laidKinds := [.data], laidTests := true, laidLooks := .later }
def RegMutexUptoCardSaid : Prop := Claim7.holds Tryz.pinned (.plain (OpenSpec.upto regMutexSpec)) regMutexUptoCard

/-- THE SECOND FORM's CARD OF 'weighbridgelaw24.RegAgain'. -/
def regAgainUptoCard : Claim7 := { stood := { row := regAgainUptoRow, standIns := [], harness := (true, "d9b53e99571d4d5ca8b8974babaf7bc1cfb9dc0878a08dbcd5a9c417cd87a5cb"), looks := false }, kinds := [], alts := [], laidByText := true, laidKinds := [.data], laidTests := true, laidLooks := .later }
def RegAgainUptoCardSaid : Prop := Claim7.holds Tryz.pinned (.plain (OpenSpec.upto regAgainSpec)) regAgainUptoCard

/-- THE SECOND FORM's CARD OF 'weighbridgelaw24.RegSlots'. -/
def regSlotsUptoCard : Claim7 := { stood := { row := regSlotsUptoRow, standIns := [], harness := (true, "d9b53e99571d4d5ca8b8974babaf7bc1cfb9dc0878a08dbcd5a9c417cd87a5cb"), looks := false }, kinds := [], alts := [], laidByText := true, laidKinds := [.data], laidTests := true, laidLooks := .later }
def RegSlotsUptoCardSaid : Prop := Claim7.holds Tryz.pinned (.plain (OpenSpec.upto regSlotsSpec)) regSlotsUptoCard
end Rows
end Go.Proofs.YtflbeghglllknaaGreatDoor
