/-
  DERIVED. GIVEN WITH THE SEED: THE CARDS: each row of YtbjelopcelompaaGreatDoorRows.lean that lists a variable, with what it lists TIED to the program's text (the seventh form; the later family's looks); each row that meets fmt, with fmt's text TOLD by the authors' own Lean function (tested against real Go, not proved from fmt's source: count such statements apart). THE CARD IS WHAT COUNTS. Prove the row's statement (the work); the ties are given (YtbjelopcelompaaGreatDoorTie.lean); close each card by the builder's one call (the guide's Derived/Test/ToyasCard.lean, 'card_holds'). Laid BY PROGRAM, IN A SANDBOX (cutbox-door.mjs). By AI agents, Wed Nov 11 2026. No macro, syntax, notation, axiom, sorry.
-/
import Derived.Test.YtbjelopcelompaaGreatDoorRows
import GoSem.ClaimSeven
namespace Go.Proofs.YtbjelopcelompaaGreatDoor
namespace Rows

/-- THE TIED CARD OF 'weighbridgelaw29.PaceParts'. -/
def pacePartsCard : Claim7 := { stood := { row := pacePartsRow, standIns := [], harness := (true, "85217ac9ae1f77c1f543fffd9f42ebbb4c8eb329f352378d32132fb1e5f48824"), looks := true }, kinds := [], alts := [], laidByText := true, laidKinds := [.data], laidTests := true, laidLooks := .later }
def PacePartsCardSaid : Prop := Claim7.holds Tryz.pinned (.plain (OpenSpec.ofChange pacePartsSpec)) pacePartsCard

/-- THE TIED CARD OF 'weighbridgelaw29.PaceBound'. -/
def paceBoundCard : Claim7 := { stood := { row := paceBoundRow, standIns := [], harness := (true, "85217ac9ae1f77c1f543fffd9f42ebbb4c8eb329f352378d32132fb1e5f48824"), looks := true }, kinds := [], alts := [], laidByText := true, laidKinds := [.data], laidTests := true, laidLooks := .later }
def PaceBoundCardSaid : Prop := Claim7.holds Tryz.pinned (.plain (OpenSpec.ofChange paceBoundSpec)) paceBoundCard

/-- THE TIED CARD OF 'weighbridgelaw29.PaceEven'. -/
def paceEvenCard : Claim7 := { stood := { row := paceEvenRow, standIns := [], harness := (true, "85217ac9ae1f77c1f543fffd9f42ebbb4c8eb329f352378d32132fb1e5f48824"), looks := true }, kinds := [], alts := [], laidByText := true, laidKinds := [.data], laidTests := true, laidLooks := .later }
def PaceEvenCardSaid : Prop := Claim7.holds Tryz.pinned (.plain (OpenSpec.ofChange paceEvenSpec)) paceEvenCard

/-- THE TIED CARD OF 'weighbridgelaw29.PaceTurns'. -/
def paceTurnsCard : Claim7 := { stood := { row := paceTurnsRow, standIns := [], harness := (true, "85217ac9ae1f77c1f543fffd9f42ebbb4c8eb329f352378d32132fb1e5f48824"), looks := true }, kinds := [], alts := [], laidByText := true, laidKinds := [.data], laidTests := true, laidLooks := .later }
def PaceTurnsCardSaid : Prop := Claim7.holds Tryz.pinned (.plain (OpenSpec.ofChange paceTurnsSpec)) paceTurnsCard

/-- THE TIED CARD OF 'weighbridgelaw29.PaceTries'. -/
def paceTriesCard : Claim7 := { stood := { row := paceTriesRow, standIns := [], harness := (true, "85217ac9ae1f77c1f543fffd9f42ebbb4c8eb329f352378d32132fb1e5f48824"), looks := true }, kinds := [], alts := [], laidByText := true, laidKinds := [.data], laidTests := true, laidLooks := .later }
def PaceTriesCardSaid : Prop := Claim7.holds Tryz.pinned (.plain (OpenSpec.ofChange paceTriesSpec)) paceTriesCard

/-- THE TIED CARD OF 'weighbridgelaw29.PaceOne'. -/
def paceOneCard : Claim7 := { stood := { row := paceOneRow, standIns := [], harness := (true, "85217ac9ae1f77c1f543fffd9f42ebbb4c8eb329f352378d32132fb1e5f48824"), looks := true }, kinds := [], alts := [], laidByText := true, laidKinds := [.data], laidTests := true, laidLooks := .later }
def PaceOneCardSaid : Prop := Claim7.holds Tryz.pinned (.plain (OpenSpec.ofChange paceOneSpec)) paceOneCard

/-- THE SECOND FORM's CARD OF 'weighbridgelaw29.PaceParts'. -/
def pacePartsUptoCard : Claim7 := { stood := { row := pacePartsUptoRow, standIns := [], harness := (true, "85217ac9ae1f77c1f543fffd9f42ebbb4c8eb329f352378d32132fb1e5f48824"), looks := true }, kinds := [], alts := [], laidByText := true, laidKinds := [.data], laidTests := true, laidLooks := .later }
def PacePartsUptoCardSaid : Prop := Claim7.holds Tryz.pinned (.plain (OpenSpec.upto pacePartsSpec)) pacePartsUptoCard

/-- THE SECOND FORM's CARD OF 'weighbridgelaw29.PaceBound'. -/
def paceBoundUptoCard : Claim7 := { stood := { row := paceBoundUptoRow, standIns := [], harness := (true, "85217ac9ae1f77c1f543fffd9f42ebbb4c8eb329f352378d32132fb1e5f48824"), looks := true }, kinds := [], alts := [], laidByText := true, laidKinds := [.data], laidTests := true, laidLooks := .later }
def PaceBoundUptoCardSaid : Prop := Claim7.holds Tryz.pinned (.plain (OpenSpec.upto paceBoundSpec)) paceBoundUptoCard

/-- THE SECOND FORM's CARD OF 'weighbridgelaw29.PaceEven'. -/
def paceEvenUptoCard : Claim7 := { stood := { row := paceEvenUptoRow, standIns := [], harness := (true, "85217ac9ae1f77c1f543fffd9f42ebbb4c8eb329f352378d32132fb1e5f48824"), looks := true }, kinds := [], alts := [], laidByText := true, laidKinds := [.data], laidTests := true, laidLooks := .later }
def PaceEvenUptoCardSaid : Prop := Claim7.holds Tryz.pinned (.plain (OpenSpec.upto paceEvenSpec)) paceEvenUptoCard

/-- THE SECOND FORM's CARD OF 'weighbridgelaw29.PaceTurns'. -/
def paceTurnsUptoCard : Claim7 := { stood := { row := paceTurnsUptoRow, standIns := [], harness := (true, "85217ac9ae1f77c1f543fffd9f42ebbb4c8eb329f352378d32132fb1e5f48824"), looks := true }, kinds := [], alts := [], laidByText := true, laidKinds := [.data], laidTests := true, laidLooks := .later }
def PaceTurnsUptoCardSaid : Prop := Claim7.holds Tryz.pinned (.plain (OpenSpec.upto paceTurnsSpec)) paceTurnsUptoCard

/-- THE SECOND FORM's CARD OF 'weighbridgelaw29.PaceTries'. -/
def paceTriesUptoCard : Claim7 := { stood := { row := paceTriesUptoRow, standIns := [], harness := (true, "85217ac9ae1f77c1f543fffd9f42ebbb4c8eb329f352378d32132fb1e5f48824"), looks := true }, kinds := [], alts := [], laidByText := true, laidKinds := [.data], laidTests := true, laidLooks := .later }
def PaceTriesUptoCardSaid : Prop := Claim7.holds Tryz.pinned (.plain (OpenSpec.upto paceTriesSpec)) paceTriesUptoCard

/-- THE SECOND FORM's CARD OF 'weighbridgelaw29.PaceOne'. -/
def paceOneUptoCard : Claim7 := { stood := { row := paceOneUptoRow, standIns := [], harness := (true, "85217ac9ae1f77c1f543fffd9f42ebbb4c8eb329f352378d32132fb1e5f48824"), looks := true }, kinds := [], alts := [], laidByText := true, laidKinds := [.data], laidTests := true, laidLooks := .later }
def PaceOneUptoCardSaid : Prop := Claim7.holds Tryz.pinned (.plain (OpenSpec.upto paceOneSpec)) paceOneUptoCard
end Rows
end Go.Proofs.YtbjelopcelompaaGreatDoor
