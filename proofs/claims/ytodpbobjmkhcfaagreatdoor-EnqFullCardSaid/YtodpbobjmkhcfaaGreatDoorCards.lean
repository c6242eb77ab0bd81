/-
  DERIVED. GIVEN WITH THE SEED: THE CARDS: each row of YtodpbobjmkhcfaaGreatDoorRows.lean that lists a variable, with what it lists TIED to the program's text (the seventh form; the later family's looks); each row that meets fmt, with fmt's text TOLD by the authors' own Lean function (tested against real Go, not proved from fmt's source: count such statements apart). THE CARD IS WHAT COUNTS. Prove the row's statement (the work); the ties are given (YtodpbobjmkhcfaaGreatDoorTie.lean); close each card by the builder's one call (the guide's Derived/Test/ToyasCard.lean, 'card_holds'). Laid BY PROGRAM, IN A SANDBOX (cutbox-door.mjs). By AI agents, Wed Nov 11 2026. No macro, syntax, notation, axiom, sorry.
-/
import Derived.Test.YtodpbobjmkhcfaaGreatDoorRows
import GoSem.ClaimSeven
namespace Go.Proofs.YtodpbobjmkhcfaaGreatDoor
namespace Rows

/-- THE TIED CARD OF 'weighbridgelaw23.EnqRefused'. -/
def enqRefusedCard : Claim7 := { stood := { row := enqRefusedRow, standIns := [], harness := (true, "ace34b4ad0f8fd2d9f45fb9119adf3b2476ec344ba2f425e3f4b2edea6eb4d8a"), looks := false }, kinds := [], alts := [], laidByText := true, laidKinds := [.data], laidTests := true, laidLooks := .later }
def EnqRefusedCardSaid : Prop := Claim7.holds Tryz.pinned (.plain (OpenSpec.ofChange enqRefusedSpec)) enqRefusedCard

/-- THE TIED CARD OF 'weighbridgelaw23.EnqAlone'. -/
def enqAloneCard : Claim7 := { stood := { row := enqAloneRow, standIns := [], harness := (true, "ace34b4ad0f8fd2d9f45fb9119adf3b2476ec344ba2f425e3f4b2edea6eb4d8a"), looks := false }, kinds := [], alts := [], laidByText := true, laidKinds := [.data], laidTests := true, laidLooks := .later }
def EnqAloneCardSaid : Prop := Claim7.holds Tryz.pinned (.plain (OpenSpec.ofChange enqAloneSpec)) enqAloneCard

/-- THE TIED CARD OF 'weighbridgelaw23.EnqFull'. -/
def enqFullCard : Claim7 := { stood := { row := enqFullRow, standIns := [], harness := (true, "ace34b4ad0f8fd2d9f45fb9119adf3b2476ec344ba2f425e3f4b2edea6eb4d8a"), looks := false }, kinds := [], alts := [], laidByText := true, laidKinds := [.data], laidTests := true, laidLooks := .later }
def EnqFullCardSaid : Prop := Claim7.holds Tryz.pinned (.plain (OpenSpec.ofChange enqFullSpec)) enqFullCard

/-- THE TIED CARD OF 'weighbridgelaw23.EnqTurns'. -/
def enqTurnsCard : Claim7 := { stood := { row := enqTurnsRow, standIns := [], harness := (true, "ace34b4ad0f8fd2d9f45fb9119adf3b2476ec344ba2f425e3f4b2edea6eb4d8a"), looks := false }, kinds := [], alts := [], laidByText := true, laidKinds := [.data], laidTests := true, laidLooks := .later }
def EnqTurnsCardSaid : Prop := Claim7.holds Tryz.pinned (.plain (OpenSpec.ofChange enqTurnsSpec)) enqTurnsCard

/-- THE TIED CARD OF 'weighbridgelaw23.EnqBlows'. -/
def enqBlowsCard : Claim7 := { stood := { row := enqBlowsRow, standIns := [], harness := (true, "ace34b4ad0f8fd2d9f45fb9119adf3b2476ec344ba2f425e3f4b2edea6eb4d8a"), looks := false }, kinds := [], alts := [], laidByText := true, laidKinds := [.data], laidTests := true, laidLooks := .later }
def EnqBlowsCardSaid : Prop := Claim7.holds Tryz.pinned (.plain (OpenSpec.ofChange enqBlowsSpec)) enqBlowsCard

/-- THE TIED CARD OF 'weighbridgelaw24.RegRefused'. -/
def regRefusedCard : Claim7 := { stood := { row := regRefusedRow, standIns := [], harness := (true, "ace34b4ad0f8fd2d9f45fb9119adf3b2476ec344ba2f425e3f4b2edea6eb4d8a"), looks := false }, kinds := [], alts := [], laidByText := true, laidKinds := [.data], laidTests := true, laidLooks := .later }
def RegRefusedCardSaid : Prop := Claim7.holds Tryz.pinned (.plain (OpenSpec.ofChange regRefusedSpec)) regRefusedCard

/-- THE SECOND FORM's CARD OF 'weighbridgelaw23.EnqRefused'. -/
def enqRefusedUptoCard : Claim7 := { stood := { row := enqRefusedUptoRow, standIns := [], harness := (true, "ace34b4ad0f8fd2d9f45fb9119adf3b2476ec344ba2f425e3f4b2edea6eb4d8a"), looks := false }, kinds := [], alts := [], laidByText := true, laidKinds := [.data], laidTests := true, laidLooks := .later }
def EnqRefusedUptoCardSaid : Prop := Claim7.holds Tryz.pinned (.plain (OpenSpec.upto enqRefusedSpec)) enqRefusedUptoCard

/-- THE SECOND FORM's CARD OF 'weighbridgelaw23.EnqAlone'. -/
def enqAloneUptoCard : Claim7 := { stood := { row := enqAloneUptoRow, standIns := [], harness := (true, "ace34b4ad0f8fd2d9f45fb9119adf3b2476ec344ba2f425e3f4b2edea6eb4d8a"), looks := false }, kinds := [], alts := [], laidByText := true, laidKinds := [.data], laidTests := true, laidLooks := .later }
def EnqAloneUptoCardSaid : Prop := Claim7.holds Tryz.pinned (.plain (OpenSpec.upto enqAloneSpec)) enqAloneUptoCard

/-- THE SECOND FORM's CARD OF 'weighbridgelaw23.EnqFull'. -/
def enqFullUptoCard : Claim7 := { stood := { row := enqFullUptoRow, standIns := [], harness := (true, "ace34b4ad0f8fd2d9f45fb9119adf3b2476ec344ba2f425e3f4b2edea6eb4d8a"), looks := false }, kinds := [], alts := [], laidByText := true, laidKinds := [.data], laidTests := true, laidLooks := .later }
def EnqFullUptoCardSaid : Prop := Claim7.holds Tryz.pinned (.plain (OpenSpec.upto enqFullSpec)) enqFullUptoCard

/-- THE SECOND FORM's CARD OF 'weighbridgelaw23.EnqTurns'. -/
def enqTurnsUptoCard : Claim7 := { stood := { row := enqTurnsUptoRow, standIns := [], harness := (true, "ace34b4ad0f8fd2d9f45fb9119adf3b2476ec344ba2f425e3f4b2edea6eb4d8a"), looks := false }, kinds := [], alts := [], laidByText := true, laidKinds := [.data], laidTests := true, laidLooks := .later }
def EnqTurnsUptoCardSaid : Prop := Claim7.holds Tryz.pinned (.plain (OpenSpec.upto enqTurnsSpec)) enqTurnsUptoCard

/-- THE SECOND FORM's CARD OF 'weighbridgelaw23.EnqBlows'. -/
def enqBlowsUptoCard : Claim7 := { stood := { row := enqBlowsUptoRow, standIns := [], harness := (true, "ace34b4ad0f8fd2d9f45fb9119adf3b2476ec344ba2f425e3f4b2edea6eb4d8a"), looks := false }, kinds := [], alts := [], laidByText := true, laidKinds := [.data], laidTests := true, laidLooks := .later }
def EnqBlowsUptoCardSaid : Prop := Claim7.holds Tryz.pinned (.plain (OpenSpec.upto enqBlowsSpec)) enqBlowsUptoCard

/-- THE SECOND FORM's CARD OF 'weighbridgelaw24.RegRefused'. -/
def regRefusedUptoCard : Claim7 := { stood := { row := regRefusedUptoRow, standIns := [], harness := (true, "ace34b4ad0f8fd2d9f45fb9119adf3b2476ec344ba2f425e3f4b2edea6eb4d8a"), looks := false }, kinds := [], alts := [], laidByText := true, laidKinds := [.data], laidTests := true, laidLooks := .later }
def RegRefusedUptoCardSaid : Prop := Claim7.holds Tryz.pinned (.plain (OpenSpec.upto regRefusedSpec)) regRefusedUptoCard
end Rows
end Go.Proofs.YtodpbobjmkhcfaaGreatDoor
