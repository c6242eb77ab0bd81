/-
  DERIVED. GIVEN WITH THE SEED: THE CARDS: each row of YtofbcaheogfkeaaDoorRows.lean that lists a variable, with what it lists TIED to the program's text (the seventh form; the later family's looks); each row that meets fmt, with fmt's text TOLD by the authors' own Lean function (tested against real Go, not proved from fmt's source: count such statements apart). THE CARD IS WHAT COUNTS. Prove the row's statement (the work); the ties are given (YtofbcaheogfkeaaDoorTie.lean); close each card by the builder's one call (the guide's Derived/Test/ToyasCard.lean, 'card_holds'). Laid BY PROGRAM, IN A SANDBOX (cutbox-door.mjs). By AI agents, Wed Nov 11 2026. No macro, syntax, notation, axiom, sorry.
-/
import Derived.Test.YtofbcaheogfkeaaDoorRows
import GoSem.ClaimSeven
namespace Go.Proofs.YtofbcaheogfkeaaDoor
namespace Rows

/-- THE TIED CARD OF 'weighbridgelaw03.BitsAll'. -/
def bitsAllCard : Claim7 := { stood := { row := bitsAllRow, standIns := [], harness := (true, "5424c6ee3792d49f513075539d679cb594da5e22d5a69daac76e04a569e00dc3"), looks := false }, kinds := [], alts := [], laidByText := true, laidKinds := [.data], laidTests := true, laidLooks := .later }
def BitsAllCardSaid : Prop := Claim7.holds Tryd.pinned (.plain (OpenSpec.ofChange bitsAllSpec)) bitsAllCard

/-- THE TIED CARD OF 'weighbridgelaw03.BitsNext'. -/
def bitsNextCard : Claim7 := { stood := { row := bitsNextRow, standIns := [], harness := (true, "5424c6ee3792d49f513075539d679cb594da5e22d5a69daac76e04a569e00dc3"), looks := false }, kinds := [], alts := [], laidByText := true, laidKinds := [.data], laidTests := true, laidLooks := .later }
def BitsNextCardSaid : Prop := Claim7.holds Tryd.pinned (.plain (OpenSpec.ofChange bitsNextSpec)) bitsNextCard

/-- THE TIED CARD OF 'weighbridgelaw03.BitsFar'. -/
def bitsFarCard : Claim7 := { stood := { row := bitsFarRow, standIns := [], harness := (true, "5424c6ee3792d49f513075539d679cb594da5e22d5a69daac76e04a569e00dc3"), looks := false }, kinds := [], alts := [], laidByText := true, laidKinds := [.data], laidTests := true, laidLooks := .later }
def BitsFarCardSaid : Prop := Claim7.holds Tryd.pinned (.plain (OpenSpec.ofChange bitsFarSpec)) bitsFarCard

/-- THE TIED CARD OF 'weighbridgelaw03.BitsWalk'. -/
def bitsWalkCard : Claim7 := { stood := { row := bitsWalkRow, standIns := [], harness := (true, "5424c6ee3792d49f513075539d679cb594da5e22d5a69daac76e04a569e00dc3"), looks := false }, kinds := [], alts := [], laidByText := true, laidKinds := [.data], laidTests := true, laidLooks := .later }
def BitsWalkCardSaid : Prop := Claim7.holds Tryd.pinned (.plain (OpenSpec.ofChange bitsWalkSpec)) bitsWalkCard

/-- THE TIED CARD OF 'weighbridgelaw03.BitsOne'. -/
def bitsOneCard : Claim7 := { stood := { row := bitsOneRow, standIns := [], harness := (true, "5424c6ee3792d49f513075539d679cb594da5e22d5a69daac76e04a569e00dc3"), looks := false }, kinds := [], alts := [], laidByText := true, laidKinds := [.data], laidTests := true, laidLooks := .later }
def BitsOneCardSaid : Prop := Claim7.holds Tryd.pinned (.plain (OpenSpec.ofChange bitsOneSpec)) bitsOneCard

/-- THE TIED CARD OF 'weighbridgelaw03.BitsBuilt'. -/
def bitsBuiltCard : Claim7 := { stood := { row := bitsBuiltRow, standIns := [], harness := (true, "5424c6ee3792d49f513075539d679cb594da5e22d5a69daac76e04a569e00dc3"), looks := false }, kinds := [], alts := [], laidByText := true, laidKinds := [.data], laidTests := true, laidLooks := .later }
def BitsBuiltCardSaid : Prop := Claim7.holds Tryd.pinned (.plain (OpenSpec.ofChange bitsBuiltSpec)) bitsBuiltCard

/-- THE SECOND FORM's CARD OF 'weighbridgelaw03.BitsAll'. -/
def bitsAllUptoCard : Claim7 := { stood := { row := bitsAllUptoRow, standIns := [], harness := (true, "5424c6ee3792d49f513075539d679cb594da5e22d5a69daac76e04a569e00dc3"), looks := false }, kinds := [], alts := [], laidByText := true, laidKinds := [.data], laidTests := true, laidLooks := .later }
def BitsAllUptoCardSaid : Prop := Claim7.holds Tryd.pinned (.plain (OpenSpec.upto bitsAllSpec)) bitsAllUptoCard

/-- THE SECOND FORM's CARD OF 'weighbridgelaw03.BitsNext'. -/
def bitsNextUptoCard : Claim7 := { stood := { row := bitsNextUptoRow, standIns := [], harness := (true, "5424c6ee3792d49f513075539d679cb594da5e22d5a69daac76e04a569e00dc3"), looks := false }, kinds := [], alts := [], laidByText := true, laidKinds := [.data], laidTests := true, laidLooks := .later }
def BitsNextUptoCardSaid : Prop := Claim7.holds Tryd.pinned (.plain (OpenSpec.upto bitsNextSpec)) bitsNextUptoCard

/-- THE SECOND FORM's CARD OF 'weighbridgelaw03.BitsFar'. -/
def bitsFarUptoCard : Claim7 := { stood := { row := bitsFarUptoRow, standIns := [], harness := (true, "5424c6ee3792d49f513075539d679cb594da5e22d5a69daac76e04a569e00dc3"), looks := false }, kinds := [], alts := [], laidByText := true, laidKinds := [.data], laidTests := true, laidLooks := .later }
def BitsFarUptoCardSaid : Prop := Claim7.holds Tryd.pinned (.plain (OpenSpec.upto bitsFarSpec)) bitsFarUptoCard

/-- THE SECOND FORM's CARD OF 'weighbridgelaw03.BitsWalk'. -/
def bitsWalkUptoCard : Claim7 := { stood := { row := bitsWalkUptoRow, standIns := [], harness := (true, "5424c6ee3792d49f513075539d679cb594da5e22d5a69daac76e04a569e00dc3"), looks := false }, kinds := [], alts := [], laidByText := true, laidKinds := [.data], laidTests := true, laidLooks := .later }
def BitsWalkUptoCardSaid : Prop := Claim7.holds Tryd.pinned (.plain (OpenSpec.upto bitsWalkSpec)) bitsWalkUptoCard

/-- THE SECOND FORM's CARD OF 'weighbridgelaw03.BitsOne'. -/
def bitsOneUptoCard : Claim7 := { stood := { row := bitsOneUptoRow, standIns := [], harness := (true, "5424c6ee3792d49f513075539d679cb594da5e22d5a69daac76e04a569e00dc3"), looks := false }, kinds := [], alts := [], laidByText := true, laidKinds := [.data], laidTests := true, laidLooks := .later }
def BitsOneUptoCardSaid : Prop := Claim7.holds Tryd.pinned (.plain (OpenSpec.upto bitsOneSpec)) bitsOneUptoCard

/-- THE SECOND FORM's CARD OF 'weighbridgelaw03.BitsBuilt'. -/
def bitsBuiltUptoCard : Claim7 := { stood := { row := bitsBuiltUptoRow, standIns := [], harness := (true, "5424c6ee3792d49f513075539d679cb594da5e22d5a69daac76e04a569e00dc3"), looks := false }, kinds := [], alts := [], laidByText := true, laidKinds := [.data], laidTests := true, laidLooks := .later }
def BitsBuiltUptoCardSaid : Prop := Claim7.holds Tryd.pinned (.plain (OpenSpec.upto bitsBuiltSpec)) bitsBuiltUptoCard
end Rows
end Go.Proofs.YtofbcaheogfkeaaDoor
