/-
  NARROWER THAN 'FOR EVERY INPUT', by the rows' own cells (each row's printed sentence says how): RegModel: laid · RegCosts: laid · EnqModel: laid · RegRaces: laid · EnqRaces: laid · EnqWakes: laid · EnqCells: laid.
  DERIVED. THE GIVEN ROWS OF THIS SEAT. 7 by the template 'for every input the law returns true; each argument reads behind the call as it read before'; 0 by the template 'total and deterministic' (their statements: YtghoamdlcjdfjaaGreatDoorTotals.lean).
  GIVEN WITH THE SEED: the statements are not yours to turn. If you find one false, say at which input.
  Laid BY PROGRAM, IN A SANDBOX (cutbox-rows.mjs): the forced cells as the released guide's own fill.sh prints them over the translation 0f27179918a58180… (all of the seat's roots in one cut). By AI agents, Wed Nov 11 2026. No macro, syntax, notation, axiom, sorry.
-/
import Derived.Test.YtghoamdlcjdfjaaGreatDoorChecked
import GoSem.Claim
import GoSem.ClaimJoined
import GoSem.ClaimMapViews
import Derived.JoinedTies
import Derived.KernelRfl
namespace Go.Proofs.YtghoamdlcjdfjaaGreatDoor
/- THE CELL 'sum', in the pinned program and in every row, IS THE sha256 OF THE DUMP (.gsa) THAT YtghoamdlcjdfjaaGreatDoorProg.lean LOADS. Nothing in Lean hashes anything: it is a label: what it is worth is what the hold of that sum in a sandbox is worth. -/
noncomputable def Tryz.pinned : Pinned := { name := "ytghoamdlcjdfjaagreatdoor", sum := "0f27179918a58180b5b1e0cebd5a0578ece82b21e235352912b0e311b3ca798e", checked := Tryz.checked }
namespace Rows
def none {H : Type} : Left H := { results := [], args := [] }

/- WHAT THE LISTED PACKAGE-LEVEL VARIABLES READ AS WHEN THE CALL BEGINS. Each datum BY PROGRAM (the guide's laid-datum.mjs) off the statement by which the dump's own 'gosem.cut.vars' lays the variable. In a bare row this is a premise. The card (YtghoamdlcjdfjaaGreatDoorCards.lean) ties it to the program's text. -/
def laid_math_bits_deBruijn64tab {H : Type} : DataW H := .agg [.lit (.int .u8 0), .lit (.int .u8 1), .lit (.int .u8 56), .lit (.int .u8 2), .lit (.int .u8 57), .lit (.int .u8 49), .lit (.int .u8 28), .lit (.int .u8 3), .lit (.int .u8 61), .lit (.int .u8 58), .lit (.int .u8 42), .lit (.int .u8 50), .lit (.int .u8 38), .lit (.int .u8 29), .lit (.int .u8 17), .lit (.int .u8 4), .lit (.int .u8 62), .lit (.int .u8 47), .lit (.int .u8 59), .lit (.int .u8 36), .lit (.int .u8 45), .lit (.int .u8 43), .lit (.int .u8 51), .lit (.int .u8 22), .lit (.int .u8 53), .lit (.int .u8 39), .lit (.int .u8 33), .lit (.int .u8 30), .lit (.int .u8 24), .lit (.int .u8 18), .lit (.int .u8 12), .lit (.int .u8 5), .lit (.int .u8 63), .lit (.int .u8 55), .lit (.int .u8 48), .lit (.int .u8 27), .lit (.int .u8 60), .lit (.int .u8 41), .lit (.int .u8 37), .lit (.int .u8 16), .lit (.int .u8 46), .lit (.int .u8 35), .lit (.int .u8 44), .lit (.int .u8 21), .lit (.int .u8 52), .lit (.int .u8 32), .lit (.int .u8 23), .lit (.int .u8 11), .lit (.int .u8 54), .lit (.int .u8 26), .lit (.int .u8 40), .lit (.int .u8 15), .lit (.int .u8 34), .lit (.int .u8 20), .lit (.int .u8 31), .lit (.int .u8 10), .lit (.int .u8 25), .lit (.int .u8 14), .lit (.int .u8 19), .lit (.int .u8 9), .lit (.int .u8 13), .lit (.int .u8 8), .lit (.int .u8 7), .lit (.int .u8 6)]

/-- 'weighbridgelaw24.RegModel': WHATEVER THE INPUT: true; the input reads as it did. -/
def regModelSpec : ChangeSpec := { name := "regModel", fn := fun _ => fun
  | [d1, d2] => { results := [.lit (.bool true)], args := [d1, d2] }
  | _ => none }
def regModelRow : OpenClaim := { program := "ytghoamdlcjdfjaagreatdoor", sum := "0f27179918a58180b5b1e0cebd5a0578ece82b21e235352912b0e311b3ca798e", func := "weighbridge/weighbridgelaw24.RegModel", spec := "regModel", unfollowed := true, recurses := true, named := ["math/bits.deBruijn64tab"], plainKeys := false, apart := false, laid := [("math/bits.deBruijn64tab", laid_math_bits_deBruijn64tab)] }
def RegModelSaid : Prop := regModelRow.holds Tryz.pinned (OpenSpec.ofChange regModelSpec)

/-- ITS FALSE NEIGHBOUR: 'it returns false'. Refute it at one input. -/
def regModelWrong : ChangeSpec := { name := "regModel", fn := fun _ => fun
  | [d1, d2] => { results := [.lit (.bool false)], args := [d1, d2] }
  | _ => none }
def RegModelWrongFalsely : Prop := regModelRow.holds Tryz.pinned (OpenSpec.ofChange regModelWrong)

/-- 'weighbridgelaw24.RegCosts': WHATEVER THE INPUT: true; the input reads as it did. -/
def regCostsSpec : ChangeSpec := { name := "regCosts", fn := fun _ => fun
  | [d1, d2] => { results := [.lit (.bool true)], args := [d1, d2] }
  | _ => none }
def regCostsRow : OpenClaim := { program := "ytghoamdlcjdfjaagreatdoor", sum := "0f27179918a58180b5b1e0cebd5a0578ece82b21e235352912b0e311b3ca798e", func := "weighbridge/weighbridgelaw24.RegCosts", spec := "regCosts", unfollowed := true, recurses := true, named := ["math/bits.deBruijn64tab"], plainKeys := false, apart := false, laid := [("math/bits.deBruijn64tab", laid_math_bits_deBruijn64tab)] }
def RegCostsSaid : Prop := regCostsRow.holds Tryz.pinned (OpenSpec.ofChange regCostsSpec)

/-- ITS FALSE NEIGHBOUR: 'it returns false'. Refute it at one input. -/
def regCostsWrong : ChangeSpec := { name := "regCosts", fn := fun _ => fun
  | [d1, d2] => { results := [.lit (.bool false)], args := [d1, d2] }
  | _ => none }
def RegCostsWrongFalsely : Prop := regCostsRow.holds Tryz.pinned (OpenSpec.ofChange regCostsWrong)

/-- 'weighbridgelaw23.EnqModel': WHATEVER THE INPUT: true; the input reads as it did. -/
def enqModelSpec : ChangeSpec := { name := "enqModel", fn := fun _ => fun
  | [d1, d2] => { results := [.lit (.bool true)], args := [d1, d2] }
  | _ => none }
def enqModelRow : OpenClaim := { program := "ytghoamdlcjdfjaagreatdoor", sum := "0f27179918a58180b5b1e0cebd5a0578ece82b21e235352912b0e311b3ca798e", func := "weighbridge/weighbridgelaw23.EnqModel", spec := "enqModel", unfollowed := true, recurses := true, named := ["math/bits.deBruijn64tab"], plainKeys := false, apart := false, laid := [("math/bits.deBruijn64tab", laid_math_bits_deBruijn64tab)] }
def EnqModelSaid : Prop := enqModelRow.holds Tryz.pinned (OpenSpec.ofChange enqModelSpec)

/-- ITS FALSE NEIGHBOUR: 'it returns false'. Refute it at one input. -/
def enqModelWrong : ChangeSpec := { name := "enqModel", fn := fun _ => fun
  | [d1, d2] => { results := [.lit (.bool false)], args := [d1, d2] }
  | _ => none }
def EnqModelWrongFalsely : Prop := enqModelRow.holds Tryz.pinned (OpenSpec.ofChange enqModelWrong)

/-- 'weighbridgelaw24.RegRaces': WHATEVER THE INPUT: true; the input reads as it did. -/
def regRacesSpec : ChangeSpec := { name := "regRaces", fn := fun _ => fun
  | [d1, d2, d3] => { results := [.lit (.bool true)], args := [d1, d2, d3] }
  | _ => none }
def regRacesRow : OpenClaim := { program := "ytghoamdlcjdfjaagreatdoor", sum := "0f27179918a58180b5b1e0cebd5a0578ece82b21e235352912b0e311b3ca798e", func := "weighbridge/weighbridgelaw24.RegRaces", spec := "regRaces", unfollowed := true, recurses := true, named := ["math/bits.deBruijn64tab"], plainKeys := false, apart := false, laid := [("math/bits.deBruijn64tab", laid_math_bits_deBruijn64tab)] }
def RegRacesSaid : Prop := regRacesRow.holds Tryz.pinned (OpenSpec.ofChange regRacesSpec)

/-- ITS FALSE NEIGHBOUR: 'it returns false'. Refute it at one input. -/
def regRacesWrong : ChangeSpec := { name := "regRaces", fn := fun _ => fun
  | [d1, d2, d3] => { results := [.lit (.bool false)], args := [d1, d2, d3] }
  | _ => none }
def RegRacesWrongFalsely : Prop := regRacesRow.holds Tryz.pinned (OpenSpec.ofChange regRacesWrong)

/-- 'weighbridgelaw23.EnqRaces': WHATEVER THE INPUT: true; the input reads as it did. -/
def enqRacesSpec : ChangeSpec := { name := "enqRaces", fn := fun _ => fun
  | [d1, d2, d3] => { results := [.lit (.bool true)], args := [d1, d2, d3] }
  | _ => none }
def enqRacesRow : OpenClaim := { program := "ytghoamdlcjdfjaagreatdoor", sum := "0f27179918a58180b5b1e0cebd5a0578ece82b21e235352912b0e311b3ca798e", func := "weighbridge/weighbridgelaw23.EnqRaces", spec := "enqRaces", unfollowed := true, recurses := true, named := ["math/bits.deBruijn64tab"], plainKeys := false, apart := false, laid := [("math/bits.deBruijn64tab", laid_math_bits_deBruijn64tab)] }
def EnqRacesSaid : Prop := enqRacesRow.holds Tryz.pinned (OpenSpec.ofChange enqRacesSpec)

/-- ITS FALSE NEIGHBOUR: 'it returns false'. Refute it at one input. -/
def enqRacesWrong : ChangeSpec := { name := "enqRaces", fn := fun _ => fun
  | [d1, d2, d3] => { results := [.lit (.bool false)], args := [d1, d2, d3] }
  | _ => none }
def EnqRacesWrongFalsely : Prop := enqRacesRow.holds Tryz.pinned (OpenSpec.ofChange enqRacesWrong)

/-- 'weighbridgelaw23.EnqWakes': WHATEVER THE INPUT: true; the input reads as it did. -/
def enqWakesSpec : ChangeSpec := { name := "enqWakes", fn := fun _ => fun
  | [d1, d2, d3] => { results := [.lit (.bool true)], args := [d1, d2, d3] }
  | _ => none }
def enqWakesRow : OpenClaim := { program := "ytghoamdlcjdfjaagreatdoor", sum := "0f27179918a58180b5b1e0cebd5a0578ece82b21e235352912b0e311b3ca798e", func := "weighbridge/weighbridgelaw23.EnqWakes", spec := "enqWakes", unfollowed := true, recurses := true, named := ["math/bits.deBruijn64tab"], plainKeys := false, apart := false, laid := [("math/bits.deBruijn64tab", laid_math_bits_deBruijn64tab)] }
def EnqWakesSaid : Prop := enqWakesRow.holds Tryz.pinned (OpenSpec.ofChange enqWakesSpec)

/-- ITS FALSE NEIGHBOUR: 'it returns false'. Refute it at one input. -/
def enqWakesWrong : ChangeSpec := { name := "enqWakes", fn := fun _ => fun
  | [d1, d2, d3] => { results := [.lit (.bool false)], args := [d1, d2, d3] }
  | _ => none }
def EnqWakesWrongFalsely : Prop := enqWakesRow.holds Tryz.pinned (OpenSpec.ofChange enqWakesWrong)

/-- 'weighbridgelaw23.EnqCells': WHATEVER THE INPUT: true; the input reads as it did. -/
def enqCellsSpec : ChangeSpec := { name := "enqCells", fn := fun _ => fun
  | [d1, d2, d3] => { results := [.lit (.bool true)], args := [d1, d2, d3] }
  | _ => none }
def enqCellsRow : OpenClaim := { program := "ytghoamdlcjdfjaagreatdoor", sum := "0f27179918a58180b5b1e0cebd5a0578ece82b21e235352912b0e311b3ca798e", func := "weighbridge/weighbridgelaw23.EnqCells", spec := "enqCells", unfollowed := true, recurses := true, named := ["math/bits.deBruijn64tab"], plainKeys := false, apart := false, laid := [("math/bits.deBruijn64tab", laid_math_bits_deBruijn64tab)] }
def EnqCellsSaid : Prop := enqCellsRow.holds Tryz.pinned (OpenSpec.ofChange enqCellsSpec)

/-- ITS FALSE NEIGHBOUR: 'it returns false'. Refute it at one input. -/
def enqCellsWrong : ChangeSpec := { name := "enqCells", fn := fun _ => fun
  | [d1, d2, d3] => { results := [.lit (.bool false)], args := [d1, d2, d3] }
  | _ => none }
def EnqCellsWrongFalsely : Prop := enqCellsRow.holds Tryz.pinned (OpenSpec.ofChange enqCellsWrong)

/- THE SECOND FORM. 'bulk': how many values and letters a reading holds, each counted each time it is reached (what is shared counts as often as it is met; a slice's spare places count too). A statement '..UptoSaid' is the law's where the arguments, and the package variables that the reading takes, are together of bulk at most 1048576: NARROWER than '..Said'. Prove '..Said' where nothing that the law and all that it calls make is longer than what came in: it says more and counts as full. Else prove '..UptoSaid'. A law counts once. -/
mutual
def uptoBulk {H : Type} : DataW H → Nat
  | .lit (.string bytes) => bytes.length + 1
  | .lit _ => 1
  | .nil => 1
  | .ptr d => uptoBulk d + 1
  | .slice elems spare => uptoBulkAll elems + uptoBulkAll spare + 1
  | .agg parts => uptoBulkAll parts + 1
  | .iface _ d => uptoBulk d + 1
  | .map entries => uptoBulkEntries entries + 1
  | .held _ => 1
def uptoBulkAll {H : Type} : List (DataW H) → Nat
  | [] => 0
  | d :: r => uptoBulk d + uptoBulkAll r
def uptoBulkEntries {H : Type} : List (Lit × DataW H) → Nat
  | [] => 0
  | x :: r => uptoBulkEntry x + uptoBulkEntries r
def uptoBulkEntry {H : Type} : Lit × DataW H → Nat
  | (.string bytes, d) => bytes.length + uptoBulk d + 1
  | (_, d) => uptoBulk d + 1
 end
def uptoSmall : (H : Type) → List (DataW H) → Bool := fun _ ds => decide (uptoBulkAll ds ≤ 1048576)
def OpenSpec.upto (s : _root_.Go.ChangeSpec) : _root_.Go.OpenSpec := { _root_.Go.OpenSpec.ofChange s with cond := some uptoSmall }

/-- 'weighbridgelaw24.RegModel', WHERE WHAT IT READS IS OF BULK AT MOST 1048576: true; the input reads as it did. -/
def regModelUptoRow : OpenClaim := { program := "ytghoamdlcjdfjaagreatdoor", sum := "0f27179918a58180b5b1e0cebd5a0578ece82b21e235352912b0e311b3ca798e", func := "weighbridge/weighbridgelaw24.RegModel", spec := "regModel", unfollowed := true, recurses := true, named := ["math/bits.deBruijn64tab"], plainKeys := false, apart := false, laid := [("math/bits.deBruijn64tab", laid_math_bits_deBruijn64tab)], narrowed := true }
def RegModelUptoSaid : Prop := regModelUptoRow.holds Tryz.pinned (OpenSpec.upto regModelSpec)

/-- 'weighbridgelaw24.RegCosts', WHERE WHAT IT READS IS OF BULK AT MOST 1048576: true; the input reads as it did. -/
def regCostsUptoRow : OpenClaim := { program := "ytghoamdlcjdfjaagreatdoor", sum := "0f27179918a58180b5b1e0cebd5a0578ece82b21e235352912b0e311b3ca798e", func := "weighbridge/weighbridgelaw24.RegCosts", spec := "regCosts", unfollowed := true, recurses := true, named := ["math/bits.deBruijn64tab"], plainKeys := false, apart := false, laid := [("math/bits.deBruijn64tab", laid_math_bits_deBruijn64tab)], narrowed := true }
def RegCostsUptoSaid : Prop := regCostsUptoRow.holds Tryz.pinned (OpenSpec.upto regCostsSpec)

/-- 'weighbridgelaw23.EnqModel', WHERE WHAT IT READS IS OF BULK AT MOST 1048576: true; the input reads as it did. -/
def enqModelUptoRow : OpenClaim := { program := "ytghoamdlcjdfjaagreatdoor", sum := "0f27179918a58180b5b1e0cebd5a0578ece82b21e235352912b0e311b3ca798e", func := "weighbridge/weighbridgelaw23.EnqModel", spec := "enqModel", unfollowed := true, recurses := true, named := ["math/bits.deBruijn64tab"], plainKeys := false, apart := false, laid := [("math/bits.deBruijn64tab", laid_math_bits_deBruijn64tab)], narrowed := true }
def EnqModelUptoSaid : Prop := enqModelUptoRow.holds Tryz.pinned (OpenSpec.upto enqModelSpec)

/-- 'weighbridgelaw24.RegRaces', WHERE WHAT IT READS IS OF BULK AT MOST 1048576: true; the input reads as it did. -/
def regRacesUptoRow : OpenClaim := { program := "ytghoamdlcjdfjaagreatdoor", sum := "0f27179918a58180b5b1e0cebd5a0578ece82b21e235352912b0e311b3ca798e", func := "weighbridge/weighbridgelaw24.RegRaces", spec := "regRaces", unfollowed := true, recurses := true, named := ["math/bits.deBruijn64tab"], plainKeys := false, apart := false, laid := [("math/bits.deBruijn64tab", laid_math_bits_deBruijn64tab)], narrowed := true }
def RegRacesUptoSaid : Prop := regRacesUptoRow.holds Tryz.pinned (OpenSpec.upto regRacesSpec)

/-- 'weighbridgelaw23.EnqRaces', WHERE WHAT IT READS IS OF BULK AT MOST 1048576: true; the input reads as it did. -/
def enqRacesUptoRow : OpenClaim := { program := "ytghoamdlcjdfjaagreatdoor", sum := "0f27179918a58180b5b1e0cebd5a0578ece82b21e235352912b0e311b3ca798e", func := "weighbridge/weighbridgelaw23.EnqRaces", spec := "enqRaces", unfollowed := true, recurses := true, named := ["math/bits.deBruijn64tab"], plainKeys := false, apart := false, laid := [("math/bits.deBruijn64tab", laid_math_bits_deBruijn64tab)], narrowed := true }
def EnqRacesUptoSaid : Prop := enqRacesUptoRow.holds Tryz.pinned (OpenSpec.upto enqRacesSpec)

/-- 'weighbridgelaw23.EnqWakes', WHERE WHAT IT READS IS OF BULK AT MOST 1048576: true; the input reads as it did. -/
def enqWakesUptoRow : OpenClaim := { program := "ytghoamdlcjdfjaagreatdoor", sum := "0f27179918a58180b5b1e0cebd5a0578ece82b21e235352912b0e311b3ca798e", func := "weighbridge/weighbridgelaw23.EnqWakes", spec := "enqWakes", unfollowed := true, recurses := true, named := ["math/bits.deBruijn64tab"], plainKeys := false, apart := false, laid := [("math/bits.deBruijn64tab", laid_math_bits_deBruijn64tab)], narrowed := true }
def EnqWakesUptoSaid : Prop := enqWakesUptoRow.holds Tryz.pinned (OpenSpec.upto enqWakesSpec)

/-- 'weighbridgelaw23.EnqCells', WHERE WHAT IT READS IS OF BULK AT MOST 1048576: true; the input reads as it did. -/
def enqCellsUptoRow : OpenClaim := { program := "ytghoamdlcjdfjaagreatdoor", sum := "0f27179918a58180b5b1e0cebd5a0578ece82b21e235352912b0e311b3ca798e", func := "weighbridge/weighbridgelaw23.EnqCells", spec := "enqCells", unfollowed := true, recurses := true, named := ["math/bits.deBruijn64tab"], plainKeys := false, apart := false, laid := [("math/bits.deBruijn64tab", laid_math_bits_deBruijn64tab)], narrowed := true }
def EnqCellsUptoSaid : Prop := enqCellsUptoRow.holds Tryz.pinned (OpenSpec.upto enqCellsSpec)

end Rows
end Go.Proofs.YtghoamdlcjdfjaaGreatDoor
