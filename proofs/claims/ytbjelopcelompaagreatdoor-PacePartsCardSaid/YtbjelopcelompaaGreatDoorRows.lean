/-
  NARROWER THAN 'FOR EVERY INPUT', by the rows' own cells (each row's printed sentence says how): PaceParts: laid · PaceBound: laid · PaceEven: laid · PaceTurns: laid · PaceTries: laid · PaceOne: laid.
  DERIVED. THE GIVEN ROWS OF THIS SEAT. 6 by the template 'for every input the law returns true; each argument reads behind the call as it read before'; 0 by the template 'total and deterministic' (their statements: YtbjelopcelompaaGreatDoorTotals.lean).
  GIVEN WITH THE SEED: the statements are not yours to turn. If you find one false, say at which input.
  Laid BY PROGRAM, IN A SANDBOX (cutbox-rows.mjs): the forced cells as the released guide's own fill.sh prints them over the translation 70cc09dee2b57708… (all of the seat's roots in one cut). By AI agents, Wed Nov 11 2026. No macro, syntax, notation, axiom, sorry.
-/
import Derived.Test.YtbjelopcelompaaGreatDoorChecked
import GoSem.Claim
import GoSem.ClaimJoined
import GoSem.ClaimMapViews
import Derived.JoinedTies
import Derived.KernelRfl
namespace Go.Proofs.YtbjelopcelompaaGreatDoor
/- THE CELL 'sum', in the pinned program and in every row, IS THE sha256 OF THE DUMP (.gsa) THAT YtbjelopcelompaaGreatDoorProg.lean LOADS. Nothing in Lean hashes anything: it is a label: what it is worth is what the hold of that sum in a sandbox is worth. -/
noncomputable def Tryz.pinned : Pinned := { name := "ytbjelopcelompaagreatdoor", sum := "70cc09dee2b57708729c8c253129e29239d190bbf8bf3453853204622d612947", checked := Tryz.checked }
namespace Rows
def none {H : Type} : Left H := { results := [], args := [] }

/- WHAT THE LISTED PACKAGE-LEVEL VARIABLES READ AS WHEN THE CALL BEGINS. Each datum BY PROGRAM (the guide's laid-datum.mjs) off the statement by which the dump's own 'gosem.cut.vars' lays the variable. In a bare row this is a premise. The card (YtbjelopcelompaaGreatDoorCards.lean) ties it to the program's text. -/
def laid_math_bits_deBruijn64tab {H : Type} : DataW H := .agg [.lit (.int .u8 0), .lit (.int .u8 1), .lit (.int .u8 56), .lit (.int .u8 2), .lit (.int .u8 57), .lit (.int .u8 49), .lit (.int .u8 28), .lit (.int .u8 3), .lit (.int .u8 61), .lit (.int .u8 58), .lit (.int .u8 42), .lit (.int .u8 50), .lit (.int .u8 38), .lit (.int .u8 29), .lit (.int .u8 17), .lit (.int .u8 4), .lit (.int .u8 62), .lit (.int .u8 47), .lit (.int .u8 59), .lit (.int .u8 36), .lit (.int .u8 45), .lit (.int .u8 43), .lit (.int .u8 51), .lit (.int .u8 22), .lit (.int .u8 53), .lit (.int .u8 39), .lit (.int .u8 33), .lit (.int .u8 30), .lit (.int .u8 24), .lit (.int .u8 18), .lit (.int .u8 12), .lit (.int .u8 5), .lit (.int .u8 63), .lit (.int .u8 55), .lit (.int .u8 48), .lit (.int .u8 27), .lit (.int .u8 60), .lit (.int .u8 41), .lit (.int .u8 37), .lit (.int .u8 16), .lit (.int .u8 46), .lit (.int .u8 35), .lit (.int .u8 44), .lit (.int .u8 21), .lit (.int .u8 52), .lit (.int .u8 32), .lit (.int .u8 23), .lit (.int .u8 11), .lit (.int .u8 54), .lit (.int .u8 26), .lit (.int .u8 40), .lit (.int .u8 15), .lit (.int .u8 34), .lit (.int .u8 20), .lit (.int .u8 31), .lit (.int .u8 10), .lit (.int .u8 25), .lit (.int .u8 14), .lit (.int .u8 19), .lit (.int .u8 9), .lit (.int .u8 13), .lit (.int .u8 8), .lit (.int .u8 7), .lit (.int .u8 6)]

/-- 'weighbridgelaw29.PaceParts': WHATEVER THE INPUT: true; the input reads as it did. -/
def pacePartsSpec : ChangeSpec := { name := "paceParts", fn := fun _ => fun
  | [d1, d2, d3] => { results := [.lit (.bool true)], args := [d1, d2, d3] }
  | _ => none }
def pacePartsRow : OpenClaim := { program := "ytbjelopcelompaagreatdoor", sum := "70cc09dee2b57708729c8c253129e29239d190bbf8bf3453853204622d612947", func := "weighbridge/weighbridgelaw29.PaceParts", spec := "paceParts", inPlace := ["math/bits.Add64"], unfollowed := true, recurses := true, named := ["math/bits.deBruijn64tab"], plainKeys := false, apart := false, laid := [("math/bits.deBruijn64tab", laid_math_bits_deBruijn64tab)] }
def PacePartsSaid : Prop := pacePartsRow.holds Tryz.pinned (OpenSpec.ofChange pacePartsSpec)

/-- ITS FALSE NEIGHBOUR: 'it returns false'. Refute it at one input. -/
def pacePartsWrong : ChangeSpec := { name := "paceParts", fn := fun _ => fun
  | [d1, d2, d3] => { results := [.lit (.bool false)], args := [d1, d2, d3] }
  | _ => none }
def PacePartsWrongFalsely : Prop := pacePartsRow.holds Tryz.pinned (OpenSpec.ofChange pacePartsWrong)

/-- 'weighbridgelaw29.PaceBound': WHATEVER THE INPUT: true; the input reads as it did. -/
def paceBoundSpec : ChangeSpec := { name := "paceBound", fn := fun _ => fun
  | [d1, d2, d3, d4] => { results := [.lit (.bool true)], args := [d1, d2, d3, d4] }
  | _ => none }
def paceBoundRow : OpenClaim := { program := "ytbjelopcelompaagreatdoor", sum := "70cc09dee2b57708729c8c253129e29239d190bbf8bf3453853204622d612947", func := "weighbridge/weighbridgelaw29.PaceBound", spec := "paceBound", inPlace := ["math/bits.Add64"], unfollowed := true, recurses := true, named := ["math/bits.deBruijn64tab"], plainKeys := false, apart := false, laid := [("math/bits.deBruijn64tab", laid_math_bits_deBruijn64tab)] }
def PaceBoundSaid : Prop := paceBoundRow.holds Tryz.pinned (OpenSpec.ofChange paceBoundSpec)

/-- ITS FALSE NEIGHBOUR: 'it returns false'. Refute it at one input. -/
def paceBoundWrong : ChangeSpec := { name := "paceBound", fn := fun _ => fun
  | [d1, d2, d3, d4] => { results := [.lit (.bool false)], args := [d1, d2, d3, d4] }
  | _ => none }
def PaceBoundWrongFalsely : Prop := paceBoundRow.holds Tryz.pinned (OpenSpec.ofChange paceBoundWrong)

/-- 'weighbridgelaw29.PaceEven': WHATEVER THE INPUT: true; the input reads as it did. -/
def paceEvenSpec : ChangeSpec := { name := "paceEven", fn := fun _ => fun
  | [d1, d2, d3, d4] => { results := [.lit (.bool true)], args := [d1, d2, d3, d4] }
  | _ => none }
def paceEvenRow : OpenClaim := { program := "ytbjelopcelompaagreatdoor", sum := "70cc09dee2b57708729c8c253129e29239d190bbf8bf3453853204622d612947", func := "weighbridge/weighbridgelaw29.PaceEven", spec := "paceEven", inPlace := ["math/bits.Add64"], unfollowed := true, recurses := true, named := ["math/bits.deBruijn64tab"], plainKeys := false, apart := false, laid := [("math/bits.deBruijn64tab", laid_math_bits_deBruijn64tab)] }
def PaceEvenSaid : Prop := paceEvenRow.holds Tryz.pinned (OpenSpec.ofChange paceEvenSpec)

/-- ITS FALSE NEIGHBOUR: 'it returns false'. Refute it at one input. -/
def paceEvenWrong : ChangeSpec := { name := "paceEven", fn := fun _ => fun
  | [d1, d2, d3, d4] => { results := [.lit (.bool false)], args := [d1, d2, d3, d4] }
  | _ => none }
def PaceEvenWrongFalsely : Prop := paceEvenRow.holds Tryz.pinned (OpenSpec.ofChange paceEvenWrong)

/-- 'weighbridgelaw29.PaceTurns': WHATEVER THE INPUT: true; the input reads as it did. -/
def paceTurnsSpec : ChangeSpec := { name := "paceTurns", fn := fun _ => fun
  | [d1, d2] => { results := [.lit (.bool true)], args := [d1, d2] }
  | _ => none }
def paceTurnsRow : OpenClaim := { program := "ytbjelopcelompaagreatdoor", sum := "70cc09dee2b57708729c8c253129e29239d190bbf8bf3453853204622d612947", func := "weighbridge/weighbridgelaw29.PaceTurns", spec := "paceTurns", inPlace := ["math/bits.Add64"], unfollowed := true, recurses := true, named := ["math/bits.deBruijn64tab"], plainKeys := false, apart := false, laid := [("math/bits.deBruijn64tab", laid_math_bits_deBruijn64tab)] }
def PaceTurnsSaid : Prop := paceTurnsRow.holds Tryz.pinned (OpenSpec.ofChange paceTurnsSpec)

/-- ITS FALSE NEIGHBOUR: 'it returns false'. Refute it at one input. -/
def paceTurnsWrong : ChangeSpec := { name := "paceTurns", fn := fun _ => fun
  | [d1, d2] => { results := [.lit (.bool false)], args := [d1, d2] }
  | _ => none }
def PaceTurnsWrongFalsely : Prop := paceTurnsRow.holds Tryz.pinned (OpenSpec.ofChange paceTurnsWrong)

/-- 'weighbridgelaw29.PaceTries': WHATEVER THE INPUT: true; the input reads as it did. -/
def paceTriesSpec : ChangeSpec := { name := "paceTries", fn := fun _ => fun
  | [d1, d2] => { results := [.lit (.bool true)], args := [d1, d2] }
  | _ => none }
def paceTriesRow : OpenClaim := { program := "ytbjelopcelompaagreatdoor", sum := "70cc09dee2b57708729c8c253129e29239d190bbf8bf3453853204622d612947", func := "weighbridge/weighbridgelaw29.PaceTries", spec := "paceTries", inPlace := ["math/bits.Add64"], unfollowed := true, recurses := true, named := ["math/bits.deBruijn64tab"], plainKeys := false, apart := false, laid := [("math/bits.deBruijn64tab", laid_math_bits_deBruijn64tab)] }
def PaceTriesSaid : Prop := paceTriesRow.holds Tryz.pinned (OpenSpec.ofChange paceTriesSpec)

/-- ITS FALSE NEIGHBOUR: 'it returns false'. Refute it at one input. -/
def paceTriesWrong : ChangeSpec := { name := "paceTries", fn := fun _ => fun
  | [d1, d2] => { results := [.lit (.bool false)], args := [d1, d2] }
  | _ => none }
def PaceTriesWrongFalsely : Prop := paceTriesRow.holds Tryz.pinned (OpenSpec.ofChange paceTriesWrong)

/-- 'weighbridgelaw29.PaceOne': WHATEVER THE INPUT: true; the input reads as it did. -/
def paceOneSpec : ChangeSpec := { name := "paceOne", fn := fun _ => fun
  | [d1, d2, d3, d4] => { results := [.lit (.bool true)], args := [d1, d2, d3, d4] }
  | _ => none }
def paceOneRow : OpenClaim := { program := "ytbjelopcelompaagreatdoor", sum := "70cc09dee2b57708729c8c253129e29239d190bbf8bf3453853204622d612947", func := "weighbridge/weighbridgelaw29.PaceOne", spec := "paceOne", inPlace := ["math/bits.Add64"], unfollowed := true, recurses := true, named := ["math/bits.deBruijn64tab"], plainKeys := false, apart := false, laid := [("math/bits.deBruijn64tab", laid_math_bits_deBruijn64tab)] }
def PaceOneSaid : Prop := paceOneRow.holds Tryz.pinned (OpenSpec.ofChange paceOneSpec)

/-- ITS FALSE NEIGHBOUR: 'it returns false'. Refute it at one input. -/
def paceOneWrong : ChangeSpec := { name := "paceOne", fn := fun _ => fun
  | [d1, d2, d3, d4] => { results := [.lit (.bool false)], args := [d1, d2, d3, d4] }
  | _ => none }
def PaceOneWrongFalsely : Prop := paceOneRow.holds Tryz.pinned (OpenSpec.ofChange paceOneWrong)

/- THE SECOND FORM. 'bulk': how many values and letters a reading holds, each counted each time it is reached (what is shared counts as often as it is met; a slice's spare places count too). A statement '..UptoSaid' is the law's where the arguments, and the package variables that the reading takes, are together of bulk at most 1048576: NARROWER than '..Said'. Prove '..Said' where nothing that the law and all that it calls make is longer than what came in: it says more and counts as full. Else prove '..UptoSaid'. A law counts once. -/
mutual
def uptoBulk {H : Type} : DataW H → Nat
  | .lit (.string bytes) => bytes.length + 1
  | .lit _ => 1
  | .nil => 1
  | .ptr d => uptoBulk d + 1
  | .slice elems spare => uptoBulkAll elems + uptoBulkAll spare + 1
  | .agg parts => uptoBulkAll parts + 1
  | .iface _ d => uptoBulk d + 1
  | .map entries => uptoBulkEntries entries + 1
  | .held _ => 1
def uptoBulkAll {H : Type} : List (DataW H) → Nat
  | [] => 0
  | d :: r => uptoBulk d + uptoBulkAll r
def uptoBulkEntries {H : Type} : List (Lit × DataW H) → Nat
  | [] => 0
  | x :: r => uptoBulkEntry x + uptoBulkEntries r
def uptoBulkEntry {H : Type} : Lit × DataW H → Nat
  | (.string bytes, d) => bytes.length + uptoBulk d + 1
  | (_, d) => uptoBulk d + 1
 end
def uptoSmall : (H : Type) → List (DataW H) → Bool := fun _ ds => decide (uptoBulkAll ds ≤ 1048576)
def OpenSpec.upto (s : _root_.Go.ChangeSpec) : _root_.Go.OpenSpec := { _root_.Go.OpenSpec.ofChange s with cond := some uptoSmall }

/-- 'weighbridgelaw29.PaceParts', WHERE WHAT IT READS IS OF BULK AT MOST 1048576: true; the input reads as it did. -/
def pacePartsUptoRow : OpenClaim := { program := "ytbjelopcelompaagreatdoor", sum := "70cc09dee2b57708729c8c253129e29239d190bbf8bf3453853204622d612947", func := "weighbridge/weighbridgelaw29.PaceParts", spec := "paceParts", inPlace := ["math/bits.Add64"], unfollowed := true, recurses := true, named := ["math/bits.deBruijn64tab"], plainKeys := false, apart := false, laid := [("math/bits.deBruijn64tab", laid_math_bits_deBruijn64tab)], narrowed := true }
def PacePartsUptoSaid : Prop := pacePartsUptoRow.holds Tryz.pinned (OpenSpec.upto pacePartsSpec)

/-- 'weighbridgelaw29.PaceBound', WHERE WHAT IT READS IS OF BULK AT MOST 1048576: true; the input reads as it did. -/
def paceBoundUptoRow : OpenClaim := { program := "ytbjelopcelompaagreatdoor", sum := "70cc09dee2b57708729c8c253129e29239d190bbf8bf3453853204622d612947", func := "weighbridge/weighbridgelaw29.PaceBound", spec := "paceBound", inPlace := ["math/bits.Add64"], unfollowed := true, recurses := true, named := ["math/bits.deBruijn64tab"], plainKeys := false, apart := false, laid := [("math/bits.deBruijn64tab", laid_math_bits_deBruijn64tab)], narrowed := true }
def PaceBoundUptoSaid : Prop := paceBoundUptoRow.holds Tryz.pinned (OpenSpec.upto paceBoundSpec)

/-- 'weighbridgelaw29.PaceEven', WHERE WHAT IT READS IS OF BULK AT MOST 1048576: true; the input reads as it did. -/
def paceEvenUptoRow : OpenClaim := { program := "ytbjelopcelompaagreatdoor", sum := "70cc09dee2b57708729c8c253129e29239d190bbf8bf3453853204622d612947", func := "weighbridge/weighbridgelaw29.PaceEven", spec := "paceEven", inPlace := ["math/bits.Add64"], unfollowed := true, recurses := true, named := ["math/bits.deBruijn64tab"], plainKeys := false, apart := false, laid := [("math/bits.deBruijn64tab", laid_math_bits_deBruijn64tab)], narrowed := true }
def PaceEvenUptoSaid : Prop := paceEvenUptoRow.holds Tryz.pinned (OpenSpec.upto paceEvenSpec)

/-- 'weighbridgelaw29.PaceTurns', WHERE WHAT IT READS IS OF BULK AT MOST 1048576: true; the input reads as it did. -/
def paceTurnsUptoRow : OpenClaim := { program := "ytbjelopcelompaagreatdoor", sum := "70cc09dee2b57708729c8c253129e29239d190bbf8bf3453853204622d612947", func := "weighbridge/weighbridgelaw29.PaceTurns", spec := "paceTurns", inPlace := ["math/bits.Add64"], unfollowed := true, recurses := true, named := ["math/bits.deBruijn64tab"], plainKeys := false, apart := false, laid := [("math/bits.deBruijn64tab", laid_math_bits_deBruijn64tab)], narrowed := true }
def PaceTurnsUptoSaid : Prop := paceTurnsUptoRow.holds Tryz.pinned (OpenSpec.upto paceTurnsSpec)

/-- 'weighbridgelaw29.PaceTries', WHERE WHAT IT READS IS OF BULK AT MOST 1048576: true; the input reads as it did. -/
def paceTriesUptoRow : OpenClaim := { program := "ytbjelopcelompaagreatdoor", sum := "70cc09dee2b57708729c8c253129e29239d190bbf8bf3453853204622d612947", func := "weighbridge/weighbridgelaw29.PaceTries", spec := "paceTries", inPlace := ["math/bits.Add64"], unfollowed := true, recurses := true, named := ["math/bits.deBruijn64tab"], plainKeys := false, apart := false, laid := [("math/bits.deBruijn64tab", laid_math_bits_deBruijn64tab)], narrowed := true }
def PaceTriesUptoSaid : Prop := paceTriesUptoRow.holds Tryz.pinned (OpenSpec.upto paceTriesSpec)

/-- 'weighbridgelaw29.PaceOne', WHERE WHAT IT READS IS OF BULK AT MOST 1048576: true; the input reads as it did. -/
def paceOneUptoRow : OpenClaim := { program := "ytbjelopcelompaagreatdoor", sum := "70cc09dee2b57708729c8c253129e29239d190bbf8bf3453853204622d612947", func := "weighbridge/weighbridgelaw29.PaceOne", spec := "paceOne", inPlace := ["math/bits.Add64"], unfollowed := true, recurses := true, named := ["math/bits.deBruijn64tab"], plainKeys := false, apart := false, laid := [("math/bits.deBruijn64tab", laid_math_bits_deBruijn64tab)], narrowed := true }
def PaceOneUptoSaid : Prop := paceOneUptoRow.holds Tryz.pinned (OpenSpec.upto paceOneSpec)

end Rows
end Go.Proofs.YtbjelopcelompaaGreatDoor
