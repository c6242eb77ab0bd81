/-
  NARROWER THAN 'FOR EVERY INPUT', by the rows' own cells (each row's printed sentence says how): BitsAll: laid · BitsNext: laid · BitsFar: laid · BitsWalk: laid · BitsOne: laid · BitsBuilt: laid.
  DERIVED. THE GIVEN ROWS OF THIS SEAT. 6 by the template 'for every input the law returns true; each argument reads behind the call as it read before'; 0 by the template 'total and deterministic' (their statements: YtofbcaheogfkeaaDoorTotals.lean).
  GIVEN WITH THE SEED: the statements are not yours to turn. If you find one false, say at which input.
  Laid BY PROGRAM, IN A SANDBOX (cutbox-rows.mjs): the forced cells as the released guide's own fill.sh prints them over the translation b4a5610888243917… (all of the seat's roots in one cut). By AI agents, Wed Nov 11 2026. No macro, syntax, notation, axiom, sorry.
-/
import Derived.Test.YtofbcaheogfkeaaDoorChecked
import GoSem.Claim
import GoSem.ClaimJoined
import GoSem.ClaimMapViews
import Derived.JoinedTies
import Derived.KernelRfl
namespace Go.Proofs.YtofbcaheogfkeaaDoor
/- THE CELL 'sum', in the pinned program and in every row, IS THE sha256 OF THE DUMP (.gsa) THAT YtofbcaheogfkeaaDoorProg.lean LOADS. Nothing in Lean hashes anything: it is a label: what it is worth is what the hold of that sum in a sandbox is worth. -/
noncomputable def Tryd.pinned : Pinned := { name := "ytofbcaheogfkeaadoor", sum := "b4a56108882439174e47b382ae285b8b1db363cdf71f4882a13a706d08f70d9a", checked := Tryd.checked }
namespace Rows
def none {H : Type} : Left H := { results := [], args := [] }

/- WHAT THE LISTED PACKAGE-LEVEL VARIABLES READ AS WHEN THE CALL BEGINS. Each datum BY PROGRAM (the guide's laid-datum.mjs) off the statement by which the dump's own 'gosem.cut.vars' lays the variable. In a bare row this is a premise. The card (YtofbcaheogfkeaaDoorCards.lean) ties it to the program's text. -/
def laid_math_bits_deBruijn64tab {H : Type} : DataW H := .agg [.lit (.int .u8 0), .lit (.int .u8 1), .lit (.int .u8 56), .lit (.int .u8 2), .lit (.int .u8 57), .lit (.int .u8 49), .lit (.int .u8 28), .lit (.int .u8 3), .lit (.int .u8 61), .lit (.int .u8 58), .lit (.int .u8 42), .lit (.int .u8 50), .lit (.int .u8 38), .lit (.int .u8 29), .lit (.int .u8 17), .lit (.int .u8 4), .lit (.int .u8 62), .lit (.int .u8 47), .lit (.int .u8 59), .lit (.int .u8 36), .lit (.int .u8 45), .lit (.int .u8 43), .lit (.int .u8 51), .lit (.int .u8 22), .lit (.int .u8 53), .lit (.int .u8 39), .lit (.int .u8 33), .lit (.int .u8 30), .lit (.int .u8 24), .lit (.int .u8 18), .lit (.int .u8 12), .lit (.int .u8 5), .lit (.int .u8 63), .lit (.int .u8 55), .lit (.int .u8 48), .lit (.int .u8 27), .lit (.int .u8 60), .lit (.int .u8 41), .lit (.int .u8 37), .lit (.int .u8 16), .lit (.int .u8 46), .lit (.int .u8 35), .lit (.int .u8 44), .lit (.int .u8 21), .lit (.int .u8 52), .lit (.int .u8 32), .lit (.int .u8 23), .lit (.int .u8 11), .lit (.int .u8 54), .lit (.int .u8 26), .lit (.int .u8 40), .lit (.int .u8 15), .lit (.int .u8 34), .lit (.int .u8 20), .lit (.int .u8 31), .lit (.int .u8 10), .lit (.int .u8 25), .lit (.int .u8 14), .lit (.int .u8 19), .lit (.int .u8 9), .lit (.int .u8 13), .lit (.int .u8 8), .lit (.int .u8 7), .lit (.int .u8 6)]

/-- 'weighbridgelaw03.BitsAll': WHATEVER THE INPUT: true; the input reads as it did. -/
def bitsAllSpec : ChangeSpec := { name := "bitsAll", fn := fun _ => fun
  | [d] => { results := [.lit (.bool true)], args := [d] }
  | _ => none }
def bitsAllRow : OpenClaim := { program := "ytofbcaheogfkeaadoor", sum := "b4a56108882439174e47b382ae285b8b1db363cdf71f4882a13a706d08f70d9a", func := "weighbridge/weighbridgelaw03.BitsAll", spec := "bitsAll", unfollowed := true, recurses := true, named := ["math/bits.deBruijn64tab"], apart := false, laid := [("math/bits.deBruijn64tab", laid_math_bits_deBruijn64tab)] }
def BitsAllSaid : Prop := bitsAllRow.holds Tryd.pinned (OpenSpec.ofChange bitsAllSpec)

/-- ITS FALSE NEIGHBOUR: 'it returns false'. Refute it at one input. -/
def bitsAllWrong : ChangeSpec := { name := "bitsAll", fn := fun _ => fun
  | [d] => { results := [.lit (.bool false)], args := [d] }
  | _ => none }
def BitsAllWrongFalsely : Prop := bitsAllRow.holds Tryd.pinned (OpenSpec.ofChange bitsAllWrong)

/-- 'weighbridgelaw03.BitsNext': WHATEVER THE INPUT: true; the input reads as it did. -/
def bitsNextSpec : ChangeSpec := { name := "bitsNext", fn := fun _ => fun
  | [d1, d2] => { results := [.lit (.bool true)], args := [d1, d2] }
  | _ => none }
def bitsNextRow : OpenClaim := { program := "ytofbcaheogfkeaadoor", sum := "b4a56108882439174e47b382ae285b8b1db363cdf71f4882a13a706d08f70d9a", func := "weighbridge/weighbridgelaw03.BitsNext", spec := "bitsNext", unfollowed := true, recurses := true, named := ["math/bits.deBruijn64tab"], apart := false, laid := [("math/bits.deBruijn64tab", laid_math_bits_deBruijn64tab)] }
def BitsNextSaid : Prop := bitsNextRow.holds Tryd.pinned (OpenSpec.ofChange bitsNextSpec)

/-- ITS FALSE NEIGHBOUR: 'it returns false'. Refute it at one input. -/
def bitsNextWrong : ChangeSpec := { name := "bitsNext", fn := fun _ => fun
  | [d1, d2] => { results := [.lit (.bool false)], args := [d1, d2] }
  | _ => none }
def BitsNextWrongFalsely : Prop := bitsNextRow.holds Tryd.pinned (OpenSpec.ofChange bitsNextWrong)

/-- 'weighbridgelaw03.BitsFar': WHATEVER THE INPUT: true; the input reads as it did. -/
def bitsFarSpec : ChangeSpec := { name := "bitsFar", fn := fun _ => fun
  | [d1, d2] => { results := [.lit (.bool true)], args := [d1, d2] }
  | _ => none }
def bitsFarRow : OpenClaim := { program := "ytofbcaheogfkeaadoor", sum := "b4a56108882439174e47b382ae285b8b1db363cdf71f4882a13a706d08f70d9a", func := "weighbridge/weighbridgelaw03.BitsFar", spec := "bitsFar", unfollowed := true, recurses := true, named := ["math/bits.deBruijn64tab"], apart := false, laid := [("math/bits.deBruijn64tab", laid_math_bits_deBruijn64tab)] }
def BitsFarSaid : Prop := bitsFarRow.holds Tryd.pinned (OpenSpec.ofChange bitsFarSpec)

/-- ITS FALSE NEIGHBOUR: 'it returns false'. Refute it at one input. -/
def bitsFarWrong : ChangeSpec := { name := "bitsFar", fn := fun _ => fun
  | [d1, d2] => { results := [.lit (.bool false)], args := [d1, d2] }
  | _ => none }
def BitsFarWrongFalsely : Prop := bitsFarRow.holds Tryd.pinned (OpenSpec.ofChange bitsFarWrong)

/-- 'weighbridgelaw03.BitsWalk': WHATEVER THE INPUT: true; the input reads as it did. -/
def bitsWalkSpec : ChangeSpec := { name := "bitsWalk", fn := fun _ => fun
  | [d] => { results := [.lit (.bool true)], args := [d] }
  | _ => none }
def bitsWalkRow : OpenClaim := { program := "ytofbcaheogfkeaadoor", sum := "b4a56108882439174e47b382ae285b8b1db363cdf71f4882a13a706d08f70d9a", func := "weighbridge/weighbridgelaw03.BitsWalk", spec := "bitsWalk", unfollowed := true, recurses := true, named := ["math/bits.deBruijn64tab"], apart := false, laid := [("math/bits.deBruijn64tab", laid_math_bits_deBruijn64tab)] }
def BitsWalkSaid : Prop := bitsWalkRow.holds Tryd.pinned (OpenSpec.ofChange bitsWalkSpec)

/-- ITS FALSE NEIGHBOUR: 'it returns false'. Refute it at one input. -/
def bitsWalkWrong : ChangeSpec := { name := "bitsWalk", fn := fun _ => fun
  | [d] => { results := [.lit (.bool false)], args := [d] }
  | _ => none }
def BitsWalkWrongFalsely : Prop := bitsWalkRow.holds Tryd.pinned (OpenSpec.ofChange bitsWalkWrong)

/-- 'weighbridgelaw03.BitsOne': WHATEVER THE INPUT: true; the input reads as it did. -/
def bitsOneSpec : ChangeSpec := { name := "bitsOne", fn := fun _ => fun
  | [d1, d2] => { results := [.lit (.bool true)], args := [d1, d2] }
  | _ => none }
def bitsOneRow : OpenClaim := { program := "ytofbcaheogfkeaadoor", sum := "b4a56108882439174e47b382ae285b8b1db363cdf71f4882a13a706d08f70d9a", func := "weighbridge/weighbridgelaw03.BitsOne", spec := "bitsOne", unfollowed := true, recurses := true, named := ["math/bits.deBruijn64tab"], apart := false, laid := [("math/bits.deBruijn64tab", laid_math_bits_deBruijn64tab)] }
def BitsOneSaid : Prop := bitsOneRow.holds Tryd.pinned (OpenSpec.ofChange bitsOneSpec)

/-- ITS FALSE NEIGHBOUR: 'it returns false'. Refute it at one input. -/
def bitsOneWrong : ChangeSpec := { name := "bitsOne", fn := fun _ => fun
  | [d1, d2] => { results := [.lit (.bool false)], args := [d1, d2] }
  | _ => none }
def BitsOneWrongFalsely : Prop := bitsOneRow.holds Tryd.pinned (OpenSpec.ofChange bitsOneWrong)

/-- 'weighbridgelaw03.BitsBuilt': WHATEVER THE INPUT: true; the input reads as it did. -/
def bitsBuiltSpec : ChangeSpec := { name := "bitsBuilt", fn := fun _ => fun
  | [d] => { results := [.lit (.bool true)], args := [d] }
  | _ => none }
def bitsBuiltRow : OpenClaim := { program := "ytofbcaheogfkeaadoor", sum := "b4a56108882439174e47b382ae285b8b1db363cdf71f4882a13a706d08f70d9a", func := "weighbridge/weighbridgelaw03.BitsBuilt", spec := "bitsBuilt", unfollowed := true, recurses := true, named := ["math/bits.deBruijn64tab"], apart := false, laid := [("math/bits.deBruijn64tab", laid_math_bits_deBruijn64tab)] }
def BitsBuiltSaid : Prop := bitsBuiltRow.holds Tryd.pinned (OpenSpec.ofChange bitsBuiltSpec)

/-- ITS FALSE NEIGHBOUR: 'it returns false'. Refute it at one input. -/
def bitsBuiltWrong : ChangeSpec := { name := "bitsBuilt", fn := fun _ => fun
  | [d] => { results := [.lit (.bool false)], args := [d] }
  | _ => none }
def BitsBuiltWrongFalsely : Prop := bitsBuiltRow.holds Tryd.pinned (OpenSpec.ofChange bitsBuiltWrong)

/- THE SECOND FORM. 'bulk': how many values and letters a reading holds, each counted each time it is reached (what is shared counts as often as it is met; a slice's spare places count too). A statement '..UptoSaid' is the law's where the arguments, and the package variables that the reading takes, are together of bulk at most 1048576: NARROWER than '..Said'. Prove '..Said' where nothing that the law and all that it calls make is longer than what came in: it says more and counts as full. Else prove '..UptoSaid'. A law counts once. -/
mutual
def uptoBulk {H : Type} : DataW H → Nat
  | .lit (.string bytes) => bytes.length + 1
  | .lit _ => 1
  | .nil => 1
  | .ptr d => uptoBulk d + 1
  | .slice elems spare => uptoBulkAll elems + uptoBulkAll spare + 1
  | .agg parts => uptoBulkAll parts + 1
  | .iface _ d => uptoBulk d + 1
  | .map entries => uptoBulkEntries entries + 1
  | .held _ => 1
def uptoBulkAll {H : Type} : List (DataW H) → Nat
  | [] => 0
  | d :: r => uptoBulk d + uptoBulkAll r
def uptoBulkEntries {H : Type} : List (Lit × DataW H) → Nat
  | [] => 0
  | x :: r => uptoBulkEntry x + uptoBulkEntries r
def uptoBulkEntry {H : Type} : Lit × DataW H → Nat
  | (.string bytes, d) => bytes.length + uptoBulk d + 1
  | (_, d) => uptoBulk d + 1
 end
def uptoSmall : (H : Type) → List (DataW H) → Bool := fun _ ds => decide (uptoBulkAll ds ≤ 1048576)
def OpenSpec.upto (s : _root_.Go.ChangeSpec) : _root_.Go.OpenSpec := { _root_.Go.OpenSpec.ofChange s with cond := some uptoSmall }

/-- 'weighbridgelaw03.BitsAll', WHERE WHAT IT READS IS OF BULK AT MOST 1048576: true; the input reads as it did. -/
def bitsAllUptoRow : OpenClaim := { program := "ytofbcaheogfkeaadoor", sum := "b4a56108882439174e47b382ae285b8b1db363cdf71f4882a13a706d08f70d9a", func := "weighbridge/weighbridgelaw03.BitsAll", spec := "bitsAll", unfollowed := true, recurses := true, named := ["math/bits.deBruijn64tab"], apart := false, laid := [("math/bits.deBruijn64tab", laid_math_bits_deBruijn64tab)], narrowed := true }
def BitsAllUptoSaid : Prop := bitsAllUptoRow.holds Tryd.pinned (OpenSpec.upto bitsAllSpec)

/-- 'weighbridgelaw03.BitsNext', WHERE WHAT IT READS IS OF BULK AT MOST 1048576: true; the input reads as it did. -/
def bitsNextUptoRow : OpenClaim := { program := "ytofbcaheogfkeaadoor", sum := "b4a56108882439174e47b382ae285b8b1db363cdf71f4882a13a706d08f70d9a", func := "weighbridge/weighbridgelaw03.BitsNext", spec := "bitsNext", unfollowed := true, recurses := true, named := ["math/bits.deBruijn64tab"], apart := false, laid := [("math/bits.deBruijn64tab", laid_math_bits_deBruijn64tab)], narrowed := true }
def BitsNextUptoSaid : Prop := bitsNextUptoRow.holds Tryd.pinned (OpenSpec.upto bitsNextSpec)

/-- 'weighbridgelaw03.BitsFar', WHERE WHAT IT READS IS OF BULK AT MOST 1048576: true; the input reads as it did. -/
def bitsFarUptoRow : OpenClaim := { program := "ytofbcaheogfkeaadoor", sum := "b4a56108882439174e47b382ae285b8b1db363cdf71f4882a13a706d08f70d9a", func := "weighbridge/weighbridgelaw03.BitsFar", spec := "bitsFar", unfollowed := true, recurses := true, named := ["math/bits.deBruijn64tab"], apart := false, laid := [("math/bits.deBruijn64tab", laid_math_bits_deBruijn64tab)], narrowed := true }
def BitsFarUptoSaid : Prop := bitsFarUptoRow.holds Tryd.pinned (OpenSpec.upto bitsFarSpec)

/-- 'weighbridgelaw03.BitsWalk', WHERE WHAT IT READS IS OF BULK AT MOST 1048576: true; the input reads as it did. -/
def bitsWalkUptoRow : OpenClaim := { program := "ytofbcaheogfkeaadoor", sum := "b4a56108882439174e47b382ae285b8b1db363cdf71f4882a13a706d08f70d9a", func := "weighbridge/weighbridgelaw03.BitsWalk", spec := "bitsWalk", unfollowed := true, recurses := true, named := ["math/bits.deBruijn64tab"], apart := false, laid := [("math/bits.deBruijn64tab", laid_math_bits_deBruijn64tab)], narrowed := true }
def BitsWalkUptoSaid : Prop := bitsWalkUptoRow.holds Tryd.pinned (OpenSpec.upto bitsWalkSpec)

/-- 'weighbridgelaw03.BitsOne', WHERE WHAT IT READS IS OF BULK AT MOST 1048576: true; the input reads as it did. -/
def bitsOneUptoRow : OpenClaim := { program := "ytofbcaheogfkeaadoor", sum := "b4a56108882439174e47b382ae285b8b1db363cdf71f4882a13a706d08f70d9a", func := "weighbridge/weighbridgelaw03.BitsOne", spec := "bitsOne", unfollowed := true, recurses := true, named := ["math/bits.deBruijn64tab"], apart := false, laid := [("math/bits.deBruijn64tab", laid_math_bits_deBruijn64tab)], narrowed := true }
def BitsOneUptoSaid : Prop := bitsOneUptoRow.holds Tryd.pinned (OpenSpec.upto bitsOneSpec)

/-- 'weighbridgelaw03.BitsBuilt', WHERE WHAT IT READS IS OF BULK AT MOST 1048576: true; the input reads as it did. -/
def bitsBuiltUptoRow : OpenClaim := { program := "ytofbcaheogfkeaadoor", sum := "b4a56108882439174e47b382ae285b8b1db363cdf71f4882a13a706d08f70d9a", func := "weighbridge/weighbridgelaw03.BitsBuilt", spec := "bitsBuilt", unfollowed := true, recurses := true, named := ["math/bits.deBruijn64tab"], apart := false, laid := [("math/bits.deBruijn64tab", laid_math_bits_deBruijn64tab)], narrowed := true }
def BitsBuiltUptoSaid : Prop := bitsBuiltUptoRow.holds Tryd.pinned (OpenSpec.upto bitsBuiltSpec)

end Rows
end Go.Proofs.YtofbcaheogfkeaaDoor
