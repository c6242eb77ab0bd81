/-
  NARROWER THAN 'FOR EVERY INPUT', by the rows' own cells (each row's printed sentence says how): EnqRefused: laid · EnqAlone: laid · EnqFull: laid · EnqTurns: laid · EnqBlows: laid · RegRefused: laid.
  DERIVED. THE GIVEN ROWS OF THIS SEAT. 6 by the template 'for every input the law returns true; each argument reads behind the call as it read before'; 0 by the template 'total and deterministic' (their statements: YtodpbobjmkhcfaaGreatDoorTotals.lean).
  GIVEN WITH THE SEED: the statements are not yours to turn. If you find one false, say at which input.
  Laid BY PROGRAM, IN A SANDBOX (cutbox-rows.mjs): the forced cells as the released guide's own fill.sh prints them over the translation 22233bdb4d6a9ceb… (all of the seat's roots in one cut). By AI agents, Wed Nov 11 2026. No macro, syntax, notation, axiom, sorry.
-/
import Derived.Test.YtodpbobjmkhcfaaGreatDoorChecked
import GoSem.Claim
import GoSem.ClaimJoined
import GoSem.ClaimMapViews
import Derived.JoinedTies
import Derived.KernelRfl
namespace Go.Proofs.YtodpbobjmkhcfaaGreatDoor
/- THE CELL 'sum', in the pinned program and in every row, IS THE sha256 OF THE DUMP (.gsa) THAT YtodpbobjmkhcfaaGreatDoorProg.lean LOADS. Nothing in Lean hashes anything: it is a label: what it is worth is what the hold of that sum in a sandbox is worth. -/
noncomputable def Tryz.pinned : Pinned := { name := "ytodpbobjmkhcfaagreatdoor", sum := "22233bdb4d6a9ceb7a23269db096cad72eefd5366682d485dd2dcec8759bb3a0", checked := Tryz.checked }
namespace Rows
def none {H : Type} : Left H := { results := [], args := [] }

/- WHAT THE LISTED PACKAGE-LEVEL VARIABLES READ AS WHEN THE CALL BEGINS. Each datum BY PROGRAM (the guide's laid-datum.mjs) off the statement by which the dump's own 'gosem.cut.vars' lays the variable. In a bare row this is a premise. The card (YtodpbobjmkhcfaaGreatDoorCards.lean) ties it to the program's text. -/
def laid_math_bits_deBruijn64tab {H : Type} : DataW H := .agg [.lit (.int .u8 0), .lit (.int .u8 1), .lit (.int .u8 56), .lit (.int .u8 2), .lit (.int .u8 57), .lit (.int .u8 49), .lit (.int .u8 28), .lit (.int .u8 3), .lit (.int .u8 61), .lit (.int .u8 58), .lit (.int .u8 42), .lit (.int .u8 50), .lit (.int .u8 38), .lit (.int .u8 29), .lit (.int .u8 17), .lit (.int .u8 4), .lit (.int .u8 62), .lit (.int .u8 47), .lit (.int .u8 59), .lit (.int .u8 36), .lit (.int .u8 45), .lit (.int .u8 43), .lit (.int .u8 51), .lit (.int .u8 22), .lit (.int .u8 53), .lit (.int .u8 39), .lit (.int .u8 33), .lit (.int .u8 30), .lit (.int .u8 24), .lit (.int .u8 18), .lit (.int .u8 12), .lit (.int .u8 5), .lit (.int .u8 63), .lit (.int .u8 55), .lit (.int .u8 48), .lit (.int .u8 27), .lit (.int .u8 60), .lit (.int .u8 41), .lit (.int .u8 37), .lit (.int .u8 16), .lit (.int .u8 46), .lit (.int .u8 35), .lit (.int .u8 44), .lit (.int .u8 21), .lit (.int .u8 52), .lit (.int .u8 32), .lit (.int .u8 23), .lit (.int .u8 11), .lit (.int .u8 54), .lit (.int .u8 26), .lit (.int .u8 40), .lit (.int .u8 15), .lit (.int .u8 34), .lit (.int .u8 20), .lit (.int .u8 31), .lit (.int .u8 10), .lit (.int .u8 25), .lit (.int .u8 14), .lit (.int .u8 19), .lit (.int .u8 9), .lit (.int .u8 13), .lit (.int .u8 8), .lit (.int .u8 7), .lit (.int .u8 6)]

/-- 'weighbridgelaw23.EnqRefused': WHATEVER THE INPUT: true; the input reads as it did. -/
def enqRefusedSpec : ChangeSpec := { name := "enqRefused", fn := fun _ => fun
  | [d1, d2, d3, d4, d5] => { results := [.lit (.bool true)], args := [d1, d2, d3, d4, d5] }
  | _ => none }
def enqRefusedRow : OpenClaim := { program := "ytodpbobjmkhcfaagreatdoor", sum := "22233bdb4d6a9ceb7a23269db096cad72eefd5366682d485dd2dcec8759bb3a0", func := "weighbridge/weighbridgelaw23.EnqRefused", spec := "enqRefused", unfollowed := true, recurses := true, named := ["math/bits.deBruijn64tab"], plainKeys := false, apart := false, laid := [("math/bits.deBruijn64tab", laid_math_bits_deBruijn64tab)] }
def EnqRefusedSaid : Prop := enqRefusedRow.holds Tryz.pinned (OpenSpec.ofChange enqRefusedSpec)

/-- ITS FALSE NEIGHBOUR: 'it returns false'. Refute it at one input. -/
def enqRefusedWrong : ChangeSpec := { name := "enqRefused", fn := fun _ => fun
  | [d1, d2, d3, d4, d5] => { results := [.lit (.bool false)], args := [d1, d2, d3, d4, d5] }
  | _ => none }
def EnqRefusedWrongFalsely : Prop := enqRefusedRow.holds Tryz.pinned (OpenSpec.ofChange enqRefusedWrong)

/-- 'weighbridgelaw23.EnqAlone': WHATEVER THE INPUT: true; the input reads as it did. -/
def enqAloneSpec : ChangeSpec := { name := "enqAlone", fn := fun _ => fun
  | [d1, d2] => { results := [.lit (.bool true)], args := [d1, d2] }
  | _ => none }
def enqAloneRow : OpenClaim := { program := "ytodpbobjmkhcfaagreatdoor", sum := "22233bdb4d6a9ceb7a23269db096cad72eefd5366682d485dd2dcec8759bb3a0", func := "weighbridge/weighbridgelaw23.EnqAlone", spec := "enqAlone", unfollowed := true, recurses := true, named := ["math/bits.deBruijn64tab"], plainKeys := false, apart := false, laid := [("math/bits.deBruijn64tab", laid_math_bits_deBruijn64tab)] }
def EnqAloneSaid : Prop := enqAloneRow.holds Tryz.pinned (OpenSpec.ofChange enqAloneSpec)

/-- ITS FALSE NEIGHBOUR: 'it returns false'. Refute it at one input. -/
def enqAloneWrong : ChangeSpec := { name := "enqAlone", fn := fun _ => fun
  | [d1, d2] => { results := [.lit (.bool false)], args := [d1, d2] }
  | _ => none }
def EnqAloneWrongFalsely : Prop := enqAloneRow.holds Tryz.pinned (OpenSpec.ofChange enqAloneWrong)

/-- 'weighbridgelaw23.EnqFull': WHATEVER THE INPUT: true; the input reads as it did. -/
def enqFullSpec : ChangeSpec := { name := "enqFull", fn := fun _ => fun
  | [d1, d2, d3, d4] => { results := [.lit (.bool true)], args := [d1, d2, d3, d4] }
  | _ => none }
def enqFullRow : OpenClaim := { program := "ytodpbobjmkhcfaagreatdoor", sum := "22233bdb4d6a9ceb7a23269db096cad72eefd5366682d485dd2dcec8759bb3a0", func := "weighbridge/weighbridgelaw23.EnqFull", spec := "enqFull", unfollowed := true, recurses := true, named := ["math/bits.deBruijn64tab"], plainKeys := false, apart := false, laid := [("math/bits.deBruijn64tab", laid_math_bits_deBruijn64tab)] }
def EnqFullSaid : Prop := enqFullRow.holds Tryz.pinned (OpenSpec.ofChange enqFullSpec)

/-- ITS FALSE NEIGHBOUR: 'it returns false'. Refute it at one input. -/
def enqFullWrong : ChangeSpec := { name := "enqFull", fn := fun _ => fun
  | [d1, d2, d3, d4] => { results := [.lit (.bool false)], args := [d1, d2, d3, d4] }
  | _ => none }
def EnqFullWrongFalsely : Prop := enqFullRow.holds Tryz.pinned (OpenSpec.ofChange enqFullWrong)

/-- 'weighbridgelaw23.EnqTurns': WHATEVER THE INPUT: true; the input reads as it did. -/
def enqTurnsSpec : ChangeSpec := { name := "enqTurns", fn := fun _ => fun
  | [d1, d2, d3] => { results := [.lit (.bool true)], args := [d1, d2, d3] }
  | _ => none }
def enqTurnsRow : OpenClaim := { program := "ytodpbobjmkhcfaagreatdoor", sum := "22233bdb4d6a9ceb7a23269db096cad72eefd5366682d485dd2dcec8759bb3a0", func := "weighbridge/weighbridgelaw23.EnqTurns", spec := "enqTurns", unfollowed := true, recurses := true, named := ["math/bits.deBruijn64tab"], plainKeys := false, apart := false, laid := [("math/bits.deBruijn64tab", laid_math_bits_deBruijn64tab)] }
def EnqTurnsSaid : Prop := enqTurnsRow.holds Tryz.pinned (OpenSpec.ofChange enqTurnsSpec)

/-- ITS FALSE NEIGHBOUR: 'it returns false'. Refute it at one input. -/
def enqTurnsWrong : ChangeSpec := { name := "enqTurns", fn := fun _ => fun
  | [d1, d2, d3] => { results := [.lit (.bool false)], args := [d1, d2, d3] }
  | _ => none }
def EnqTurnsWrongFalsely : Prop := enqTurnsRow.holds Tryz.pinned (OpenSpec.ofChange enqTurnsWrong)

/-- 'weighbridgelaw23.EnqBlows': WHATEVER THE INPUT: true; the input reads as it did. -/
def enqBlowsSpec : ChangeSpec := { name := "enqBlows", fn := fun _ => fun
  | [d1, d2, d3, d4] => { results := [.lit (.bool true)], args := [d1, d2, d3, d4] }
  | _ => none }
def enqBlowsRow : OpenClaim := { program := "ytodpbobjmkhcfaagreatdoor", sum := "22233bdb4d6a9ceb7a23269db096cad72eefd5366682d485dd2dcec8759bb3a0", func := "weighbridge/weighbridgelaw23.EnqBlows", spec := "enqBlows", unfollowed := true, recurses := true, named := ["math/bits.deBruijn64tab"], plainKeys := false, apart := false, laid := [("math/bits.deBruijn64tab", laid_math_bits_deBruijn64tab)] }
def EnqBlowsSaid : Prop := enqBlowsRow.holds Tryz.pinned (OpenSpec.ofChange enqBlowsSpec)

/-- ITS FALSE NEIGHBOUR: 'it returns false'. Refute it at one input. -/
def enqBlowsWrong : ChangeSpec := { name := "enqBlows", fn := fun _ => fun
  | [d1, d2, d3, d4] => { results := [.lit (.bool false)], args := [d1, d2, d3, d4] }
  | _ => none }
def EnqBlowsWrongFalsely : Prop := enqBlowsRow.holds Tryz.pinned (OpenSpec.ofChange enqBlowsWrong)

/-- 'weighbridgelaw24.RegRefused': WHATEVER THE INPUT: true; the input reads as it did. -/
def regRefusedSpec : ChangeSpec := { name := "regRefused", fn := fun _ => fun
  | [d1, d2, d3, d4, d5, d6] => { results := [.lit (.bool true)], args := [d1, d2, d3, d4, d5, d6] }
  | _ => none }
def regRefusedRow : OpenClaim := { program := "ytodpbobjmkhcfaagreatdoor", sum := "22233bdb4d6a9ceb7a23269db096cad72eefd5366682d485dd2dcec8759bb3a0", func := "weighbridge/weighbridgelaw24.RegRefused", spec := "regRefused", unfollowed := true, recurses := true, named := ["math/bits.deBruijn64tab"], plainKeys := false, apart := false, laid := [("math/bits.deBruijn64tab", laid_math_bits_deBruijn64tab)] }
def RegRefusedSaid : Prop := regRefusedRow.holds Tryz.pinned (OpenSpec.ofChange regRefusedSpec)

/-- ITS FALSE NEIGHBOUR: 'it returns false'. Refute it at one input. -/
def regRefusedWrong : ChangeSpec := { name := "regRefused", fn := fun _ => fun
  | [d1, d2, d3, d4, d5, d6] => { results := [.lit (.bool false)], args := [d1, d2, d3, d4, d5, d6] }
  | _ => none }
def RegRefusedWrongFalsely : Prop := regRefusedRow.holds Tryz.pinned (OpenSpec.ofChange regRefusedWrong)

/- THE SECOND FORM. 'bulk': how many values and letters a reading holds, each counted each time it is reached (what is shared counts as often as it is met; a slice's spare places count too). A statement '..UptoSaid' is the law's where the arguments, and the package variables that the reading takes, are together of bulk at most 1048576: NARROWER than '..Said'. Prove '..Said' where nothing that the law and all that it calls make is longer than what came in: it says more and counts as full. Else prove '..UptoSaid'. A law counts once. -/
mutual
def uptoBulk {H : Type} : DataW H → Nat
  | .lit (.string bytes) => bytes.length + 1
  | .lit _ => 1
  | .nil => 1
  | .ptr d => uptoBulk d + 1
  | .slice elems spare => uptoBulkAll elems + uptoBulkAll spare + 1
  | .agg parts => uptoBulkAll parts + 1
  | .iface _ d => uptoBulk d + 1
  | .map entries => uptoBulkEntries entries + 1
  | .held _ => 1
def uptoBulkAll {H : Type} : List (DataW H) → Nat
  | [] => 0
  | d :: r => uptoBulk d + uptoBulkAll r
def uptoBulkEntries {H : Type} : List (Lit × DataW H) → Nat
  | [] => 0
  | x :: r => uptoBulkEntry x + uptoBulkEntries r
def uptoBulkEntry {H : Type} : Lit × DataW H → Nat
  | (.string bytes, d) => bytes.length + uptoBulk d + 1
  | (_, d) => uptoBulk d + 1
 end
def uptoSmall : (H : Type) → List (DataW H) → Bool := fun _ ds => decide (uptoBulkAll ds ≤ 1048576)
def OpenSpec.upto (s : _root_.Go.ChangeSpec) : _root_.Go.OpenSpec := { _root_.Go.OpenSpec.ofChange s with cond := some uptoSmall }

/-- 'weighbridgelaw23.EnqRefused', WHERE WHAT IT READS IS OF BULK AT MOST 1048576: true; the input reads as it did. -/
def enqRefusedUptoRow : OpenClaim := { program := "ytodpbobjmkhcfaagreatdoor", sum := "22233bdb4d6a9ceb7a23269db096cad72eefd5366682d485dd2dcec8759bb3a0", func := "weighbridge/weighbridgelaw23.EnqRefused", spec := "enqRefused", unfollowed := true, recurses := true, named := ["math/bits.deBruijn64tab"], plainKeys := false, apart := false, laid := [("math/bits.deBruijn64tab", laid_math_bits_deBruijn64tab)], narrowed := true }
def EnqRefusedUptoSaid : Prop := enqRefusedUptoRow.holds Tryz.pinned (OpenSpec.upto enqRefusedSpec)

/-- 'weighbridgelaw23.EnqAlone', WHERE WHAT IT READS IS OF BULK AT MOST 1048576: true; the input reads as it did. -/
def enqAloneUptoRow : OpenClaim := { program := "ytodpbobjmkhcfaagreatdoor", sum := "22233bdb4d6a9ceb7a23269db096cad72eefd5366682d485dd2dcec8759bb3a0", func := "weighbridge/weighbridgelaw23.EnqAlone", spec := "enqAlone", unfollowed := true, recurses := true, named := ["math/bits.deBruijn64tab"], plainKeys := false, apart := false, laid := [("math/bits.deBruijn64tab", laid_math_bits_deBruijn64tab)], narrowed := true }
def EnqAloneUptoSaid : Prop := enqAloneUptoRow.holds Tryz.pinned (OpenSpec.upto enqAloneSpec)

/-- 'weighbridgelaw23.EnqFull', WHERE WHAT IT READS IS OF BULK AT MOST 1048576: true; the input reads as it did. -/
def enqFullUptoRow : OpenClaim := { program := "ytodpbobjmkhcfaagreatdoor", sum := "22233bdb4d6a9ceb7a23269db096cad72eefd5366682d485dd2dcec8759bb3a0", func := "weighbridge/weighbridgelaw23.EnqFull", spec := "enqFull", unfollowed := true, recurses := true, named := ["math/bits.deBruijn64tab"], plainKeys := false, apart := false, laid := [("math/bits.deBruijn64tab", laid_math_bits_deBruijn64tab)], narrowed := true }
def EnqFullUptoSaid : Prop := enqFullUptoRow.holds Tryz.pinned (OpenSpec.upto enqFullSpec)

/-- 'weighbridgelaw23.EnqTurns', WHERE WHAT IT READS IS OF BULK AT MOST 1048576: true; the input reads as it did. -/
def enqTurnsUptoRow : OpenClaim := { program := "ytodpbobjmkhcfaagreatdoor", sum := "22233bdb4d6a9ceb7a23269db096cad72eefd5366682d485dd2dcec8759bb3a0", func := "weighbridge/weighbridgelaw23.EnqTurns", spec := "enqTurns", unfollowed := true, recurses := true, named := ["math/bits.deBruijn64tab"], plainKeys := false, apart := false, laid := [("math/bits.deBruijn64tab", laid_math_bits_deBruijn64tab)], narrowed := true }
def EnqTurnsUptoSaid : Prop := enqTurnsUptoRow.holds Tryz.pinned (OpenSpec.upto enqTurnsSpec)

/-- 'weighbridgelaw23.EnqBlows', WHERE WHAT IT READS IS OF BULK AT MOST 1048576: true; the input reads as it did. -/
def enqBlowsUptoRow : OpenClaim := { program := "ytodpbobjmkhcfaagreatdoor", sum := "22233bdb4d6a9ceb7a23269db096cad72eefd5366682d485dd2dcec8759bb3a0", func := "weighbridge/weighbridgelaw23.EnqBlows", spec := "enqBlows", unfollowed := true, recurses := true, named := ["math/bits.deBruijn64tab"], plainKeys := false, apart := false, laid := [("math/bits.deBruijn64tab", laid_math_bits_deBruijn64tab)], narrowed := true }
def EnqBlowsUptoSaid : Prop := enqBlowsUptoRow.holds Tryz.pinned (OpenSpec.upto enqBlowsSpec)

/-- 'weighbridgelaw24.RegRefused', WHERE WHAT IT READS IS OF BULK AT MOST 1048576: true; the input reads as it did. -/
def regRefusedUptoRow : OpenClaim := { program := "ytodpbobjmkhcfaagreatdoor", sum := "22233bdb4d6a9ceb7a23269db096cad72eefd5366682d485dd2dcec8759bb3a0", func := "weighbridge/weighbridgelaw24.RegRefused", spec := "regRefused", unfollowed := true, recurses := true, named := ["math/bits.deBruijn64tab"], plainKeys := false, apart := false, laid := [("math/bits.deBruijn64tab", laid_math_bits_deBruijn64tab)], narrowed := true }
def RegRefusedUptoSaid : Prop := regRefusedUptoRow.holds Tryz.pinned (OpenSpec.upto regRefusedSpec)

end Rows
end Go.Proofs.YtodpbobjmkhcfaaGreatDoor
