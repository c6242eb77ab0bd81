/- The card of ScriptEncode. -/
import Derived.Test.YthagelbepgcolaaGreatDoorTb
namespace Go.Proofs.YthagelbepgcolaaGreatDoor.Gst
open Go Go.ChangeShapes Go.WideShapes Go.ChangeAt Go.RowKit
set_option maxRecDepth 100000
set_option linter.unusedSimpArgs false
theorem scriptEncode_plain (f : FuncId) (fn : Func) (hf : Tryz.pinned.checked.prog.funcNamed "weighbridge/weighbridgelaw30.ScriptEncode" = some f) (hfn : Tryz.pinned.checked.prog.funcs[f]? = some fn) :
    true = Tryz.pinned.checked.prog.looks [] ∧ ∀ (j : Nat) t, fn.params[j]? = some t → Tryz.pinned.checked.prog.wantsStandIn t = false := by
  obtain rfl : f = 3 := Option.some.inj ((show Tryz.prog.funcNamed "weighbridge/weighbridgelaw30.ScriptEncode" = some 3 by kernel_rfl).symm.trans hf) |>.symm
  obtain rfl : fn = Tryz.f3 := (Option.some.inj (Tryz.func3.symm.trans hfn)).symm
  refine ⟨by kernel_rfl, fun j t ht => ?_⟩
  have all : Tryz.f3.params.toList.all (fun t => !Tryz.prog.wantsStandIn t) = true := by kernel_rfl
  have := List.all_eq_true.1 all t (by simpa using Array.mem_of_getElem? ht)
  have h2 : Tryz.prog.wantsStandIn t = false := by simpa using this
  exact h2
theorem scriptEncode_c1 : Rows.scriptEncodeRow.wfByText (OpenSpec.ofChange Rows.scriptEncodeSpec) = true := by kernel_rfl
theorem scriptEncode_c2 : Tryz.pinned.checked.prog.mainIs = some (Rows.scriptEncodeCard.stood.harness.1, Rows.scriptEncodeCard.stood.harness.2.toList) := by kernel_rfl
theorem scriptEncode_c3 : false = Rows.scriptEncodeRow.goesBy Tryz.pinned.checked.prog := by kernel_rfl
/-- THE CARD. -/
theorem scriptEncode_card : Rows.ScriptEncodeCardSaid :=
  Claim7.holds_tied_plain_at .later [] _ _ _ _ scriptEncode_said (fun _ h => by cases h) scriptEncode_c1 (fun _ h => by cases h) scriptEncode_row_tie rfl ⟨rfl, rfl⟩ scriptEncode_c2 rfl scriptEncode_plain scriptEncode_c3
end Go.Proofs.YthagelbepgcolaaGreatDoor.Gst
