/- The card of ScriptAbove. -/
import Derived.Test.YthagelbepgcolaaGreatDoorTh
namespace Go.Proofs.YthagelbepgcolaaGreatDoor.Gst
open Go Go.ChangeShapes Go.WideShapes Go.ChangeAt Go.RowKit
set_option maxRecDepth 100000
set_option linter.unusedSimpArgs false
theorem scriptAbove_plain (f : FuncId) (fn : Func) (hf : Tryz.pinned.checked.prog.funcNamed "weighbridge/weighbridgelaw30.ScriptAbove" = some f) (hfn : Tryz.pinned.checked.prog.funcs[f]? = some fn) :
    true = Tryz.pinned.checked.prog.looks [] ∧ ∀ (j : Nat) t, fn.params[j]? = some t → Tryz.pinned.checked.prog.wantsStandIn t = false := by
  obtain rfl : f = 9 := Option.some.inj ((show Tryz.prog.funcNamed "weighbridge/weighbridgelaw30.ScriptAbove" = some 9 by kernel_rfl).symm.trans hf) |>.symm
  obtain rfl : fn = Tryz.f9 := (Option.some.inj (Tryz.func9.symm.trans hfn)).symm
  refine ⟨by kernel_rfl, fun j t ht => ?_⟩
  have all : Tryz.f9.params.toList.all (fun t => !Tryz.prog.wantsStandIn t) = true := by kernel_rfl
  have := List.all_eq_true.1 all t (by simpa using Array.mem_of_getElem? ht)
  have h2 : Tryz.prog.wantsStandIn t = false := by simpa using this
  exact h2
theorem scriptAbove_c1 : Rows.scriptAboveRow.wfByText (OpenSpec.ofChange Rows.scriptAboveSpec) = true := by kernel_rfl
theorem scriptAbove_c2 : Tryz.pinned.checked.prog.mainIs = some (Rows.scriptAboveCard.stood.harness.1, Rows.scriptAboveCard.stood.harness.2.toList) := by kernel_rfl
theorem scriptAbove_c3 : false = Rows.scriptAboveRow.goesBy Tryz.pinned.checked.prog := by kernel_rfl
/-- THE CARD. -/
theorem scriptAbove_card : Rows.ScriptAboveCardSaid :=
  Claim7.holds_tied_plain_at .later [] _ _ _ _ scriptAbove_said (fun _ h => by cases h) scriptAbove_c1 (fun _ h => by cases h) scriptAbove_row_tie rfl ⟨rfl, rfl⟩ scriptAbove_c2 rfl scriptAbove_plain scriptAbove_c3
end Go.Proofs.YthagelbepgcolaaGreatDoor.Gst
