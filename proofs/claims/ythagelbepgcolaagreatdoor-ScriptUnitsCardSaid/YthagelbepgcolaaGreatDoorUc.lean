/- The card of ScriptUnits. -/
import Derived.Test.YthagelbepgcolaaGreatDoorTc
namespace Go.Proofs.YthagelbepgcolaaGreatDoor.Gst
open Go Go.ChangeShapes Go.WideShapes Go.ChangeAt Go.RowKit
set_option maxRecDepth 100000
set_option linter.unusedSimpArgs false
theorem scriptUnits_plain (f : FuncId) (fn : Func) (hf : Tryz.pinned.checked.prog.funcNamed "weighbridge/weighbridgelaw30.ScriptUnits" = some f) (hfn : Tryz.pinned.checked.prog.funcs[f]? = some fn) :
    true = Tryz.pinned.checked.prog.looks [] ∧ ∀ (j : Nat) t, fn.params[j]? = some t → Tryz.pinned.checked.prog.wantsStandIn t = false := by
  obtain rfl : f = 4 := Option.some.inj ((show Tryz.prog.funcNamed "weighbridge/weighbridgelaw30.ScriptUnits" = some 4 by kernel_rfl).symm.trans hf) |>.symm
  obtain rfl : fn = Tryz.f4 := (Option.some.inj (Tryz.func4.symm.trans hfn)).symm
  refine ⟨by kernel_rfl, fun j t ht => ?_⟩
  have all : Tryz.f4.params.toList.all (fun t => !Tryz.prog.wantsStandIn t) = true := by kernel_rfl
  have := List.all_eq_true.1 all t (by simpa using Array.mem_of_getElem? ht)
  have h2 : Tryz.prog.wantsStandIn t = false := by simpa using this
  exact h2
theorem scriptUnits_c1 : Rows.scriptUnitsRow.wfByText (OpenSpec.ofChange Rows.scriptUnitsSpec) = true := by kernel_rfl
theorem scriptUnits_c2 : Tryz.pinned.checked.prog.mainIs = some (Rows.scriptUnitsCard.stood.harness.1, Rows.scriptUnitsCard.stood.harness.2.toList) := by kernel_rfl
theorem scriptUnits_c3 : false = Rows.scriptUnitsRow.goesBy Tryz.pinned.checked.prog := by kernel_rfl
/-- THE CARD. -/
theorem scriptUnits_card : Rows.ScriptUnitsCardSaid :=
  Claim7.holds_tied_plain_at .later [] _ _ _ _ scriptUnits_said (fun _ h => by cases h) scriptUnits_c1 (fun _ h => by cases h) scriptUnits_row_tie rfl ⟨rfl, rfl⟩ scriptUnits_c2 rfl scriptUnits_plain scriptUnits_c3
end Go.Proofs.YthagelbepgcolaaGreatDoor.Gst
