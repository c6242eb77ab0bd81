/- The card of ScriptMany. -/
import Derived.Test.YthagelbepgcolaaGreatDoorTd
namespace Go.Proofs.YthagelbepgcolaaGreatDoor.Gst
open Go Go.ChangeShapes Go.WideShapes Go.ChangeAt Go.RowKit
set_option maxRecDepth 100000
set_option linter.unusedSimpArgs false
theorem scriptMany_plain (f : FuncId) (fn : Func) (hf : Tryz.pinned.checked.prog.funcNamed "weighbridge/weighbridgelaw30.ScriptMany" = some f) (hfn : Tryz.pinned.checked.prog.funcs[f]? = some fn) :
    true = Tryz.pinned.checked.prog.looks [] ∧ ∀ (j : Nat) t, fn.params[j]? = some t → Tryz.pinned.checked.prog.wantsStandIn t = false := by
  obtain rfl : f = 5 := Option.some.inj ((show Tryz.prog.funcNamed "weighbridge/weighbridgelaw30.ScriptMany" = some 5 by kernel_rfl).symm.trans hf) |>.symm
  obtain rfl : fn = Tryz.f5 := (Option.some.inj (Tryz.func5.symm.trans hfn)).symm
  refine ⟨by kernel_rfl, fun j t ht => ?_⟩
  have all : Tryz.f5.params.toList.all (fun t => !Tryz.prog.wantsStandIn t) = true := by kernel_rfl
  have := List.all_eq_true.1 all t (by simpa using Array.mem_of_getElem? ht)
  have h2 : Tryz.prog.wantsStandIn t = false := by simpa using this
  exact h2
theorem scriptMany_c1 : Rows.scriptManyRow.wfByText (OpenSpec.ofChange Rows.scriptManySpec) = true := by kernel_rfl
theorem scriptMany_c2 : Tryz.pinned.checked.prog.mainIs = some (Rows.scriptManyCard.stood.harness.1, Rows.scriptManyCard.stood.harness.2.toList) := by kernel_rfl
theorem scriptMany_c3 : false = Rows.scriptManyRow.goesBy Tryz.pinned.checked.prog := by kernel_rfl
/-- THE CARD. -/
theorem scriptMany_card : Rows.ScriptManyCardSaid :=
  Claim7.holds_tied_plain_at .later [] _ _ _ _ scriptMany_said (fun _ h => by cases h) scriptMany_c1 (fun _ h => by cases h) scriptMany_row_tie rfl ⟨rfl, rfl⟩ scriptMany_c2 rfl scriptMany_plain scriptMany_c3
end Go.Proofs.YthagelbepgcolaaGreatDoor.Gst
