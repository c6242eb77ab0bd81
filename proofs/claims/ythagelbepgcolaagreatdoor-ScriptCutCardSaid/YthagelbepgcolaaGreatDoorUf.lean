/- The card of ScriptCut. -/
import Derived.Test.YthagelbepgcolaaGreatDoorTf
namespace Go.Proofs.YthagelbepgcolaaGreatDoor.Gst
open Go Go.ChangeShapes Go.WideShapes Go.ChangeAt Go.RowKit
set_option maxRecDepth 100000
set_option linter.unusedSimpArgs false
theorem scriptCut_plain (f : FuncId) (fn : Func) (hf : Tryz.pinned.checked.prog.funcNamed "weighbridge/weighbridgelaw30.ScriptCut" = some f) (hfn : Tryz.pinned.checked.prog.funcs[f]? = some fn) :
    true = Tryz.pinned.checked.prog.looks [] ∧ ∀ (j : Nat) t, fn.params[j]? = some t → Tryz.pinned.checked.prog.wantsStandIn t = false := by
  obtain rfl : f = 7 := Option.some.inj ((show Tryz.prog.funcNamed "weighbridge/weighbridgelaw30.ScriptCut" = some 7 by kernel_rfl).symm.trans hf) |>.symm
  obtain rfl : fn = Tryz.f7 := (Option.some.inj (Tryz.func7.symm.trans hfn)).symm
  refine ⟨by kernel_rfl, fun j t ht => ?_⟩
  have all : Tryz.f7.params.toList.all (fun t => !Tryz.prog.wantsStandIn t) = true := by kernel_rfl
  have := List.all_eq_true.1 all t (by simpa using Array.mem_of_getElem? ht)
  have h2 : Tryz.prog.wantsStandIn t = false := by simpa using this
  exact h2
theorem scriptCut_c1 : Rows.scriptCutRow.wfByText (OpenSpec.ofChange Rows.scriptCutSpec) = true := by kernel_rfl
theorem scriptCut_c2 : Tryz.pinned.checked.prog.mainIs = some (Rows.scriptCutCard.stood.harness.1, Rows.scriptCutCard.stood.harness.2.toList) := by kernel_rfl
theorem scriptCut_c3 : false = Rows.scriptCutRow.goesBy Tryz.pinned.checked.prog := by kernel_rfl
/-- THE CARD. -/
theorem scriptCut_card : Rows.ScriptCutCardSaid :=
  Claim7.holds_tied_plain_at .later [] _ _ _ _ scriptCut_said (fun _ h => by cases h) scriptCut_c1 (fun _ h => by cases h) scriptCut_row_tie rfl ⟨rfl, rfl⟩ scriptCut_c2 rfl scriptCut_plain scriptCut_c3
end Go.Proofs.YthagelbepgcolaaGreatDoor.Gst
