/- The card of ScriptForms. -/
import Derived.Test.YthagelbepgcolaaGreatDoorTg
namespace Go.Proofs.YthagelbepgcolaaGreatDoor.Gst
open Go Go.ChangeShapes Go.WideShapes Go.ChangeAt Go.RowKit
set_option maxRecDepth 100000
set_option linter.unusedSimpArgs false
theorem scriptForms_plain (f : FuncId) (fn : Func) (hf : Tryz.pinned.checked.prog.funcNamed "weighbridge/weighbridgelaw30.ScriptForms" = some f) (hfn : Tryz.pinned.checked.prog.funcs[f]? = some fn) :
    true = Tryz.pinned.checked.prog.looks [] ∧ ∀ (j : Nat) t, fn.params[j]? = some t → Tryz.pinned.checked.prog.wantsStandIn t = false := by
  obtain rfl : f = 8 := Option.some.inj ((show Tryz.prog.funcNamed "weighbridge/weighbridgelaw30.ScriptForms" = some 8 by kernel_rfl).symm.trans hf) |>.symm
  obtain rfl : fn = Tryz.f8 := (Option.some.inj (Tryz.func8.symm.trans hfn)).symm
  refine ⟨by kernel_rfl, fun j t ht => ?_⟩
  have all : Tryz.f8.params.toList.all (fun t => !Tryz.prog.wantsStandIn t) = true := by kernel_rfl
  have := List.all_eq_true.1 all t (by simpa using Array.mem_of_getElem? ht)
  have h2 : Tryz.prog.wantsStandIn t = false := by simpa using this
  exact h2
theorem scriptForms_c1 : Rows.scriptFormsRow.wfByText (OpenSpec.ofChange Rows.scriptFormsSpec) = true := by kernel_rfl
theorem scriptForms_c2 : Tryz.pinned.checked.prog.mainIs = some (Rows.scriptFormsCard.stood.harness.1, Rows.scriptFormsCard.stood.harness.2.toList) := by kernel_rfl
theorem scriptForms_c3 : false = Rows.scriptFormsRow.goesBy Tryz.pinned.checked.prog := by kernel_rfl
/-- THE CARD. -/
theorem scriptForms_card : Rows.ScriptFormsCardSaid :=
  Claim7.holds_tied_plain_at .later [] _ _ _ _ scriptForms_said (fun _ h => by cases h) scriptForms_c1 (fun _ h => by cases h) scriptForms_row_tie rfl ⟨rfl, rfl⟩ scriptForms_c2 rfl scriptForms_plain scriptForms_c3
end Go.Proofs.YthagelbepgcolaaGreatDoor.Gst
