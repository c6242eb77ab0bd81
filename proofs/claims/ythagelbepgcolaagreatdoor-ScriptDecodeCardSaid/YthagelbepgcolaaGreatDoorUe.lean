/- The card of ScriptDecode. -/
import Derived.Test.YthagelbepgcolaaGreatDoorTe
namespace Go.Proofs.YthagelbepgcolaaGreatDoor.Gst
open Go Go.ChangeShapes Go.WideShapes Go.ChangeAt Go.RowKit
set_option maxRecDepth 100000
set_option linter.unusedSimpArgs false
theorem scriptDecode_plain (f : FuncId) (fn : Func) (hf : Tryz.pinned.checked.prog.funcNamed "weighbridge/weighbridgelaw30.ScriptDecode" = some f) (hfn : Tryz.pinned.checked.prog.funcs[f]? = some fn) :
    true = Tryz.pinned.checked.prog.looks [] ∧ ∀ (j : Nat) t, fn.params[j]? = some t → Tryz.pinned.checked.prog.wantsStandIn t = false := by
  obtain rfl : f = 6 := Option.some.inj ((show Tryz.prog.funcNamed "weighbridge/weighbridgelaw30.ScriptDecode" = some 6 by kernel_rfl).symm.trans hf) |>.symm
  obtain rfl : fn = Tryz.f6 := (Option.some.inj (Tryz.func6.symm.trans hfn)).symm
  refine ⟨by kernel_rfl, fun j t ht => ?_⟩
  have all : Tryz.f6.params.toList.all (fun t => !Tryz.prog.wantsStandIn t) = true := by kernel_rfl
  have := List.all_eq_true.1 all t (by simpa using Array.mem_of_getElem? ht)
  have h2 : Tryz.prog.wantsStandIn t = false := by simpa using this
  exact h2
theorem scriptDecode_c1 : Rows.scriptDecodeRow.wfByText (OpenSpec.ofChange Rows.scriptDecodeSpec) = true := by kernel_rfl
theorem scriptDecode_c2 : Tryz.pinned.checked.prog.mainIs = some (Rows.scriptDecodeCard.stood.harness.1, Rows.scriptDecodeCard.stood.harness.2.toList) := by kernel_rfl
theorem scriptDecode_c3 : false = Rows.scriptDecodeRow.goesBy Tryz.pinned.checked.prog := by kernel_rfl
/-- THE CARD. -/
theorem scriptDecode_card : Rows.ScriptDecodeCardSaid :=
  Claim7.holds_tied_plain_at .later [] _ _ _ _ scriptDecode_said (fun _ h => by cases h) scriptDecode_c1 (fun _ h => by cases h) scriptDecode_row_tie rfl ⟨rfl, rfl⟩ scriptDecode_c2 rfl scriptDecode_plain scriptDecode_c3
end Go.Proofs.YthagelbepgcolaaGreatDoor.Gst
