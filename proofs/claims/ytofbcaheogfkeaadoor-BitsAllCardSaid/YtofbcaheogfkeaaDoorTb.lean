/- Proved: the given Go statement BitsAll answers true for every input (which bits of any number are 1, and how many), and leaves its arguments as they were. Conditions: those of its row alone; the table of Go's library holds what its text lays (the card ties it). -/
import Derived.Test.YtofbcaheogfkeaaDoorTa
namespace Go.Proofs.YtofbcaheogfkeaaDoor.Gst
open Go Go.ChangeShapes Go.WideShapes Go.ChangeAt Go.RowKit
set_option maxRecDepth 100000
set_option linter.unusedSimpArgs false

/-! ### BitsAll -/
theorem bitsAll_contract (H : Type) (enc : TypeId × Value → H) (W : World) (base : Nat) (args : Array Value) (ds gs : List (DataW H)) (before : List MemPlace)
    (hval : ∀ (j : Nat) t v, Tryd.f3.params[j]? = some t → args[j]? = some v → Value.okWide Tryd.prog W .any base t v)
    (hW : DataW.Whole enc Tryd.prog Tryd.f3.params.toList Rows.bitsAllSpec.vars false W args.toList ds gs before) (hL : laidMetH Tryd.prog Rows.bitsAllRow.laid W) :
    Calls Tryd.prog 3 args W fun e W' => ∃ v, e = .returned v ∧ Rows.bitsAllSpec.post enc Tryd.prog Tryd.f3 false true false false W args v W' := by
  obtain ⟨ρ, hR, hG⟩ := rel_tab hL
  have hgs : gs = [] := by
    obtain ⟨p, q, _, hV, _⟩ := hW
    exact (trodVars_none hV).1
  refine law_post (tys := [.int .u64]) mixed laidOut (by kernel_rfl) (tb := 4) (by kernel_rfl) (by kernel_rfl) rfl (fun j t v h1 h2 => ⟨_, _, hval j t v h1 h2⟩) hW ?_ hR hG ?_
  · subst hgs
    obtain ⟨p, q, hA, _⟩ := hW
    have hp : Tryd.f3.params.toList = [22] := by kernel_rfl
    rw [hp] at hA
    obtain ⟨v, vs, d, ds', p1, q1, _, rfl, _, _, hr⟩ := trodAll_cons hA
    obtain ⟨rfl, rfl, rfl⟩ := trodAll_nil hr
    
    rfl
  · intro x avs H' hk ha
    obtain ⟨cs, rest, rfl, h1, rfl⟩ := ha
    obtain ⟨b, hb, e⟩ := u64_of h1
    rw [e]
    exact bitsAll hb (tabH_tab.keep hk)
theorem bitsAll_laid (os : Os) : laidMet Tryd.prog Rows.bitsAllRow.laid ((laidWorld os).forCall (fun _ _ => 0) ⟨#[], #[Value.int .u64 0], []⟩).memory :=
  laidMet_of_run' 8 (by kernel_rfl) (by kernel_rfl)
theorem bitsAll_reads (os : Os) {H : Type} (enc : TypeId × Value → H) : ∃ places, DataW.whole enc Tryd.prog ((laidWorld os).forCall (fun _ _ => 0) ⟨#[], #[Value.int .u64 0], []⟩).memory Tryd.f3.params.toList Rows.bitsAllSpec.vars false #[Value.int .u64 0].toList 8 = some ([.lit (.int .u64 0)], [], places) :=
  ⟨[], by kernel_rfl⟩
theorem bitsAll_lifted (os : Os) (started : os.Started) (H : Type) (enc : TypeId × Value → H) (F : Stop.Interp) :
    ReturnsInHanded {} Tryd.checked os 3 .any ((OpenSpec.ofChange Rows.bitsAllSpec).preRow enc Tryd.prog Tryd.f3 Rows.bitsAllRow.domain false Rows.bitsAllRow.laid) (((OpenSpec.ofChange Rows.bitsAllSpec).at F).post enc Tryd.prog Tryd.f3 false true false false) := by
  obtain ⟨places, hx⟩ := bitsAll_reads os enc
  refine returnsInHanded_of_row (C := Tryd.checked) (s := OpenSpec.ofChange Rows.bitsAllSpec) own started (by kernel_rfl) Tryd.func3
    (witness_row_at (enc := enc) (C := Tryd.checked) false (laidWorld os) #[Value.int .u64 0] rfl (by kernel_rfl) (by kernel_rfl) (by kernel_rfl)
      (OpenSpec.preRow_of_cond 8 hx (by kernel_rfl) (fun k hk => by cases hk) (by kernel_rfl) (bitsAll_laid os))) ?_
  intro W base args ds gs before hval hW _ _ _ hL _ _
  exact bitsAll_contract H enc W base args ds gs before hval hW hL
theorem bitsAll_said : Rows.BitsAllSaid :=
  OpenClaim.holds_of_cond 3 Tryd.f3 rfl rfl rfl rfl rfl rfl rfl ⟨rfl, rfl, rfl, rfl, rfl⟩ rfl rfl rfl rfl rfl (by kernel_rfl) Tryd.func3 (by kernel_rfl)
    (of_decide_eq_true (by kernel_rfl)) (by unfold Func.isWrapper; first | (rw [if_pos (by decide +kernel)]; kernel_rfl) | (rw [if_neg (by decide +kernel)]; exact ⟨rfl, rfl⟩))
    (fun os started H enc _ F => by rw [OpenClaim.pre_eq_preRow]; exact bitsAll_lifted os started H enc F)
theorem bitsAll_plain (f : FuncId) (fn : Func) (hf : Tryd.pinned.checked.prog.funcNamed "weighbridge/weighbridgelaw03.BitsAll" = some f) (hfn : Tryd.pinned.checked.prog.funcs[f]? = some fn) :
    false = Tryd.pinned.checked.prog.looks [] ∧ ∀ (j : Nat) t, fn.params[j]? = some t → Tryd.pinned.checked.prog.wantsStandIn t = false := by
  obtain rfl : f = 3 := Option.some.inj ((show Tryd.prog.funcNamed "weighbridge/weighbridgelaw03.BitsAll" = some 3 by kernel_rfl).symm.trans hf) |>.symm
  obtain rfl : fn = Tryd.f3 := (Option.some.inj (Tryd.func3.symm.trans hfn)).symm
  refine ⟨by kernel_rfl, fun j t ht => ?_⟩
  have all : Tryd.f3.params.toList.all (fun t => !Tryd.prog.wantsStandIn t) = true := by kernel_rfl
  have := List.all_eq_true.1 all t (by simpa using Array.mem_of_getElem? ht)
  have h2 : Tryd.prog.wantsStandIn t = false := by simpa using this
  exact h2
/-- THE CARD. -/
theorem bitsAll_card : Rows.BitsAllCardSaid :=
  Claim7.holds_tied_plain_at .later [] _ _ _ _ bitsAll_said (fun _ h => by cases h) (by kernel_rfl) (fun _ h => by cases h) bitsAll_row_tie rfl ⟨rfl, rfl⟩ (by kernel_rfl) rfl bitsAll_plain (by kernel_rfl)
end Go.Proofs.YtofbcaheogfkeaaDoor.Gst
