/- Proved: the given Go statement BitsOne answers true for every input (any bit of any number, made 1, and 0, and asked), and leaves its arguments as they were. Conditions: those of its row alone; the table of Go's library holds what its text lays (the card ties it). -/
import Derived.Test.YtofbcaheogfkeaaDoorTa
namespace Go.Proofs.YtofbcaheogfkeaaDoor.Gst
open Go Go.ChangeShapes Go.WideShapes Go.ChangeAt Go.RowKit
set_option maxRecDepth 100000
set_option linter.unusedSimpArgs false

/-! ### BitsOne -/
theorem bitsOne_contract (H : Type) (enc : TypeId × Value → H) (W : World) (base : Nat) (args : Array Value) (ds gs : List (DataW H)) (before : List MemPlace)
    (hval : ∀ (j : Nat) t v, Tryd.f7.params[j]? = some t → args[j]? = some v → Value.okWide Tryd.prog W .any base t v)
    (hW : DataW.Whole enc Tryd.prog Tryd.f7.params.toList Rows.bitsOneSpec.vars false W args.toList ds gs before) (hL : laidMetH Tryd.prog Rows.bitsOneRow.laid W) :
    Calls Tryd.prog 7 args W fun e W' => ∃ v, e = .returned v ∧ Rows.bitsOneSpec.post enc Tryd.prog Tryd.f7 false true false false W args v W' := by
  obtain ⟨ρ, hR, hG⟩ := rel_tab hL
  have hgs : gs = [] := by
    obtain ⟨p, q, _, hV, _⟩ := hW
    exact (trodVars_none hV).1
  refine law_post (tys := [.int .u64, .int .i64]) mixed laidOut (by kernel_rfl) (tb := 4) (by kernel_rfl) (by kernel_rfl) rfl (fun j t v h1 h2 => ⟨_, _, hval j t v h1 h2⟩) hW ?_ hR hG ?_
  · subst hgs
    obtain ⟨p, q, hA, _⟩ := hW
    have hp : Tryd.f7.params.toList = [22, 3] := by kernel_rfl
    rw [hp] at hA
    obtain ⟨v, vs, d, ds', p1, q1, _, rfl, _, _, hr⟩ := trodAll_cons hA
    obtain ⟨v2, vs2, d2, ds2, p2, q2, rfl, rfl, _, _, hr2⟩ := trodAll_cons hr
    obtain ⟨rfl, rfl, rfl⟩ := trodAll_nil hr2
    rfl
  · intro x avs H' hk ha
    obtain ⟨cs, rest, rfl, h1, cs2, rest2, rfl, h2, rfl⟩ := ha
    obtain ⟨b, hb, e⟩ := u64_of h1
    rw [e, i64_of h2]
    exact bitsOne hb _ (tabH_tab.keep hk)
theorem bitsOne_laid (os : Os) : laidMet Tryd.prog Rows.bitsOneRow.laid ((laidWorld os).forCall (fun _ _ => 0) ⟨#[], #[Value.int .u64 0, Value.int .i64 0], []⟩).memory :=
  laidMet_of_run' 8 (by kernel_rfl) (by kernel_rfl)
theorem bitsOne_reads (os : Os) {H : Type} (enc : TypeId × Value → H) : ∃ places, DataW.whole enc Tryd.prog ((laidWorld os).forCall (fun _ _ => 0) ⟨#[], #[Value.int .u64 0, Value.int .i64 0], []⟩).memory Tryd.f7.params.toList Rows.bitsOneSpec.vars false #[Value.int .u64 0, Value.int .i64 0].toList 8 = some ([.lit (.int .u64 0), .lit (.int .i64 0)], [], places) :=
  ⟨[], by kernel_rfl⟩
theorem bitsOne_lifted (os : Os) (started : os.Started) (H : Type) (enc : TypeId × Value → H) (F : Stop.Interp) :
    ReturnsInHanded {} Tryd.checked os 7 .any ((OpenSpec.ofChange Rows.bitsOneSpec).preRow enc Tryd.prog Tryd.f7 Rows.bitsOneRow.domain false Rows.bitsOneRow.laid) (((OpenSpec.ofChange Rows.bitsOneSpec).at F).post enc Tryd.prog Tryd.f7 false true false false) := by
  obtain ⟨places, hx⟩ := bitsOne_reads os enc
  refine returnsInHanded_of_row (C := Tryd.checked) (s := OpenSpec.ofChange Rows.bitsOneSpec) own started (by kernel_rfl) Tryd.func7
    (witness_row_at (enc := enc) (C := Tryd.checked) false (laidWorld os) #[Value.int .u64 0, Value.int .i64 0] rfl (by kernel_rfl) (by kernel_rfl) (by kernel_rfl)
      (OpenSpec.preRow_of_cond 8 hx (by kernel_rfl) (fun k hk => by cases hk) (by kernel_rfl) (bitsOne_laid os))) ?_
  intro W base args ds gs before hval hW _ _ _ hL _ _
  exact bitsOne_contract H enc W base args ds gs before hval hW hL
theorem bitsOne_said : Rows.BitsOneSaid :=
  OpenClaim.holds_of_cond 7 Tryd.f7 rfl rfl rfl rfl rfl rfl rfl ⟨rfl, rfl, rfl, rfl, rfl⟩ rfl rfl rfl rfl rfl (by kernel_rfl) Tryd.func7 (by kernel_rfl)
    (of_decide_eq_true (by kernel_rfl)) (by unfold Func.isWrapper; first | (rw [if_pos (by decide +kernel)]; kernel_rfl) | (rw [if_neg (by decide +kernel)]; exact ⟨rfl, rfl⟩))
    (fun os started H enc _ F => by rw [OpenClaim.pre_eq_preRow]; exact bitsOne_lifted os started H enc F)
theorem bitsOne_plain (f : FuncId) (fn : Func) (hf : Tryd.pinned.checked.prog.funcNamed "weighbridge/weighbridgelaw03.BitsOne" = some f) (hfn : Tryd.pinned.checked.prog.funcs[f]? = some fn) :
    false = Tryd.pinned.checked.prog.looks [] ∧ ∀ (j : Nat) t, fn.params[j]? = some t → Tryd.pinned.checked.prog.wantsStandIn t = false := by
  obtain rfl : f = 7 := Option.some.inj ((show Tryd.prog.funcNamed "weighbridge/weighbridgelaw03.BitsOne" = some 7 by kernel_rfl).symm.trans hf) |>.symm
  obtain rfl : fn = Tryd.f7 := (Option.some.inj (Tryd.func7.symm.trans hfn)).symm
  refine ⟨by kernel_rfl, fun j t ht => ?_⟩
  have all : Tryd.f7.params.toList.all (fun t => !Tryd.prog.wantsStandIn t) = true := by kernel_rfl
  have := List.all_eq_true.1 all t (by simpa using Array.mem_of_getElem? ht)
  have h2 : Tryd.prog.wantsStandIn t = false := by simpa using this
  exact h2
/-- THE CARD. -/
theorem bitsOne_card : Rows.BitsOneCardSaid :=
  Claim7.holds_tied_plain_at .later [] _ _ _ _ bitsOne_said (fun _ h => by cases h) (by kernel_rfl) (fun _ h => by cases h) bitsOne_row_tie rfl ⟨rfl, rfl⟩ (by kernel_rfl) rfl bitsOne_plain (by kernel_rfl)
end Go.Proofs.YtofbcaheogfkeaaDoor.Gst
