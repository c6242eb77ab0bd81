/- Proved: the given Go statement EnqModel answers true for every input (packets offered one behind the other are told just what the plain model tells: there is room, or not; the flow is there, or not; each call ends in a few steps), and leaves its arguments as they were. Conditions: those of its row alone; the table of Go's library holds what its text lays (the card ties it). -/
import Derived.Test.YtghoamdlcjdfjaaGreatDoorZa
import Derived.Test.YtghoamdlcjdfjaaGreatDoorPg
namespace Go.Proofs.YtghoamdlcjdfjaaGreatDoor.Gst
open Go Go.ChangeShapes Go.WideShapes Go.ChangeAt Go.RowKit
set_option maxRecDepth 100000
set_option linter.unusedSimpArgs false

theorem enqModel_contract (H : Type) (enc : TypeId × Value → H) (W : World) (base : Nat) (args : Array Value) (ds gs : List (DataW H)) (before : List MemPlace)
    (hval : ∀ (j : Nat) t v, Tryz.f5.params[j]? = some t → args[j]? = some v → Value.okWide Tryz.prog W .any base t v)
    (hW : DataW.Whole enc Tryz.prog Tryz.f5.params.toList Rows.enqModelSpec.vars false W args.toList ds gs before) (hwt : (DataW.weightsEach Tryz.prog (Tryz.f5.params.toList ++ (OpenSpec.ofChange Rows.enqModelSpec).bare.plain.varTypes Tryz.prog) (ds ++ gs)).all (· ≤ reachBytes) = true) (hL : laidMetH Tryz.prog Rows.enqModelRow.laid W) :
    Calls Tryz.prog 5 args W fun e W' => ∃ v, e = .returned v ∧ Rows.enqModelSpec.post enc Tryz.prog Tryz.f5 false true false false W args v W' := by
  obtain ⟨ρ, hR, hG⟩ := rel_tab hL
  have hgs : gs = [] := by
    obtain ⟨p, q, _, hV, _⟩ := hW
    exact (trodVars_none hV).1
  refine law_post (tys := [CfgTy, .slice ClTy]) mixed laidOut (by kernel_rfl) (tb := 4) (by kernel_rfl) (by kernel_rfl) rfl (fun j t v h1 h2 => ⟨_, _, hval j t v h1 h2⟩) hW ?_ hR hG ?_ ?_
  · subst hgs
    obtain ⟨p, q, hA, _⟩ := hW
    have hp : Tryz.f5.params.toList = [24, 25] := by kernel_rfl
    rw [hp] at hA
    obtain ⟨v1, vs1, d1, ds1, p1, q1, _, rfl, _, _, hr1⟩ := trodAll_cons hA
    obtain ⟨v2, vs2, d2, ds2, p2, q2, rfl, rfl, _, _, hr2⟩ := trodAll_cons hr1
    obtain ⟨rfl, rfl, rfl⟩ := trodAll_nil hr2
    rfl
  · have h := hwt
    rw [hgs, List.append_nil, show (OpenSpec.ofChange Rows.enqModelSpec).bare.plain.varTypes Tryz.prog = [] from rfl, List.append_nil] at h
    exact h
  · intro x avs H' hk ha hsm
    obtain ⟨c1, r1, rfl, h1, c2, r2, rfl, h2, rfl⟩ := ha
    obtain ⟨v, rfl, e⟩ := slice_one h2
    rw [e]
    exact enqModel_args (hk.get tabH_get) h1 h2
theorem enqModel_laid (os : Os) : laidMet Tryz.prog Rows.enqModelRow.laid ((laidWorld os).forCall (fun _ _ => 0) ⟨#[], #[Value.agg #[.int .i64 0, .int .i64 0, .int .i64 0, .int .i64 0, .int .u64 0], Value.slice none 0 0], []⟩).memory :=
  laidMet_of_run' 8 (by kernel_rfl) (by kernel_rfl)
theorem enqModel_reads (os : Os) {H : Type} (enc : TypeId × Value → H) : ∃ places, DataW.whole enc Tryz.prog ((laidWorld os).forCall (fun _ _ => 0) ⟨#[], #[Value.agg #[.int .i64 0, .int .i64 0, .int .i64 0, .int .i64 0, .int .u64 0], Value.slice none 0 0], []⟩).memory Tryz.f5.params.toList Rows.enqModelSpec.vars false #[Value.agg #[.int .i64 0, .int .i64 0, .int .i64 0, .int .i64 0, .int .u64 0], Value.slice none 0 0].toList 8 = some ([.agg [.lit (.int .i64 0), .lit (.int .i64 0), .lit (.int .i64 0), .lit (.int .i64 0), .lit (.int .u64 0)], .nil], [], places) :=
  ⟨[], by kernel_rfl⟩
theorem enqModel_lifted (os : Os) (started : os.Started) (H : Type) (enc : TypeId × Value → H) (F : Stop.Interp) :
    ReturnsInHanded {} Tryz.checked os 5 .any ((OpenSpec.ofChange Rows.enqModelSpec).preRow enc Tryz.prog Tryz.f5 Rows.enqModelRow.domain false Rows.enqModelRow.laid) (((OpenSpec.ofChange Rows.enqModelSpec).at F).post enc Tryz.prog Tryz.f5 false true false false) := by
  obtain ⟨places, hx⟩ := enqModel_reads os enc
  refine returnsInHanded_of_row (C := Tryz.checked) (s := OpenSpec.ofChange Rows.enqModelSpec) own started (by kernel_rfl) Tryz.func5
    (witness_row_at (enc := enc) (C := Tryz.checked) false (laidWorld os) #[Value.agg #[.int .i64 0, .int .i64 0, .int .i64 0, .int .i64 0, .int .u64 0], Value.slice none 0 0] rfl (by kernel_rfl) (by kernel_rfl) (by kernel_rfl)
      (OpenSpec.preRow_of_cond 8 hx (by kernel_rfl) (fun k hk => by cases hk) (by kernel_rfl) (enqModel_laid os))) ?_
  intro W base args ds gs before hval hW _ _ hwt hL _ _
  exact enqModel_contract H enc W base args ds gs before hval hW hwt hL
theorem enqModel_f1 : (Rows.enqModelRow.inPlace == Tryz.prog.inPlace 5) = true := by kernel_rfl
theorem enqModel_f2 : (Rows.enqModelRow.unfollowed == Tryz.prog.unfollowed 5) = true := by kernel_rfl
theorem enqModel_f3 : (Rows.enqModelRow.recurses == Tryz.prog.recurses 5) = true := by kernel_rfl
theorem enqModel_f4 : (Rows.enqModelRow.named == Tryz.prog.varsNamed 5) = true := by kernel_rfl
theorem enqModel_facts : joinedFacts Tryz.prog 5 Tryz.f5 (OpenSpec.ofChange Rows.enqModelSpec).bare Rows.enqModelRow = true :=
  (and_t (and_t (and_t (and_t (and_t (and_t (and_t (and_t (and_t (and_t (and_t (and_t (and_t (and_t (and_t (and_t (and_t (and_t (and_t (and_t (and_t (and_t (and_t (and_t (and_t (and_t (and_t (and_t (and_t (and_t (and_t (by kernel_rfl) laidOut) mapsRowed_t) (by kernel_rfl)) (by kernel_rfl)) (by kernel_rfl)) (by kernel_rfl)) (by kernel_rfl)) (by kernel_rfl)) enqModel_f1) enqModel_f2) enqModel_f3) enqModel_f4) (by kernel_rfl)) (by kernel_rfl)) (by kernel_rfl)) (by kernel_rfl)) (by kernel_rfl)) (by kernel_rfl)) (by kernel_rfl)) (by kernel_rfl)) (by kernel_rfl)) (by kernel_rfl)) (by kernel_rfl)) stopsHeard_t) mayEnter_t) (by kernel_rfl)) (by kernel_rfl)) (by kernel_rfl)) (by kernel_rfl)) (by kernel_rfl)) (by kernel_rfl))
theorem enqModel_said : Rows.EnqModelSaid :=
  OpenClaim.holds_of_cond 5 Tryz.f5 rfl rfl rfl rfl rfl rfl rfl ⟨rfl, rfl, rfl, rfl, rfl⟩ rfl rfl rfl rfl rfl (by kernel_rfl) Tryz.func5 enqModel_facts
    (of_decide_eq_true (by kernel_rfl)) (by unfold Func.isWrapper; first | (rw [if_pos (by decide +kernel)]; kernel_rfl) | (rw [if_neg (by decide +kernel)]; exact ⟨rfl, rfl⟩))
    (fun os started H enc _ F => by rw [OpenClaim.pre_eq_preRow]; exact enqModel_lifted os started H enc F)
theorem enqModel_plain (f : FuncId) (fn : Func) (hf : Tryz.pinned.checked.prog.funcNamed "weighbridge/weighbridgelaw23.EnqModel" = some f) (hfn : Tryz.pinned.checked.prog.funcs[f]? = some fn) :
    false = Tryz.pinned.checked.prog.looks [] ∧ ∀ (j : Nat) t, fn.params[j]? = some t → Tryz.pinned.checked.prog.wantsStandIn t = false := by
  obtain rfl : f = 5 := Option.some.inj ((show Tryz.prog.funcNamed "weighbridge/weighbridgelaw23.EnqModel" = some 5 by kernel_rfl).symm.trans hf) |>.symm
  obtain rfl : fn = Tryz.f5 := (Option.some.inj (Tryz.func5.symm.trans hfn)).symm
  refine ⟨by kernel_rfl, fun j t ht => ?_⟩
  have all : Tryz.f5.params.toList.all (fun t => !Tryz.prog.wantsStandIn t) = true := by kernel_rfl
  have := List.all_eq_true.1 all t (by simpa using Array.mem_of_getElem? ht)
  have h2 : Tryz.prog.wantsStandIn t = false := by simpa using this
  exact h2
/-- THE CARD. -/
theorem enqModel_card : Rows.EnqModelCardSaid :=
  Claim7.holds_tied_plain_at .later [] _ _ _ _ enqModel_said (fun _ h => by cases h) (by kernel_rfl) (fun _ h => by cases h) enqModel_row_tie rfl ⟨rfl, rfl⟩ (by kernel_rfl) rfl enqModel_plain (by kernel_rfl)
end Go.Proofs.YtghoamdlcjdfjaaGreatDoor.Gst
