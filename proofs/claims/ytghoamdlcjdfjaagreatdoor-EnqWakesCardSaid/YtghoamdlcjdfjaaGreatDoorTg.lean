/- Proved: the given Go statement EnqWakes answers true for every input (behind packets offered by four workers, by turns, that have all ended nobody is in the section, and just the objects that got a packet are in the list of their shard, each once), and leaves its arguments as they were. Conditions: those of its row alone; the table of Go's library holds what its text lays (the card ties it). -/
import Derived.Test.YtghoamdlcjdfjaaGreatDoorZd
import Derived.Test.YtghoamdlcjdfjaaGreatDoorAwg
namespace Go.Proofs.YtghoamdlcjdfjaaGreatDoor.Gst
open Go Go.ChangeShapes Go.WideShapes Go.ChangeAt Go.RowKit
set_option maxRecDepth 100000
set_option linter.unusedSimpArgs false

theorem enqWakes_contract (H : Type) (enc : TypeId × Value → H) (W : World) (base : Nat) (args : Array Value) (ds gs : List (DataW H)) (before : List MemPlace)
    (hval : ∀ (j : Nat) t v, Tryz.f8.params[j]? = some t → args[j]? = some v → Value.okWide Tryz.prog W .any base t v)
    (hW : DataW.Whole enc Tryz.prog Tryz.f8.params.toList Rows.enqWakesSpec.vars false W args.toList ds gs before) (hwt : (DataW.weightsEach Tryz.prog (Tryz.f8.params.toList ++ (OpenSpec.ofChange Rows.enqWakesSpec).bare.plain.varTypes Tryz.prog) (ds ++ gs)).all (· ≤ reachBytes) = true) (hL : laidMetH Tryz.prog Rows.enqWakesRow.laid W) :
    Calls Tryz.prog 8 args W fun e W' => ∃ v, e = .returned v ∧ Rows.enqWakesSpec.post enc Tryz.prog Tryz.f8 false true false false W args v W' := by
  obtain ⟨ρ, hR, hG⟩ := rel_tab hL
  have hgs : gs = [] := by
    obtain ⟨p, q, _, hV, _⟩ := hW
    exact (trodVars_none hV).1
  refine law_post (tys := [CfgTy, .slice ClTy, .slice (.int .i64)]) mixed laidOut (by kernel_rfl) (tb := 4) (by kernel_rfl) (by kernel_rfl) rfl (fun j t v h1 h2 => ⟨_, _, hval j t v h1 h2⟩) hW ?_ hR hG ?_ ?_
  · subst hgs
    obtain ⟨p, q, hA, _⟩ := hW
    have hp : Tryz.f8.params.toList = [24, 25, 76] := by kernel_rfl
    rw [hp] at hA
    obtain ⟨v1, vs1, d1, ds1, p1, q1, _, rfl, _, _, hr1⟩ := trodAll_cons hA
    obtain ⟨v2, vs2, d2, ds2, p2, q2, rfl, rfl, _, _, hr2⟩ := trodAll_cons hr1
    obtain ⟨v3, vs3, d3, ds3, p3, q3, rfl, rfl, _, _, hr3⟩ := trodAll_cons hr2
    obtain ⟨rfl, rfl, rfl⟩ := trodAll_nil hr3
    rfl
  · have h := hwt
    rw [hgs, List.append_nil, show (OpenSpec.ofChange Rows.enqWakesSpec).bare.plain.varTypes Tryz.prog = [] from rfl, List.append_nil] at h
    exact h
  · intro x avs H' hk ha hsm
    obtain ⟨c1, r1, rfl, h1, c2, r2, rfl, h2, c3, r3, rfl, h3, rfl⟩ := ha
    obtain ⟨v, rfl, e⟩ := slice_one h2
    obtain ⟨v3, rfl, e3⟩ := slice_one h3
    rw [e, e3]
    exact enqWakes_args (hk.get tabH_get) h1 h2 h3
theorem enqWakes_laid (os : Os) : laidMet Tryz.prog Rows.enqWakesRow.laid ((laidWorld os).forCall (fun _ _ => 0) ⟨#[], #[Value.agg #[.int .i64 0, .int .i64 0, .int .i64 0, .int .i64 0, .int .u64 0], Value.slice none 0 0, Value.slice none 0 0], []⟩).memory :=
  laidMet_of_run' 8 (by kernel_rfl) (by kernel_rfl)
theorem enqWakes_reads (os : Os) {H : Type} (enc : TypeId × Value → H) : ∃ places, DataW.whole enc Tryz.prog ((laidWorld os).forCall (fun _ _ => 0) ⟨#[], #[Value.agg #[.int .i64 0, .int .i64 0, .int .i64 0, .int .i64 0, .int .u64 0], Value.slice none 0 0, Value.slice none 0 0], []⟩).memory Tryz.f8.params.toList Rows.enqWakesSpec.vars false #[Value.agg #[.int .i64 0, .int .i64 0, .int .i64 0, .int .i64 0, .int .u64 0], Value.slice none 0 0, Value.slice none 0 0].toList 8 = some ([.agg [.lit (.int .i64 0), .lit (.int .i64 0), .lit (.int .i64 0), .lit (.int .i64 0), .lit (.int .u64 0)], .nil, .nil], [], places) :=
  ⟨[], by kernel_rfl⟩
theorem enqWakes_lifted (os : Os) (started : os.Started) (H : Type) (enc : TypeId × Value → H) (F : Stop.Interp) :
    ReturnsInHanded {} Tryz.checked os 8 .any ((OpenSpec.ofChange Rows.enqWakesSpec).preRow enc Tryz.prog Tryz.f8 Rows.enqWakesRow.domain false Rows.enqWakesRow.laid) (((OpenSpec.ofChange Rows.enqWakesSpec).at F).post enc Tryz.prog Tryz.f8 false true false false) := by
  obtain ⟨places, hx⟩ := enqWakes_reads os enc
  refine returnsInHanded_of_row (C := Tryz.checked) (s := OpenSpec.ofChange Rows.enqWakesSpec) own started (by kernel_rfl) Tryz.func8
    (witness_row_at (enc := enc) (C := Tryz.checked) false (laidWorld os) #[Value.agg #[.int .i64 0, .int .i64 0, .int .i64 0, .int .i64 0, .int .u64 0], Value.slice none 0 0, Value.slice none 0 0] rfl (by kernel_rfl) (by kernel_rfl) (by kernel_rfl)
      (OpenSpec.preRow_of_cond 8 hx (by kernel_rfl) (fun k hk => by cases hk) (by kernel_rfl) (enqWakes_laid os))) ?_
  intro W base args ds gs before hval hW _ _ hwt hL _ _
  exact enqWakes_contract H enc W base args ds gs before hval hW hwt hL
theorem enqWakes_f1 : (Rows.enqWakesRow.inPlace == Tryz.prog.inPlace 8) = true := by kernel_rfl
theorem enqWakes_f2 : (Rows.enqWakesRow.unfollowed == Tryz.prog.unfollowed 8) = true := by kernel_rfl
theorem enqWakes_f3 : (Rows.enqWakesRow.recurses == Tryz.prog.recurses 8) = true := by kernel_rfl
theorem enqWakes_f4 : (Rows.enqWakesRow.named == Tryz.prog.varsNamed 8) = true := by kernel_rfl
theorem enqWakes_facts : joinedFacts Tryz.prog 8 Tryz.f8 (OpenSpec.ofChange Rows.enqWakesSpec).bare Rows.enqWakesRow = true :=
  (and_t (and_t (and_t (and_t (and_t (and_t (and_t (and_t (and_t (and_t (and_t (and_t (and_t (and_t (and_t (and_t (and_t (and_t (and_t (and_t (and_t (and_t (and_t (and_t (and_t (and_t (and_t (and_t (and_t (and_t (and_t (by kernel_rfl) laidOut) mapsRowed_t) (by kernel_rfl)) (by kernel_rfl)) (by kernel_rfl)) (by kernel_rfl)) (by kernel_rfl)) (by kernel_rfl)) enqWakes_f1) enqWakes_f2) enqWakes_f3) enqWakes_f4) (by kernel_rfl)) (by kernel_rfl)) (by kernel_rfl)) (by kernel_rfl)) (by kernel_rfl)) (by kernel_rfl)) (by kernel_rfl)) (by kernel_rfl)) (by kernel_rfl)) (by kernel_rfl)) (by kernel_rfl)) stopsHeard_t) mayEnter_t) (by kernel_rfl)) (by kernel_rfl)) (by kernel_rfl)) (by kernel_rfl)) (by kernel_rfl)) (by kernel_rfl))
theorem enqWakes_said : Rows.EnqWakesSaid :=
  OpenClaim.holds_of_cond 8 Tryz.f8 rfl rfl rfl rfl rfl rfl rfl ⟨rfl, rfl, rfl, rfl, rfl⟩ rfl rfl rfl rfl rfl (by kernel_rfl) Tryz.func8 enqWakes_facts
    (of_decide_eq_true (by kernel_rfl)) (by unfold Func.isWrapper; first | (rw [if_pos (by decide +kernel)]; kernel_rfl) | (rw [if_neg (by decide +kernel)]; exact ⟨rfl, rfl⟩))
    (fun os started H enc _ F => by rw [OpenClaim.pre_eq_preRow]; exact enqWakes_lifted os started H enc F)
theorem enqWakes_plain (f : FuncId) (fn : Func) (hf : Tryz.pinned.checked.prog.funcNamed "weighbridge/weighbridgelaw23.EnqWakes" = some f) (hfn : Tryz.pinned.checked.prog.funcs[f]? = some fn) :
    false = Tryz.pinned.checked.prog.looks [] ∧ ∀ (j : Nat) t, fn.params[j]? = some t → Tryz.pinned.checked.prog.wantsStandIn t = false := by
  obtain rfl : f = 8 := Option.some.inj ((show Tryz.prog.funcNamed "weighbridge/weighbridgelaw23.EnqWakes" = some 8 by kernel_rfl).symm.trans hf) |>.symm
  obtain rfl : fn = Tryz.f8 := (Option.some.inj (Tryz.func8.symm.trans hfn)).symm
  refine ⟨by kernel_rfl, fun j t ht => ?_⟩
  have all : Tryz.f8.params.toList.all (fun t => !Tryz.prog.wantsStandIn t) = true := by kernel_rfl
  have := List.all_eq_true.1 all t (by simpa using Array.mem_of_getElem? ht)
  have h2 : Tryz.prog.wantsStandIn t = false := by simpa using this
  exact h2
/-- THE CARD. -/
theorem enqWakes_card : Rows.EnqWakesCardSaid :=
  Claim7.holds_tied_plain_at .later [] _ _ _ _ enqWakes_said (fun _ h => by cases h) (by kernel_rfl) (fun _ h => by cases h) enqWakes_row_tie rfl ⟨rfl, rfl⟩ (by kernel_rfl) rfl enqWakes_plain (by kernel_rfl)
end Go.Proofs.YtghoamdlcjdfjaaGreatDoor.Gst
