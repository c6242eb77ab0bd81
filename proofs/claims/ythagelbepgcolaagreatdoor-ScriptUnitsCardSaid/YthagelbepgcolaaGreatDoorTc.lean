/- Proved: the given Go statement ScriptUnits answers true for every input (any unit of length goes there and back; one that may not be has no bytes), and leaves its arguments as they were. Conditions: those of its row alone; the table of Go's library holds what its text lays (the card ties it). -/
import Derived.Test.YthagelbepgcolaaGreatDoorTa
import Derived.Test.YthagelbepgcolaaGreatDoorPi
namespace Go.Proofs.YthagelbepgcolaaGreatDoor.Gst
open Go Go.ChangeShapes Go.WideShapes Go.ChangeAt Go.RowKit
set_option maxRecDepth 100000
set_option linter.unusedSimpArgs false

theorem scriptUnits_contract (H : Type) (enc : TypeId × Value → H) (W : World) (base : Nat) (args : Array Value) (ds gs : List (DataW H)) (before : List MemPlace)
    (hval : ∀ (j : Nat) t v, Tryz.f4.params[j]? = some t → args[j]? = some v → Value.okWide Tryz.prog W .any base t v)
    (hW : DataW.Whole enc Tryz.prog Tryz.f4.params.toList Rows.scriptUnitsSpec.vars false W args.toList ds gs before) (hwt : (DataW.weightsEach Tryz.prog (Tryz.f4.params.toList ++ (OpenSpec.ofChange Rows.scriptUnitsSpec).bare.plain.varTypes Tryz.prog) (ds ++ gs)).all (· ≤ reachBytes) = true) (hL : laidMetH Tryz.prog Rows.scriptUnitsRow.laid W) :
    Calls Tryz.prog 4 args W fun e W' => ∃ v, e = .returned v ∧ Rows.scriptUnitsSpec.post enc Tryz.prog Tryz.f4 false true false false W args v W' := by
  obtain ⟨ρ, hR, hG⟩ := rel_tab hL
  have hgs : gs = [] := by
    obtain ⟨p, q, _, hV, _⟩ := hW
    exact (trodVars_none hV).1
  refine law_post (tys := [.int .u64, CfgTy]) mixed laidOut (by kernel_rfl) (tb := 4) (by kernel_rfl) (by kernel_rfl) rfl (fun j t v h1 h2 => ⟨_, _, hval j t v h1 h2⟩) hW ?_ hR hG ?_ ?_
  · subst hgs
    obtain ⟨p, q, hA, _⟩ := hW
    have hp : Tryz.f4.params.toList = [22, 24] := by kernel_rfl
    rw [hp] at hA
    obtain ⟨v1, vs1, d1, ds1, p1, q1, _, rfl, _, _, hr1⟩ := trodAll_cons hA
    obtain ⟨v2, vs2, d2, ds2, p2, q2, rfl, rfl, _, _, hr2⟩ := trodAll_cons hr1
    obtain ⟨rfl, rfl, rfl⟩ := trodAll_nil hr2
    rfl
  · have h := hwt
    rw [hgs, List.append_nil, show (OpenSpec.ofChange Rows.scriptUnitsSpec).bare.plain.varTypes Tryz.prog = [] from rfl, List.append_nil] at h
    exact h
  · intro x avs H' hk ha hsm
    obtain ⟨c1, r1, rfl, h1, c2, r2, rfl, h2, rfl⟩ := ha
    obtain ⟨b, hb, e⟩ := u64_of h1
    rw [e]
    exact scriptUnits_args (tab4 hk) hb h2
theorem scriptUnits_laid (os : Os) : laidMet Tryz.prog Rows.scriptUnitsRow.laid ((laidWorld os).forCall (fun _ _ => 0) ⟨#[], #[Value.int .u64 0, Value.agg #[.int .i64 0, .int .i64 0, .int .i64 0, .int .i64 0, .int .u64 0]], []⟩).memory :=
  laidMet_of_run' 8 (by kernel_rfl) (by kernel_rfl)
theorem scriptUnits_reads (os : Os) {H : Type} (enc : TypeId × Value → H) : ∃ places, DataW.whole enc Tryz.prog ((laidWorld os).forCall (fun _ _ => 0) ⟨#[], #[Value.int .u64 0, Value.agg #[.int .i64 0, .int .i64 0, .int .i64 0, .int .i64 0, .int .u64 0]], []⟩).memory Tryz.f4.params.toList Rows.scriptUnitsSpec.vars false #[Value.int .u64 0, Value.agg #[.int .i64 0, .int .i64 0, .int .i64 0, .int .i64 0, .int .u64 0]].toList 8 = some ([.lit (.int .u64 0), .agg [.lit (.int .i64 0), .lit (.int .i64 0), .lit (.int .i64 0), .lit (.int .i64 0), .lit (.int .u64 0)]], [], places) :=
  ⟨[], by kernel_rfl⟩
theorem scriptUnits_lifted (os : Os) (started : os.Started) (H : Type) (enc : TypeId × Value → H) (F : Stop.Interp) :
    ReturnsInHanded {} Tryz.checked os 4 .any ((OpenSpec.ofChange Rows.scriptUnitsSpec).preRow enc Tryz.prog Tryz.f4 Rows.scriptUnitsRow.domain false Rows.scriptUnitsRow.laid) (((OpenSpec.ofChange Rows.scriptUnitsSpec).at F).post enc Tryz.prog Tryz.f4 false true false false) := by
  obtain ⟨places, hx⟩ := scriptUnits_reads os enc
  refine returnsInHanded_of_row (C := Tryz.checked) (s := OpenSpec.ofChange Rows.scriptUnitsSpec) own started (by kernel_rfl) Tryz.func4
    (witness_row_at (enc := enc) (C := Tryz.checked) false (laidWorld os) #[Value.int .u64 0, Value.agg #[.int .i64 0, .int .i64 0, .int .i64 0, .int .i64 0, .int .u64 0]] rfl (by kernel_rfl) (by kernel_rfl) (by kernel_rfl)
      (OpenSpec.preRow_of_cond 8 hx (by kernel_rfl) (fun k hk => by cases hk) (by kernel_rfl) (scriptUnits_laid os))) ?_
  intro W base args ds gs before hval hW _ _ hwt hL _ _
  exact scriptUnits_contract H enc W base args ds gs before hval hW hwt hL
theorem scriptUnits_f1 : (Rows.scriptUnitsRow.inPlace == Tryz.prog.inPlace 4) = true := by kernel_rfl
theorem scriptUnits_f2 : (Rows.scriptUnitsRow.unfollowed == Tryz.prog.unfollowed 4) = true := by kernel_rfl
theorem scriptUnits_f3 : (Rows.scriptUnitsRow.recurses == Tryz.prog.recurses 4) = true := by kernel_rfl
theorem scriptUnits_f4 : (Rows.scriptUnitsRow.named == Tryz.prog.varsNamed 4) = true := by kernel_rfl
theorem scriptUnits_facts : joinedFacts Tryz.prog 4 Tryz.f4 (OpenSpec.ofChange Rows.scriptUnitsSpec).bare Rows.scriptUnitsRow = true :=
  (and_t (and_t (and_t (and_t (and_t (and_t (and_t (and_t (and_t (and_t (and_t (and_t (and_t (and_t (and_t (and_t (and_t (and_t (and_t (and_t (and_t (and_t (and_t (and_t (and_t (and_t (and_t (and_t (and_t (and_t (and_t (by kernel_rfl) laidOut) mapsRowed_t) (by kernel_rfl)) (by kernel_rfl)) (by kernel_rfl)) (by kernel_rfl)) (by kernel_rfl)) (by kernel_rfl)) scriptUnits_f1) scriptUnits_f2) scriptUnits_f3) scriptUnits_f4) (by kernel_rfl)) (by kernel_rfl)) (by kernel_rfl)) (by kernel_rfl)) (by kernel_rfl)) (by kernel_rfl)) (by kernel_rfl)) (by kernel_rfl)) (by kernel_rfl)) (by kernel_rfl)) (by kernel_rfl)) stopsHeard_t) mayEnter_t) (by kernel_rfl)) (by kernel_rfl)) (by kernel_rfl)) (by kernel_rfl)) (by kernel_rfl)) (by kernel_rfl))
theorem scriptUnits_said : Rows.ScriptUnitsSaid :=
  OpenClaim.holds_of_cond 4 Tryz.f4 rfl rfl rfl rfl rfl rfl rfl ⟨rfl, rfl, rfl, rfl, rfl⟩ rfl rfl rfl rfl rfl (by kernel_rfl) Tryz.func4 scriptUnits_facts
    (of_decide_eq_true (by kernel_rfl)) (by unfold Func.isWrapper; first | (rw [if_pos (by decide +kernel)]; kernel_rfl) | (rw [if_neg (by decide +kernel)]; exact ⟨rfl, rfl⟩))
    (fun os started H enc _ F => by rw [OpenClaim.pre_eq_preRow]; exact scriptUnits_lifted os started H enc F)
end Go.Proofs.YthagelbepgcolaaGreatDoor.Gst
