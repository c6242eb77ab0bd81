/- Proved: the given Go statement ScriptAbove answers true for every input (what stands above what it may be is ErrForm; just at what it may be at most it is none), and leaves its arguments as they were. Conditions: those of its row alone; the table of Go's library holds what its text lays (the card ties it). -/
import Derived.Test.YthagelbepgcolaaGreatDoorTa
import Derived.Test.YthagelbepgcolaaGreatDoorPi
namespace Go.Proofs.YthagelbepgcolaaGreatDoor.Gst
open Go Go.ChangeShapes Go.WideShapes Go.ChangeAt Go.RowKit
set_option maxRecDepth 100000
set_option linter.unusedSimpArgs false

theorem scriptAbove_contract (H : Type) (enc : TypeId × Value → H) (W : World) (base : Nat) (args : Array Value) (ds gs : List (DataW H)) (before : List MemPlace)
    (hval : ∀ (j : Nat) t v, Tryz.f9.params[j]? = some t → args[j]? = some v → Value.okWide Tryz.prog W .any base t v)
    (hW : DataW.Whole enc Tryz.prog Tryz.f9.params.toList Rows.scriptAboveSpec.vars false W args.toList ds gs before) (hwt : (DataW.weightsEach Tryz.prog (Tryz.f9.params.toList ++ (OpenSpec.ofChange Rows.scriptAboveSpec).bare.plain.varTypes Tryz.prog) (ds ++ gs)).all (· ≤ reachBytes) = true) (hL : laidMetH Tryz.prog Rows.scriptAboveRow.laid W) :
    Calls Tryz.prog 9 args W fun e W' => ∃ v, e = .returned v ∧ Rows.scriptAboveSpec.post enc Tryz.prog Tryz.f9 false true false false W args v W' := by
  obtain ⟨ρ, hR, hG⟩ := rel_tab hL
  have hgs : gs = [] := by
    obtain ⟨p, q, _, hV, _⟩ := hW
    exact (trodVars_none hV).1
  refine law_post (tys := [.int .i64, .int .i64, .int .i64]) mixed laidOut (by kernel_rfl) (tb := 4) (by kernel_rfl) (by kernel_rfl) rfl (fun j t v h1 h2 => ⟨_, _, hval j t v h1 h2⟩) hW ?_ hR hG ?_ ?_
  · subst hgs
    obtain ⟨p, q, hA, _⟩ := hW
    have hp : Tryz.f9.params.toList = [3, 3, 3] := by kernel_rfl
    rw [hp] at hA
    obtain ⟨v1, vs1, d1, ds1, p1, q1, _, rfl, _, _, hr1⟩ := trodAll_cons hA
    obtain ⟨v2, vs2, d2, ds2, p2, q2, rfl, rfl, _, _, hr2⟩ := trodAll_cons hr1
    obtain ⟨v3, vs3, d3, ds3, p3, q3, rfl, rfl, _, _, hr3⟩ := trodAll_cons hr2
    obtain ⟨rfl, rfl, rfl⟩ := trodAll_nil hr3
    rfl
  · have h := hwt
    rw [hgs, List.append_nil, show (OpenSpec.ofChange Rows.scriptAboveSpec).bare.plain.varTypes Tryz.prog = [] from rfl, List.append_nil] at h
    exact h
  · intro x avs H' hk ha hsm
    obtain ⟨c1, r1, rfl, h1, c2, r2, rfl, h2, c3, r3, rfl, h3, rfl⟩ := ha
    rw [i64_of h1, i64_of h2, i64_of h3]
    exact scriptAbove_args (tab4 hk) _ _ _
theorem scriptAbove_laid (os : Os) : laidMet Tryz.prog Rows.scriptAboveRow.laid ((laidWorld os).forCall (fun _ _ => 0) ⟨#[], #[Value.int .i64 0, Value.int .i64 0, Value.int .i64 0], []⟩).memory :=
  laidMet_of_run' 8 (by kernel_rfl) (by kernel_rfl)
theorem scriptAbove_reads (os : Os) {H : Type} (enc : TypeId × Value → H) : ∃ places, DataW.whole enc Tryz.prog ((laidWorld os).forCall (fun _ _ => 0) ⟨#[], #[Value.int .i64 0, Value.int .i64 0, Value.int .i64 0], []⟩).memory Tryz.f9.params.toList Rows.scriptAboveSpec.vars false #[Value.int .i64 0, Value.int .i64 0, Value.int .i64 0].toList 8 = some ([.lit (.int .i64 0), .lit (.int .i64 0), .lit (.int .i64 0)], [], places) :=
  ⟨[], by kernel_rfl⟩
theorem scriptAbove_lifted (os : Os) (started : os.Started) (H : Type) (enc : TypeId × Value → H) (F : Stop.Interp) :
    ReturnsInHanded {} Tryz.checked os 9 .any ((OpenSpec.ofChange Rows.scriptAboveSpec).preRow enc Tryz.prog Tryz.f9 Rows.scriptAboveRow.domain false Rows.scriptAboveRow.laid) (((OpenSpec.ofChange Rows.scriptAboveSpec).at F).post enc Tryz.prog Tryz.f9 false true false false) := by
  obtain ⟨places, hx⟩ := scriptAbove_reads os enc
  refine returnsInHanded_of_row (C := Tryz.checked) (s := OpenSpec.ofChange Rows.scriptAboveSpec) own started (by kernel_rfl) Tryz.func9
    (witness_row_at (enc := enc) (C := Tryz.checked) false (laidWorld os) #[Value.int .i64 0, Value.int .i64 0, Value.int .i64 0] rfl (by kernel_rfl) (by kernel_rfl) (by kernel_rfl)
      (OpenSpec.preRow_of_cond 8 hx (by kernel_rfl) (fun k hk => by cases hk) (by kernel_rfl) (scriptAbove_laid os))) ?_
  intro W base args ds gs before hval hW _ _ hwt hL _ _
  exact scriptAbove_contract H enc W base args ds gs before hval hW hwt hL
theorem scriptAbove_f1 : (Rows.scriptAboveRow.inPlace == Tryz.prog.inPlace 9) = true := by kernel_rfl
theorem scriptAbove_f2 : (Rows.scriptAboveRow.unfollowed == Tryz.prog.unfollowed 9) = true := by kernel_rfl
theorem scriptAbove_f3 : (Rows.scriptAboveRow.recurses == Tryz.prog.recurses 9) = true := by kernel_rfl
theorem scriptAbove_f4 : (Rows.scriptAboveRow.named == Tryz.prog.varsNamed 9) = true := by kernel_rfl
theorem scriptAbove_facts : joinedFacts Tryz.prog 9 Tryz.f9 (OpenSpec.ofChange Rows.scriptAboveSpec).bare Rows.scriptAboveRow = true :=
  (and_t (and_t (and_t (and_t (and_t (and_t (and_t (and_t (and_t (and_t (and_t (and_t (and_t (and_t (and_t (and_t (and_t (and_t (and_t (and_t (and_t (and_t (and_t (and_t (and_t (and_t (and_t (and_t (and_t (and_t (and_t (by kernel_rfl) laidOut) mapsRowed_t) (by kernel_rfl)) (by kernel_rfl)) (by kernel_rfl)) (by kernel_rfl)) (by kernel_rfl)) (by kernel_rfl)) scriptAbove_f1) scriptAbove_f2) scriptAbove_f3) scriptAbove_f4) (by kernel_rfl)) (by kernel_rfl)) (by kernel_rfl)) (by kernel_rfl)) (by kernel_rfl)) (by kernel_rfl)) (by kernel_rfl)) (by kernel_rfl)) (by kernel_rfl)) (by kernel_rfl)) (by kernel_rfl)) stopsHeard_t) mayEnter_t) (by kernel_rfl)) (by kernel_rfl)) (by kernel_rfl)) (by kernel_rfl)) (by kernel_rfl)) (by kernel_rfl))
theorem scriptAbove_said : Rows.ScriptAboveSaid :=
  OpenClaim.holds_of_cond 9 Tryz.f9 rfl rfl rfl rfl rfl rfl rfl ⟨rfl, rfl, rfl, rfl, rfl⟩ rfl rfl rfl rfl rfl (by kernel_rfl) Tryz.func9 scriptAbove_facts
    (of_decide_eq_true (by kernel_rfl)) (by unfold Func.isWrapper; first | (rw [if_pos (by decide +kernel)]; kernel_rfl) | (rw [if_neg (by decide +kernel)]; exact ⟨rfl, rfl⟩))
    (fun os started H enc _ F => by rw [OpenClaim.pre_eq_preRow]; exact scriptAbove_lifted os started H enc F)
end Go.Proofs.YthagelbepgcolaaGreatDoor.Gst
