/- Proved: the given Go statement ScriptForms answers true for every input (a number of a config that has more bytes than it needs, or more than nine, is ErrForm; so is one above what it may be, or 0 where it must be 1 at least), and leaves its arguments as they were. Conditions: those of its row alone; the table of Go's library holds what its text lays (the card ties it). -/
import Derived.Test.YthagelbepgcolaaGreatDoorTa
import Derived.Test.YthagelbepgcolaaGreatDoorPi
namespace Go.Proofs.YthagelbepgcolaaGreatDoor.Gst
open Go Go.ChangeShapes Go.WideShapes Go.ChangeAt Go.RowKit
set_option maxRecDepth 100000
set_option linter.unusedSimpArgs false

theorem scriptForms_contract (H : Type) (enc : TypeId × Value → H) (W : World) (base : Nat) (args : Array Value) (ds gs : List (DataW H)) (before : List MemPlace)
    (hval : ∀ (j : Nat) t v, Tryz.f8.params[j]? = some t → args[j]? = some v → Value.okWide Tryz.prog W .any base t v)
    (hW : DataW.Whole enc Tryz.prog Tryz.f8.params.toList Rows.scriptFormsSpec.vars false W args.toList ds gs before) (hwt : (DataW.weightsEach Tryz.prog (Tryz.f8.params.toList ++ (OpenSpec.ofChange Rows.scriptFormsSpec).bare.plain.varTypes Tryz.prog) (ds ++ gs)).all (· ≤ reachBytes) = true) (hL : laidMetH Tryz.prog Rows.scriptFormsRow.laid W) :
    Calls Tryz.prog 8 args W fun e W' => ∃ v, e = .returned v ∧ Rows.scriptFormsSpec.post enc Tryz.prog Tryz.f8 false true false false W args v W' := by
  obtain ⟨ρ, hR, hG⟩ := rel_tab hL
  have hgs : gs = [] := by
    obtain ⟨p, q, _, hV, _⟩ := hW
    exact (trodVars_none hV).1
  refine law_post (tys := [PlanTy, .slice (.int .i64), .int .i64, .int .i64, .int .u64]) mixed laidOut (by kernel_rfl) (tb := 4) (by kernel_rfl) (by kernel_rfl) rfl (fun j t v h1 h2 => ⟨_, _, hval j t v h1 h2⟩) hW ?_ hR hG ?_ ?_
  · subst hgs
    obtain ⟨p, q, hA, _⟩ := hW
    have hp : Tryz.f8.params.toList = [27, 28, 3, 3, 22] := by kernel_rfl
    rw [hp] at hA
    obtain ⟨v1, vs1, d1, ds1, p1, q1, _, rfl, _, _, hr1⟩ := trodAll_cons hA
    obtain ⟨v2, vs2, d2, ds2, p2, q2, rfl, rfl, _, _, hr2⟩ := trodAll_cons hr1
    obtain ⟨v3, vs3, d3, ds3, p3, q3, rfl, rfl, _, _, hr3⟩ := trodAll_cons hr2
    obtain ⟨v4, vs4, d4, ds4, p4, q4, rfl, rfl, _, _, hr4⟩ := trodAll_cons hr3
    obtain ⟨v5, vs5, d5, ds5, p5, q5, rfl, rfl, _, _, hr5⟩ := trodAll_cons hr4
    obtain ⟨rfl, rfl, rfl⟩ := trodAll_nil hr5
    rfl
  · have h := hwt
    rw [hgs, List.append_nil, show (OpenSpec.ofChange Rows.scriptFormsSpec).bare.plain.varTypes Tryz.prog = [] from rfl, List.append_nil] at h
    exact h
  · intro x avs H' hk ha hsm
    obtain ⟨c1, r1, rfl, h1, c2, r2, rfl, h2, c3, r3, rfl, h3, c4, r4, rfl, h4, c5, r5, rfl, h5, rfl⟩ := ha
    obtain ⟨v2, rfl, e2⟩ := slice_one h2
    obtain ⟨b, hb, e5⟩ := u64_of h5
    rw [e2, i64_of h3, i64_of h4, e5]
    exact scriptForms_args (tab4 hk) h1 hsm.1 h2 _ _ hb
theorem scriptForms_laid (os : Os) : laidMet Tryz.prog Rows.scriptFormsRow.laid ((laidWorld os).forCall (fun _ _ => 0) ⟨#[], #[Value.agg #[.int .i64 0, .int .i64 0, .int .i64 0, .int .i64 0, .int .u64 0, .slice none 0 0], Value.slice none 0 0, Value.int .i64 0, Value.int .i64 0, Value.int .u64 0], []⟩).memory :=
  laidMet_of_run' 8 (by kernel_rfl) (by kernel_rfl)
theorem scriptForms_reads (os : Os) {H : Type} (enc : TypeId × Value → H) : ∃ places, DataW.whole enc Tryz.prog ((laidWorld os).forCall (fun _ _ => 0) ⟨#[], #[Value.agg #[.int .i64 0, .int .i64 0, .int .i64 0, .int .i64 0, .int .u64 0, .slice none 0 0], Value.slice none 0 0, Value.int .i64 0, Value.int .i64 0, Value.int .u64 0], []⟩).memory Tryz.f8.params.toList Rows.scriptFormsSpec.vars false #[Value.agg #[.int .i64 0, .int .i64 0, .int .i64 0, .int .i64 0, .int .u64 0, .slice none 0 0], Value.slice none 0 0, Value.int .i64 0, Value.int .i64 0, Value.int .u64 0].toList 8 = some ([.agg [.agg [.lit (.int .i64 0), .lit (.int .i64 0), .lit (.int .i64 0), .lit (.int .i64 0), .lit (.int .u64 0)], .nil], .nil, .lit (.int .i64 0), .lit (.int .i64 0), .lit (.int .u64 0)], [], places) :=
  ⟨[], by kernel_rfl⟩
theorem scriptForms_lifted (os : Os) (started : os.Started) (H : Type) (enc : TypeId × Value → H) (F : Stop.Interp) :
    ReturnsInHanded {} Tryz.checked os 8 .any ((OpenSpec.ofChange Rows.scriptFormsSpec).preRow enc Tryz.prog Tryz.f8 Rows.scriptFormsRow.domain false Rows.scriptFormsRow.laid) (((OpenSpec.ofChange Rows.scriptFormsSpec).at F).post enc Tryz.prog Tryz.f8 false true false false) := by
  obtain ⟨places, hx⟩ := scriptForms_reads os enc
  refine returnsInHanded_of_row (C := Tryz.checked) (s := OpenSpec.ofChange Rows.scriptFormsSpec) own started (by kernel_rfl) Tryz.func8
    (witness_row_at (enc := enc) (C := Tryz.checked) false (laidWorld os) #[Value.agg #[.int .i64 0, .int .i64 0, .int .i64 0, .int .i64 0, .int .u64 0, .slice none 0 0], Value.slice none 0 0, Value.int .i64 0, Value.int .i64 0, Value.int .u64 0] rfl (by kernel_rfl) (by kernel_rfl) (by kernel_rfl)
      (OpenSpec.preRow_of_cond 8 hx (by kernel_rfl) (fun k hk => by cases hk) (by kernel_rfl) (scriptForms_laid os))) ?_
  intro W base args ds gs before hval hW _ _ hwt hL _ _
  exact scriptForms_contract H enc W base args ds gs before hval hW hwt hL
theorem scriptForms_f1 : (Rows.scriptFormsRow.inPlace == Tryz.prog.inPlace 8) = true := by kernel_rfl
theorem scriptForms_f2 : (Rows.scriptFormsRow.unfollowed == Tryz.prog.unfollowed 8) = true := by kernel_rfl
theorem scriptForms_f3 : (Rows.scriptFormsRow.recurses == Tryz.prog.recurses 8) = true := by kernel_rfl
theorem scriptForms_f4 : (Rows.scriptFormsRow.named == Tryz.prog.varsNamed 8) = true := by kernel_rfl
theorem scriptForms_facts : joinedFacts Tryz.prog 8 Tryz.f8 (OpenSpec.ofChange Rows.scriptFormsSpec).bare Rows.scriptFormsRow = true :=
  (and_t (and_t (and_t (and_t (and_t (and_t (and_t (and_t (and_t (and_t (and_t (and_t (and_t (and_t (and_t (and_t (and_t (and_t (and_t (and_t (and_t (and_t (and_t (and_t (and_t (and_t (and_t (and_t (and_t (and_t (and_t (by kernel_rfl) laidOut) mapsRowed_t) (by kernel_rfl)) (by kernel_rfl)) (by kernel_rfl)) (by kernel_rfl)) (by kernel_rfl)) (by kernel_rfl)) scriptForms_f1) scriptForms_f2) scriptForms_f3) scriptForms_f4) (by kernel_rfl)) (by kernel_rfl)) (by kernel_rfl)) (by kernel_rfl)) (by kernel_rfl)) (by kernel_rfl)) (by kernel_rfl)) (by kernel_rfl)) (by kernel_rfl)) (by kernel_rfl)) (by kernel_rfl)) stopsHeard_t) mayEnter_t) (by kernel_rfl)) (by kernel_rfl)) (by kernel_rfl)) (by kernel_rfl)) (by kernel_rfl)) (by kernel_rfl))
theorem scriptForms_said : Rows.ScriptFormsSaid :=
  OpenClaim.holds_of_cond 8 Tryz.f8 rfl rfl rfl rfl rfl rfl rfl ⟨rfl, rfl, rfl, rfl, rfl⟩ rfl rfl rfl rfl rfl (by kernel_rfl) Tryz.func8 scriptForms_facts
    (of_decide_eq_true (by kernel_rfl)) (by unfold Func.isWrapper; first | (rw [if_pos (by decide +kernel)]; kernel_rfl) | (rw [if_neg (by decide +kernel)]; exact ⟨rfl, rfl⟩))
    (fun os started H enc _ F => by rw [OpenClaim.pre_eq_preRow]; exact scriptForms_lifted os started H enc F)
end Go.Proofs.YthagelbepgcolaaGreatDoor.Gst
