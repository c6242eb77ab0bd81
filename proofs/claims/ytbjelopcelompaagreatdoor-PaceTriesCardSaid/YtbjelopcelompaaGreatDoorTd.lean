/- Proved: the given Go statement PaceTries answers true for every input (of any events, the program tells whether each swap of a word that was not done had one by another worker ahead of it, just as the reference does), and leaves its arguments as they were. Conditions: those of its row alone; the table of Go's library holds what its text lays (the card ties it). -/
import Derived.Test.YtbjelopcelompaaGreatDoorTa
import Derived.Test.YtbjelopcelompaaGreatDoorQi
namespace Go.Proofs.YtbjelopcelompaaGreatDoor.Gst
open Go Go.ChangeShapes Go.WideShapes Go.ChangeAt Go.RowKit
set_option maxRecDepth 100000
set_option linter.unusedSimpArgs false

theorem paceTries_contract (H : Type) (enc : TypeId × Value → H) (W : World) (base : Nat) (args : Array Value) (ds gs : List (DataW H)) (before : List MemPlace)
    (hval : ∀ (j : Nat) t v, Tryz.f7.params[j]? = some t → args[j]? = some v → Value.okWide Tryz.prog W .any base t v)
    (hW : DataW.Whole enc Tryz.prog Tryz.f7.params.toList Rows.paceTriesSpec.vars false W args.toList ds gs before) (hL : laidMetH Tryz.prog Rows.paceTriesRow.laid W) :
    Calls Tryz.prog 7 args W fun e W' => ∃ v, e = .returned v ∧ Rows.paceTriesSpec.post enc Tryz.prog Tryz.f7 false true false false W args v W' := by
  obtain ⟨ρ, hR, hG⟩ := rel_tab hL
  have hgs : gs = [] := by
    obtain ⟨p, q, _, hV, _⟩ := hW
    exact (trodVars_none hV).1
  refine law_post (tys := [.slice (.pair (.int .i64) (.pair (.int .i64) (.pair (.pair (.int .i64) (.pair (.int .i64) (.pair (.int .i64) .unit))) .unit))), .bool]) mixed laidOut (by kernel_rfl) (tb := 4) (by kernel_rfl) (by kernel_rfl) rfl (fun j t v h1 h2 => ⟨_, _, hval j t v h1 h2⟩) hW ?_ hR hG ?_
  · subst hgs
    obtain ⟨p, q, hA, _⟩ := hW
    have hp : Tryz.f7.params.toList = [43, 4] := by kernel_rfl
    rw [hp] at hA
    obtain ⟨v1, vs1, d1, ds1, p1, q1, _, rfl, _, _, hr1⟩ := trodAll_cons hA
    obtain ⟨v2, vs2, d2, ds2, p2, q2, rfl, rfl, _, _, hr2⟩ := trodAll_cons hr1
    obtain ⟨rfl, rfl, rfl⟩ := trodAll_nil hr2
    rfl
  · intro x avs H' hk ha
    obtain ⟨c1, r1, rfl, h1, c2, r2, rfl, h2, rfl⟩ := ha
    obtain ⟨v, rfl, e⟩ := slice_one h1
    rw [e, bool_of h2]
    exact paceTries (hk.get tabH_get) h1 _
theorem paceTries_laid (os : Os) : laidMet Tryz.prog Rows.paceTriesRow.laid ((laidWorld os).forCall (fun _ _ => 0) ⟨#[], #[Value.slice none 0 0, Value.bool false], []⟩).memory :=
  laidMet_of_run' 8 (by kernel_rfl) (by kernel_rfl)
theorem paceTries_reads (os : Os) {H : Type} (enc : TypeId × Value → H) : ∃ places, DataW.whole enc Tryz.prog ((laidWorld os).forCall (fun _ _ => 0) ⟨#[], #[Value.slice none 0 0, Value.bool false], []⟩).memory Tryz.f7.params.toList Rows.paceTriesSpec.vars false #[Value.slice none 0 0, Value.bool false].toList 8 = some ([.nil, .lit (.bool false)], [], places) :=
  ⟨[], by kernel_rfl⟩
theorem paceTries_lifted (os : Os) (started : os.Started) (H : Type) (enc : TypeId × Value → H) (F : Stop.Interp) :
    ReturnsInHanded {} Tryz.checked os 7 .any ((OpenSpec.ofChange Rows.paceTriesSpec).preRow enc Tryz.prog Tryz.f7 Rows.paceTriesRow.domain false Rows.paceTriesRow.laid) (((OpenSpec.ofChange Rows.paceTriesSpec).at F).post enc Tryz.prog Tryz.f7 false true false false) := by
  obtain ⟨places, hx⟩ := paceTries_reads os enc
  refine returnsInHanded_of_row (C := Tryz.checked) (s := OpenSpec.ofChange Rows.paceTriesSpec) own started (by kernel_rfl) Tryz.func7
    (witness_row_at (enc := enc) (C := Tryz.checked) false (laidWorld os) #[Value.slice none 0 0, Value.bool false] rfl (by kernel_rfl) (by kernel_rfl) (by kernel_rfl)
      (OpenSpec.preRow_of_cond 8 hx (by kernel_rfl) (fun k hk => by cases hk) (by kernel_rfl) (paceTries_laid os))) ?_
  intro W base args ds gs before hval hW _ _ _ hL _ _
  exact paceTries_contract H enc W base args ds gs before hval hW hL
theorem paceTries_f1 : (Rows.paceTriesRow.inPlace == Tryz.prog.inPlace 7) = true := by kernel_rfl
theorem paceTries_f2 : (Rows.paceTriesRow.unfollowed == Tryz.prog.unfollowed 7) = true := by kernel_rfl
theorem paceTries_f3 : (Rows.paceTriesRow.recurses == Tryz.prog.recurses 7) = true := by kernel_rfl
theorem paceTries_f4 : (Rows.paceTriesRow.named == Tryz.prog.varsNamed 7) = true := by kernel_rfl
theorem paceTries_facts : joinedFacts Tryz.prog 7 Tryz.f7 (OpenSpec.ofChange Rows.paceTriesSpec).bare Rows.paceTriesRow = true :=
  (and_t (and_t (and_t (and_t (and_t (and_t (and_t (and_t (and_t (and_t (and_t (and_t (and_t (and_t (and_t (and_t (and_t (and_t (and_t (and_t (and_t (and_t (and_t (and_t (and_t (and_t (and_t (and_t (and_t (and_t (and_t (by kernel_rfl) laidOut) mapsRowed_t) (by kernel_rfl)) (by kernel_rfl)) (by kernel_rfl)) (by kernel_rfl)) (by kernel_rfl)) (by kernel_rfl)) paceTries_f1) paceTries_f2) paceTries_f3) paceTries_f4) (by kernel_rfl)) (by kernel_rfl)) (by kernel_rfl)) (by kernel_rfl)) (by kernel_rfl)) (by kernel_rfl)) (by kernel_rfl)) (by kernel_rfl)) (by kernel_rfl)) (by kernel_rfl)) (by kernel_rfl)) stopsHeard_t) mayEnter_t) (by kernel_rfl)) (by kernel_rfl)) (by kernel_rfl)) (by kernel_rfl)) (by kernel_rfl)) (by kernel_rfl))
theorem paceTries_said : Rows.PaceTriesSaid :=
  OpenClaim.holds_of_cond 7 Tryz.f7 rfl rfl rfl rfl rfl rfl rfl ⟨rfl, rfl, rfl, rfl, rfl⟩ rfl rfl rfl rfl rfl (by kernel_rfl) Tryz.func7 paceTries_facts
    (of_decide_eq_true (by kernel_rfl)) (by unfold Func.isWrapper; first | (rw [if_pos (by decide +kernel)]; kernel_rfl) | (rw [if_neg (by decide +kernel)]; exact ⟨rfl, rfl⟩))
    (fun os started H enc _ F => by rw [OpenClaim.pre_eq_preRow]; exact paceTries_lifted os started H enc F)
theorem paceTries_plain (f : FuncId) (fn : Func) (hf : Tryz.pinned.checked.prog.funcNamed "weighbridge/weighbridgelaw29.PaceTries" = some f) (hfn : Tryz.pinned.checked.prog.funcs[f]? = some fn) :
    true = Tryz.pinned.checked.prog.looks [] ∧ ∀ (j : Nat) t, fn.params[j]? = some t → Tryz.pinned.checked.prog.wantsStandIn t = false := by
  obtain rfl : f = 7 := Option.some.inj ((show Tryz.prog.funcNamed "weighbridge/weighbridgelaw29.PaceTries" = some 7 by kernel_rfl).symm.trans hf) |>.symm
  obtain rfl : fn = Tryz.f7 := (Option.some.inj (Tryz.func7.symm.trans hfn)).symm
  refine ⟨by kernel_rfl, fun j t ht => ?_⟩
  have all : Tryz.f7.params.toList.all (fun t => !Tryz.prog.wantsStandIn t) = true := by kernel_rfl
  have := List.all_eq_true.1 all t (by simpa using Array.mem_of_getElem? ht)
  have h2 : Tryz.prog.wantsStandIn t = false := by simpa using this
  exact h2
/-- THE CARD. -/
theorem paceTries_card : Rows.PaceTriesCardSaid :=
  Claim7.holds_tied_plain_at .later [] _ _ _ _ paceTries_said (fun _ h => by cases h) (by kernel_rfl) (fun _ h => by cases h) paceTries_row_tie rfl ⟨rfl, rfl⟩ (by kernel_rfl) rfl paceTries_plain (by kernel_rfl)
end Go.Proofs.YtbjelopcelompaaGreatDoor.Gst
