/- Proved: the given Go statement PaceTurns answers true for every input (in rounds of all workers, each in an order of its own, each worker is in each window of twice less one as many; a wider window too; one worker more is in none), and leaves its arguments as they were. Conditions: those of its row alone; the table of Go's library holds what its text lays (the card ties it). -/
import Derived.Test.YtbjelopcelompaaGreatDoorTa
import Derived.Test.YtbjelopcelompaaGreatDoorQf
namespace Go.Proofs.YtbjelopcelompaaGreatDoor.Gst
open Go Go.ChangeShapes Go.WideShapes Go.ChangeAt Go.RowKit
set_option maxRecDepth 100000
set_option linter.unusedSimpArgs false

theorem paceTurns_contract (H : Type) (enc : TypeId × Value → H) (W : World) (base : Nat) (args : Array Value) (ds gs : List (DataW H)) (before : List MemPlace)
    (hval : ∀ (j : Nat) t v, Tryz.f6.params[j]? = some t → args[j]? = some v → Value.okWide Tryz.prog W .any base t v)
    (hW : DataW.Whole enc Tryz.prog Tryz.f6.params.toList Rows.paceTurnsSpec.vars false W args.toList ds gs before) (hL : laidMetH Tryz.prog Rows.paceTurnsRow.laid W) :
    Calls Tryz.prog 6 args W fun e W' => ∃ v, e = .returned v ∧ Rows.paceTurnsSpec.post enc Tryz.prog Tryz.f6 false true false false W args v W' := by
  obtain ⟨ρ, hR, hG⟩ := rel_tab hL
  have hgs : gs = [] := by
    obtain ⟨p, q, _, hV, _⟩ := hW
    exact (trodVars_none hV).1
  refine law_post (tys := [.int .i64, .slice (.int .i64)]) mixed laidOut (by kernel_rfl) (tb := 4) (by kernel_rfl) (by kernel_rfl) rfl (fun j t v h1 h2 => ⟨_, _, hval j t v h1 h2⟩) hW ?_ hR hG ?_
  · subst hgs
    obtain ⟨p, q, hA, _⟩ := hW
    have hp : Tryz.f6.params.toList = [3, 28] := by kernel_rfl
    rw [hp] at hA
    obtain ⟨v1, vs1, d1, ds1, p1, q1, _, rfl, _, _, hr1⟩ := trodAll_cons hA
    obtain ⟨v2, vs2, d2, ds2, p2, q2, rfl, rfl, _, _, hr2⟩ := trodAll_cons hr1
    obtain ⟨rfl, rfl, rfl⟩ := trodAll_nil hr2
    rfl
  · intro x avs H' hk ha
    obtain ⟨c1, r1, rfl, h1, c2, r2, rfl, h2, rfl⟩ := ha
    obtain ⟨v, rfl, e⟩ := slice_one h2
    rw [e, i64_of h1]
    exact paceTurns (hk.get tabH_get) h2 _
theorem paceTurns_laid (os : Os) : laidMet Tryz.prog Rows.paceTurnsRow.laid ((laidWorld os).forCall (fun _ _ => 0) ⟨#[], #[Value.int .i64 0, Value.slice none 0 0], []⟩).memory :=
  laidMet_of_run' 8 (by kernel_rfl) (by kernel_rfl)
theorem paceTurns_reads (os : Os) {H : Type} (enc : TypeId × Value → H) : ∃ places, DataW.whole enc Tryz.prog ((laidWorld os).forCall (fun _ _ => 0) ⟨#[], #[Value.int .i64 0, Value.slice none 0 0], []⟩).memory Tryz.f6.params.toList Rows.paceTurnsSpec.vars false #[Value.int .i64 0, Value.slice none 0 0].toList 8 = some ([.lit (.int .i64 0), .nil], [], places) :=
  ⟨[], by kernel_rfl⟩
theorem paceTurns_lifted (os : Os) (started : os.Started) (H : Type) (enc : TypeId × Value → H) (F : Stop.Interp) :
    ReturnsInHanded {} Tryz.checked os 6 .any ((OpenSpec.ofChange Rows.paceTurnsSpec).preRow enc Tryz.prog Tryz.f6 Rows.paceTurnsRow.domain false Rows.paceTurnsRow.laid) (((OpenSpec.ofChange Rows.paceTurnsSpec).at F).post enc Tryz.prog Tryz.f6 false true false false) := by
  obtain ⟨places, hx⟩ := paceTurns_reads os enc
  refine returnsInHanded_of_row (C := Tryz.checked) (s := OpenSpec.ofChange Rows.paceTurnsSpec) own started (by kernel_rfl) Tryz.func6
    (witness_row_at (enc := enc) (C := Tryz.checked) false (laidWorld os) #[Value.int .i64 0, Value.slice none 0 0] rfl (by kernel_rfl) (by kernel_rfl) (by kernel_rfl)
      (OpenSpec.preRow_of_cond 8 hx (by kernel_rfl) (fun k hk => by cases hk) (by kernel_rfl) (paceTurns_laid os))) ?_
  intro W base args ds gs before hval hW _ _ _ hL _ _
  exact paceTurns_contract H enc W base args ds gs before hval hW hL
theorem paceTurns_f1 : (Rows.paceTurnsRow.inPlace == Tryz.prog.inPlace 6) = true := by kernel_rfl
theorem paceTurns_f2 : (Rows.paceTurnsRow.unfollowed == Tryz.prog.unfollowed 6) = true := by kernel_rfl
theorem paceTurns_f3 : (Rows.paceTurnsRow.recurses == Tryz.prog.recurses 6) = true := by kernel_rfl
theorem paceTurns_f4 : (Rows.paceTurnsRow.named == Tryz.prog.varsNamed 6) = true := by kernel_rfl
theorem paceTurns_facts : joinedFacts Tryz.prog 6 Tryz.f6 (OpenSpec.ofChange Rows.paceTurnsSpec).bare Rows.paceTurnsRow = true :=
  (and_t (and_t (and_t (and_t (and_t (and_t (and_t (and_t (and_t (and_t (and_t (and_t (and_t (and_t (and_t (and_t (and_t (and_t (and_t (and_t (and_t (and_t (and_t (and_t (and_t (and_t (and_t (and_t (and_t (and_t (and_t (by kernel_rfl) laidOut) mapsRowed_t) (by kernel_rfl)) (by kernel_rfl)) (by kernel_rfl)) (by kernel_rfl)) (by kernel_rfl)) (by kernel_rfl)) paceTurns_f1) paceTurns_f2) paceTurns_f3) paceTurns_f4) (by kernel_rfl)) (by kernel_rfl)) (by kernel_rfl)) (by kernel_rfl)) (by kernel_rfl)) (by kernel_rfl)) (by kernel_rfl)) (by kernel_rfl)) (by kernel_rfl)) (by kernel_rfl)) (by kernel_rfl)) stopsHeard_t) mayEnter_t) (by kernel_rfl)) (by kernel_rfl)) (by kernel_rfl)) (by kernel_rfl)) (by kernel_rfl)) (by kernel_rfl))
theorem paceTurns_said : Rows.PaceTurnsSaid :=
  OpenClaim.holds_of_cond 6 Tryz.f6 rfl rfl rfl rfl rfl rfl rfl ⟨rfl, rfl, rfl, rfl, rfl⟩ rfl rfl rfl rfl rfl (by kernel_rfl) Tryz.func6 paceTurns_facts
    (of_decide_eq_true (by kernel_rfl)) (by unfold Func.isWrapper; first | (rw [if_pos (by decide +kernel)]; kernel_rfl) | (rw [if_neg (by decide +kernel)]; exact ⟨rfl, rfl⟩))
    (fun os started H enc _ F => by rw [OpenClaim.pre_eq_preRow]; exact paceTurns_lifted os started H enc F)
theorem paceTurns_plain (f : FuncId) (fn : Func) (hf : Tryz.pinned.checked.prog.funcNamed "weighbridge/weighbridgelaw29.PaceTurns" = some f) (hfn : Tryz.pinned.checked.prog.funcs[f]? = some fn) :
    true = Tryz.pinned.checked.prog.looks [] ∧ ∀ (j : Nat) t, fn.params[j]? = some t → Tryz.pinned.checked.prog.wantsStandIn t = false := by
  obtain rfl : f = 6 := Option.some.inj ((show Tryz.prog.funcNamed "weighbridge/weighbridgelaw29.PaceTurns" = some 6 by kernel_rfl).symm.trans hf) |>.symm
  obtain rfl : fn = Tryz.f6 := (Option.some.inj (Tryz.func6.symm.trans hfn)).symm
  refine ⟨by kernel_rfl, fun j t ht => ?_⟩
  have all : Tryz.f6.params.toList.all (fun t => !Tryz.prog.wantsStandIn t) = true := by kernel_rfl
  have := List.all_eq_true.1 all t (by simpa using Array.mem_of_getElem? ht)
  have h2 : Tryz.prog.wantsStandIn t = false := by simpa using this
  exact h2
/-- THE CARD. -/
theorem paceTurns_card : Rows.PaceTurnsCardSaid :=
  Claim7.holds_tied_plain_at .later [] _ _ _ _ paceTurns_said (fun _ h => by cases h) (by kernel_rfl) (fun _ h => by cases h) paceTurns_row_tie rfl ⟨rfl, rfl⟩ (by kernel_rfl) rfl paceTurns_plain (by kernel_rfl)
end Go.Proofs.YtbjelopcelompaaGreatDoor.Gst
