/- Tries: of the program, and of the reference. -/
import Derived.Test.YtbjelopcelompaaGreatDoorKz
import Derived.Test.YtbjelopcelompaaGreatDoorId
import Derived.Test.YtbjelopcelompaaGreatDoorQb
namespace Go.Proofs.YtbjelopcelompaaGreatDoor.Gst
open Go Go.RowKit
set_option linter.unusedSimpArgs false
set_option linter.unusedVariables false
set_option maxHeartbeats 1000000

instance LayL.ev (a b c d f : Value) (e : Ev) : LayL [a, b, c, d, f] 0 (Ev.cells e) (Ev.cells e) := ⟨by simp [Ev.cells, splice]⟩
instance LayL.ev2 (e0 e : Ev) : LayL (Ev.cells e0) 0 (Ev.cells e) (Ev.cells e) := ⟨by simp [Ev.cells, splice]⟩
instance SubL.ev (e : Ev) : SubL (Ev.cells e) 2 3 [vi e.loc.1, vi e.loc.2.1, vi e.loc.2.2] := ⟨by simp [Ev.cells]⟩
instance SubL.ev0 (e : Ev) : SubL (Ev.cells e) 0 5 (Ev.cells e) := ⟨by simp [Ev.cells]⟩
/-- Whose, and where. -/
def ekS (k : Int × Loc) : Value := .agg #[vi k.1, vi k.2.1, vi k.2.2.1, vi k.2.2.2]
instance : KeyE (.flat 4) ekS where
  eq a b := by
    simp only [keyEq, ekS]
    rw [if_pos ⟨rfl, rfl⟩]
    obtain ⟨a1, a2, a3, a4⟩ := a
    obtain ⟨b1, b2, b3, b4⟩ := b
    simp only [eqCells, if_true, Option.map_some, Bool.and_true]
    congr 1
    rw [Bool.eq_iff_iff]
    simp
  ok a := rfl

theorem tries_1 (b : Nat) (x y : Ev) : Sp n_pace_Tries_1 [.agg (Ev.cells y).toArray, vp b] (blk b (.cells false (Ev.cells x))) (fun _ : Unit => vb (swapBy x y)) (fun _ => blk b (.cells false (Ev.cells x))) := by
  refine sp_of fun R H h => ?_
  refine wp_of (fun r => pace_Tries_1_of _ _ H) ?_
  refine w_newC h fun b0 H1 h1 => ?_
  refine w_ld h1 end_f0 rfl ?_
  unfold swapBy
  by_cases hk : y.kind = 3
  · refine w_bind (eql_t hk) ?_
    repeat (first
      | with_reducible refine w_bind (pick_t _ _) ?_
      | with_reducible refine w_bind (pick_f _ _) ?_
      | with_reducible refine w_bind gV_tt ?_
      | with_reducible refine w_bind gV_ff ?_
      | with_reducible refine w_bind gV_tf ?_
      | with_reducible refine w_bind gV_ft ?_
      | with_reducible refine w_bind gB_tf ?_
      | with_reducible refine w_bind gB_ft ?_
      | with_reducible refine w_gE_tf ?_
      | with_reducible refine w_gE_ft ?_
      | with_reducible refine w_gE_tt ?_
      | with_reducible refine w_gE_ff ?_
      | with_reducible refine w_onK_tf ?_
      | with_reducible refine w_onK_ft ?_
      | with_reducible refine w_onK_tt ?_
      | with_reducible refine w_onK_ff ?_
      | with_reducible refine w_gld_tt ?_
      | with_reducible refine w_gld_ff ?_
      | with_reducible refine w_gld_tf ?_
      | with_reducible refine w_gld_ft ?_
      | with_reducible refine w_gldN_tt ?_
      | with_reducible refine w_gldN_ff ?_
      | with_reducible refine w_gldN_tf ?_
      | with_reducible refine w_gldN_ft ?_
      | with_reducible refine w_gB_tt ?_
      | with_reducible refine w_gB_ff ?_
      | with_reducible refine w_bind un_not ?_
      | with_reducible refine w_cond_t ?_
      | with_reducible refine w_cond_f ?_
      | with_reducible refine w_bind gV_u ?_
      | with_reducible refine w_bind gB_u ?_
      | with_reducible refine w_gld_u ?_)
    refine w_ldN h1 end_f0 ?_
    repeat (first
      | with_reducible refine w_bind (pick_t _ _) ?_
      | with_reducible refine w_bind (pick_f _ _) ?_
      | with_reducible refine w_bind gV_tt ?_
      | with_reducible refine w_bind gV_ff ?_
      | with_reducible refine w_bind gV_tf ?_
      | with_reducible refine w_bind gV_ft ?_
      | with_reducible refine w_bind gB_tf ?_
      | with_reducible refine w_bind gB_ft ?_
      | with_reducible refine w_gE_tf ?_
      | with_reducible refine w_gE_ft ?_
      | with_reducible refine w_gE_tt ?_
      | with_reducible refine w_gE_ff ?_
      | with_reducible refine w_onK_tf ?_
      | with_reducible refine w_onK_ft ?_
      | with_reducible refine w_onK_tt ?_
      | with_reducible refine w_onK_ff ?_
      | with_reducible refine w_gld_tt ?_
      | with_reducible refine w_gld_ff ?_
      | with_reducible refine w_gld_tf ?_
      | with_reducible refine w_gld_ft ?_
      | with_reducible refine w_gldN_tt ?_
      | with_reducible refine w_gldN_ff ?_
      | with_reducible refine w_gldN_tf ?_
      | with_reducible refine w_gldN_ft ?_
      | with_reducible refine w_gB_tt ?_
      | with_reducible refine w_gB_ff ?_
      | with_reducible refine w_bind un_not ?_
      | with_reducible refine w_cond_t ?_
      | with_reducible refine w_cond_f ?_
      | with_reducible refine w_bind gV_u ?_
      | with_reducible refine w_bind gB_u ?_
      | with_reducible refine w_gld_u ?_)
    refine w_ldN h1 end_f0 ?_
    repeat (first
      | with_reducible refine w_bind (pick_t _ _) ?_
      | with_reducible refine w_bind (pick_f _ _) ?_
      | with_reducible refine w_bind gV_tt ?_
      | with_reducible refine w_bind gV_ff ?_
      | with_reducible refine w_bind gV_tf ?_
      | with_reducible refine w_bind gV_ft ?_
      | with_reducible refine w_bind gB_tf ?_
      | with_reducible refine w_bind gB_ft ?_
      | with_reducible refine w_gE_tf ?_
      | with_reducible refine w_gE_ft ?_
      | with_reducible refine w_gE_tt ?_
      | with_reducible refine w_gE_ff ?_
      | with_reducible refine w_onK_tf ?_
      | with_reducible refine w_onK_ft ?_
      | with_reducible refine w_onK_tt ?_
      | with_reducible refine w_onK_ff ?_
      | with_reducible refine w_gld_tt ?_
      | with_reducible refine w_gld_ff ?_
      | with_reducible refine w_gld_tf ?_
      | with_reducible refine w_gld_ft ?_
      | with_reducible refine w_gldN_tt ?_
      | with_reducible refine w_gldN_ff ?_
      | with_reducible refine w_gldN_tf ?_
      | with_reducible refine w_gldN_ft ?_
      | with_reducible refine w_gB_tt ?_
      | with_reducible refine w_gB_ff ?_
      | with_reducible refine w_bind un_not ?_
      | with_reducible refine w_cond_t ?_
      | with_reducible refine w_cond_f ?_
      | with_reducible refine w_bind gV_u ?_
      | with_reducible refine w_bind gB_u ?_
      | with_reducible refine w_gld_u ?_)
    refine w_bind (eqCells3 y.loc x.loc) ?_
    by_cases hl : y.loc = x.loc
    · rw [beq_iff_eq.2 hl]
      repeat (first
        | with_reducible refine w_bind (pick_t _ _) ?_
        | with_reducible refine w_bind (pick_f _ _) ?_
        | with_reducible refine w_bind gV_tt ?_
        | with_reducible refine w_bind gV_ff ?_
        | with_reducible refine w_bind gV_tf ?_
        | with_reducible refine w_bind gV_ft ?_
        | with_reducible refine w_bind gB_tf ?_
        | with_reducible refine w_bind gB_ft ?_
        | with_reducible refine w_gE_tf ?_
        | with_reducible refine w_gE_ft ?_
        | with_reducible refine w_gE_tt ?_
        | with_reducible refine w_gE_ff ?_
        | with_reducible refine w_onK_tf ?_
        | with_reducible refine w_onK_ft ?_
        | with_reducible refine w_onK_tt ?_
        | with_reducible refine w_onK_ff ?_
        | with_reducible refine w_gld_tt ?_
        | with_reducible refine w_gld_ff ?_
        | with_reducible refine w_gld_tf ?_
        | with_reducible refine w_gld_ft ?_
        | with_reducible refine w_gldN_tt ?_
        | with_reducible refine w_gldN_ff ?_
        | with_reducible refine w_gldN_tf ?_
        | with_reducible refine w_gldN_ft ?_
        | with_reducible refine w_gB_tt ?_
        | with_reducible refine w_gB_ff ?_
        | with_reducible refine w_bind un_not ?_
        | with_reducible refine w_cond_t ?_
        | with_reducible refine w_cond_f ?_
        | with_reducible refine w_bind gV_u ?_
        | with_reducible refine w_bind gB_u ?_
        | with_reducible refine w_gld_u ?_)
      refine w_ld h1 end_f0 rfl ?_
      repeat (first
        | with_reducible refine w_bind (pick_t _ _) ?_
        | with_reducible refine w_bind (pick_f _ _) ?_
        | with_reducible refine w_bind gV_tt ?_
        | with_reducible refine w_bind gV_ff ?_
        | with_reducible refine w_bind gV_tf ?_
        | with_reducible refine w_bind gV_ft ?_
        | with_reducible refine w_bind gB_tf ?_
        | with_reducible refine w_bind gB_ft ?_
        | with_reducible refine w_gE_tf ?_
        | with_reducible refine w_gE_ft ?_
        | with_reducible refine w_gE_tt ?_
        | with_reducible refine w_gE_ff ?_
        | with_reducible refine w_onK_tf ?_
        | with_reducible refine w_onK_ft ?_
        | with_reducible refine w_onK_tt ?_
        | with_reducible refine w_onK_ff ?_
        | with_reducible refine w_gld_tt ?_
        | with_reducible refine w_gld_ff ?_
        | with_reducible refine w_gld_tf ?_
        | with_reducible refine w_gld_ft ?_
        | with_reducible refine w_gldN_tt ?_
        | with_reducible refine w_gldN_ff ?_
        | with_reducible refine w_gldN_tf ?_
        | with_reducible refine w_gldN_ft ?_
        | with_reducible refine w_gB_tt ?_
        | with_reducible refine w_gB_ff ?_
        | with_reducible refine w_bind un_not ?_
        | with_reducible refine w_cond_t ?_
        | with_reducible refine w_cond_f ?_
        | with_reducible refine w_bind gV_u ?_
        | with_reducible refine w_bind gB_u ?_
        | with_reducible refine w_gld_u ?_)
      refine w_ld h1 end_f0 rfl ?_
      repeat (first
        | with_reducible refine w_bind (pick_t _ _) ?_
        | with_reducible refine w_bind (pick_f _ _) ?_
        | with_reducible refine w_bind gV_tt ?_
        | with_reducible refine w_bind gV_ff ?_
        | with_reducible refine w_bind gV_tf ?_
        | with_reducible refine w_bind gV_ft ?_
        | with_reducible refine w_bind gB_tf ?_
        | with_reducible refine w_bind gB_ft ?_
        | with_reducible refine w_gE_tf ?_
        | with_reducible refine w_gE_ft ?_
        | with_reducible refine w_gE_tt ?_
        | with_reducible refine w_gE_ff ?_
        | with_reducible refine w_onK_tf ?_
        | with_reducible refine w_onK_ft ?_
        | with_reducible refine w_onK_tt ?_
        | with_reducible refine w_onK_ff ?_
        | with_reducible refine w_gld_tt ?_
        | with_reducible refine w_gld_ff ?_
        | with_reducible refine w_gld_tf ?_
        | with_reducible refine w_gld_ft ?_
        | with_reducible refine w_gldN_tt ?_
        | with_reducible refine w_gldN_ff ?_
        | with_reducible refine w_gldN_tf ?_
        | with_reducible refine w_gldN_ft ?_
        | with_reducible refine w_gB_tt ?_
        | with_reducible refine w_gB_ff ?_
        | with_reducible refine w_bind un_not ?_
        | with_reducible refine w_cond_t ?_
        | with_reducible refine w_cond_f ?_
        | with_reducible refine w_bind gV_u ?_
        | with_reducible refine w_bind gB_u ?_
        | with_reducible refine w_gld_u ?_)
      by_cases hw : y.who = x.who
      · refine w_bind (neq_f hw) ?_
        repeat (first
          | with_reducible refine w_bind (pick_t _ _) ?_
          | with_reducible refine w_bind (pick_f _ _) ?_
          | with_reducible refine w_bind gV_tt ?_
          | with_reducible refine w_bind gV_ff ?_
          | with_reducible refine w_bind gV_tf ?_
          | with_reducible refine w_bind gV_ft ?_
          | with_reducible refine w_bind gB_tf ?_
          | with_reducible refine w_bind gB_ft ?_
          | with_reducible refine w_gE_tf ?_
          | with_reducible refine w_gE_ft ?_
          | with_reducible refine w_gE_tt ?_
          | with_reducible refine w_gE_ff ?_
          | with_reducible refine w_onK_tf ?_
          | with_reducible refine w_onK_ft ?_
          | with_reducible refine w_onK_tt ?_
          | with_reducible refine w_onK_ff ?_
          | with_reducible refine w_gld_tt ?_
          | with_reducible refine w_gld_ff ?_
          | with_reducible refine w_gld_tf ?_
          | with_reducible refine w_gld_ft ?_
          | with_reducible refine w_gldN_tt ?_
          | with_reducible refine w_gldN_ff ?_
          | with_reducible refine w_gldN_tf ?_
          | with_reducible refine w_gldN_ft ?_
          | with_reducible refine w_gB_tt ?_
          | with_reducible refine w_gB_ff ?_
          | with_reducible refine w_bind un_not ?_
          | with_reducible refine w_cond_t ?_
          | with_reducible refine w_cond_f ?_
          | with_reducible refine w_bind gV_u ?_
          | with_reducible refine w_bind gB_u ?_
          | with_reducible refine w_gld_u ?_)
        rw [decide_eq_false (fun h => h.2.2 hw)]
        exact w_ret ⟨(), rfl, Holds.to (by assumption)⟩
      · refine w_bind (neq_t hw) ?_
        repeat (first
          | with_reducible refine w_bind (pick_t _ _) ?_
          | with_reducible refine w_bind (pick_f _ _) ?_
          | with_reducible refine w_bind gV_tt ?_
          | with_reducible refine w_bind gV_ff ?_
          | with_reducible refine w_bind gV_tf ?_
          | with_reducible refine w_bind gV_ft ?_
          | with_reducible refine w_bind gB_tf ?_
          | with_reducible refine w_bind gB_ft ?_
          | with_reducible refine w_gE_tf ?_
          | with_reducible refine w_gE_ft ?_
          | with_reducible refine w_gE_tt ?_
          | with_reducible refine w_gE_ff ?_
          | with_reducible refine w_onK_tf ?_
          | with_reducible refine w_onK_ft ?_
          | with_reducible refine w_onK_tt ?_
          | with_reducible refine w_onK_ff ?_
          | with_reducible refine w_gld_tt ?_
          | with_reducible refine w_gld_ff ?_
          | with_reducible refine w_gld_tf ?_
          | with_reducible refine w_gld_ft ?_
          | with_reducible refine w_gldN_tt ?_
          | with_reducible refine w_gldN_ff ?_
          | with_reducible refine w_gldN_tf ?_
          | with_reducible refine w_gldN_ft ?_
          | with_reducible refine w_gB_tt ?_
          | with_reducible refine w_gB_ff ?_
          | with_reducible refine w_bind un_not ?_
          | with_reducible refine w_cond_t ?_
          | with_reducible refine w_cond_f ?_
          | with_reducible refine w_bind gV_u ?_
          | with_reducible refine w_bind gB_u ?_
          | with_reducible refine w_gld_u ?_)
        rw [decide_eq_true ⟨hk, hl, hw⟩]
        exact w_ret ⟨(), rfl, Holds.to (by assumption)⟩
    · rw [beq_eq_false_iff_ne.2 hl]
      repeat (first
        | with_reducible refine w_bind (pick_t _ _) ?_
        | with_reducible refine w_bind (pick_f _ _) ?_
        | with_reducible refine w_bind gV_tt ?_
        | with_reducible refine w_bind gV_ff ?_
        | with_reducible refine w_bind gV_tf ?_
        | with_reducible refine w_bind gV_ft ?_
        | with_reducible refine w_bind gB_tf ?_
        | with_reducible refine w_bind gB_ft ?_
        | with_reducible refine w_gE_tf ?_
        | with_reducible refine w_gE_ft ?_
        | with_reducible refine w_gE_tt ?_
        | with_reducible refine w_gE_ff ?_
        | with_reducible refine w_onK_tf ?_
        | with_reducible refine w_onK_ft ?_
        | with_reducible refine w_onK_tt ?_
        | with_reducible refine w_onK_ff ?_
        | with_reducible refine w_gld_tt ?_
        | with_reducible refine w_gld_ff ?_
        | with_reducible refine w_gld_tf ?_
        | with_reducible refine w_gld_ft ?_
        | with_reducible refine w_gldN_tt ?_
        | with_reducible refine w_gldN_ff ?_
        | with_reducible refine w_gldN_tf ?_
        | with_reducible refine w_gldN_ft ?_
        | with_reducible refine w_gB_tt ?_
        | with_reducible refine w_gB_ff ?_
        | with_reducible refine w_bind un_not ?_
        | with_reducible refine w_cond_t ?_
        | with_reducible refine w_cond_f ?_
        | with_reducible refine w_bind gV_u ?_
        | with_reducible refine w_bind gB_u ?_
        | with_reducible refine w_gld_u ?_)
      rw [decide_eq_false (fun h => hl h.2.1)]
      exact w_ret ⟨(), rfl, Holds.to (by assumption)⟩
  · refine w_bind (eql_f hk) ?_
    repeat (first
      | with_reducible refine w_bind (pick_t _ _) ?_
      | with_reducible refine w_bind (pick_f _ _) ?_
      | with_reducible refine w_bind gV_tt ?_
      | with_reducible refine w_bind gV_ff ?_
      | with_reducible refine w_bind gV_tf ?_
      | with_reducible refine w_bind gV_ft ?_
      | with_reducible refine w_bind gB_tf ?_
      | with_reducible refine w_bind gB_ft ?_
      | with_reducible refine w_gE_tf ?_
      | with_reducible refine w_gE_ft ?_
      | with_reducible refine w_gE_tt ?_
      | with_reducible refine w_gE_ff ?_
      | with_reducible refine w_onK_tf ?_
      | with_reducible refine w_onK_ft ?_
      | with_reducible refine w_onK_tt ?_
      | with_reducible refine w_onK_ff ?_
      | with_reducible refine w_gld_tt ?_
      | with_reducible refine w_gld_ff ?_
      | with_reducible refine w_gld_tf ?_
      | with_reducible refine w_gld_ft ?_
      | with_reducible refine w_gldN_tt ?_
      | with_reducible refine w_gldN_ff ?_
      | with_reducible refine w_gldN_tf ?_
      | with_reducible refine w_gldN_ft ?_
      | with_reducible refine w_gB_tt ?_
      | with_reducible refine w_gB_ff ?_
      | with_reducible refine w_bind un_not ?_
      | with_reducible refine w_cond_t ?_
      | with_reducible refine w_cond_f ?_
      | with_reducible refine w_bind gV_u ?_
      | with_reducible refine w_bind gB_u ?_
      | with_reducible refine w_gld_u ?_)
    rw [decide_eq_false (fun h => hk h.1)]
    exact w_ret ⟨(), rfl, Holds.to (by assumption)⟩
theorem Sp.ro {α : Type} {f : Nat} {args : List Value} {P P' R : SP} {v : α → Value} [F : Fr P' P R] (s : Sp f args P v (fun _ => P)) : Sp f args P' v (fun _ => P') := by
  intro R' H h
  rw [F.eq] at h
  rw [sep_assoc] at h
  obtain ⟨x, H', e, h'⟩ := s _ H h
  refine ⟨x, H', e, ?_⟩
  rw [F.eq, sep_assoc]
  exact h'
theorem index_tries {P : SP} {s : Value} {m : List Ev} [r : Rd P s 5 Ev.cells m] (hl : m.length < 4611686018427387904) (b : Nat) (x : Ev) (hc : ∀ y, Sp n_pace_Tries_1 [.agg (Ev.cells y).toArray, vp b] P (fun _ : Unit => vb (swapBy x y)) (fun _ => P)) :
    Sp n_slices_IndexFuncapi_Eventapi_Event [s, .func (.func n_pace_Tries_1) #[] #[vp b]] P (fun i : Int => vi i) (fun i => pu (0 ≤ i ↔ m.any (swapBy x) = true) * P) := by
  refine sp_of fun R H h => ?_
  refine wp_of (fun r => slices_IndexFuncapi_Eventapi_Event_of _ _ H) ?_
  refine wp_eq (slices_IndexFuncapi_Eventapi_Event_k0_eq _ _ _ H) ?_
  refine w_rlen (l := m) h ?_
  refine wp_eq (slices_IndexFuncapi_Eventapi_Event_k2_eq _ _ _ _ _ H) ?_
  have loop : ∀ (n k : Nat) (H : AH), k + n = m.length → (∀ y ∈ m.take k, swapBy x y = false) → Holds (P * R) H → wp (slices_IndexFuncapi_Eventapi_Event_k4 s (.func (.func n_pace_Tries_1) #[] #[vp b]) (vi 0) (vi m.length) (vi k) H) fun v' H' => ∃ i : Int, v' = vi i ∧ Holds (pu (0 ≤ i ↔ m.any (swapBy x) = true) * P * R) H' := by
    intro n
    induction n with
    | zero =>
      intro k H hk hno h
      refine wp_eq (slices_IndexFuncapi_Eventapi_Event_k4_eq _ _ _ _ _ H) ?_
      refine w_bind (lss_f (by omega)) ?_
      repeat (first
        | with_reducible refine w_bind (pick_t _ _) ?_
        | with_reducible refine w_bind (pick_f _ _) ?_
        | with_reducible refine w_bind gV_tt ?_
        | with_reducible refine w_bind gV_ff ?_
        | with_reducible refine w_bind gV_tf ?_
        | with_reducible refine w_bind gV_ft ?_
        | with_reducible refine w_bind gB_tf ?_
        | with_reducible refine w_bind gB_ft ?_
        | with_reducible refine w_gE_tf ?_
        | with_reducible refine w_gE_ft ?_
        | with_reducible refine w_gE_tt ?_
        | with_reducible refine w_gE_ff ?_
        | with_reducible refine w_onK_tf ?_
        | with_reducible refine w_onK_ft ?_
        | with_reducible refine w_onK_tt ?_
        | with_reducible refine w_onK_ff ?_
        | with_reducible refine w_gld_tt ?_
        | with_reducible refine w_gld_ff ?_
        | with_reducible refine w_gld_tf ?_
        | with_reducible refine w_gld_ft ?_
        | with_reducible refine w_gldN_tt ?_
        | with_reducible refine w_gldN_ff ?_
        | with_reducible refine w_gldN_tf ?_
        | with_reducible refine w_gldN_ft ?_
        | with_reducible refine w_gB_tt ?_
        | with_reducible refine w_gB_ff ?_
        | with_reducible refine w_bind un_not ?_
        | with_reducible refine w_cond_t ?_
        | with_reducible refine w_cond_f ?_
        | with_reducible refine w_bind gV_u ?_
        | with_reducible refine w_bind gB_u ?_
        | with_reducible refine w_gld_u ?_)
      refine wp_eq (slices_IndexFuncapi_Eventapi_Event_e3_0_eq _ H) ?_
      refine wp_eq (slices_IndexFuncapi_Eventapi_Event_k1_eq _ H) ?_
      refine w_ret ⟨-1, rfl, ?_⟩
      rw [sep_assoc]
      refine Holds.pu.2 ⟨⟨fun h => by omega, fun hx => ?_⟩, h⟩
      obtain ⟨y, hy, e⟩ := List.any_eq_true.1 hx
      rw [List.take_of_length_le (by omega)] at hno
      rw [hno y hy] at e
      cases e
    | succ n ih =>
      intro k H hk hno h
      have hkl : k < m.length := by omega
      refine wp_eq (slices_IndexFuncapi_Eventapi_Event_k4_eq _ _ _ _ _ H) ?_
      refine w_bind (lss_t (by omega)) ?_
      repeat (first
        | with_reducible refine w_bind (pick_t _ _) ?_
        | with_reducible refine w_bind (pick_f _ _) ?_
        | with_reducible refine w_bind gV_tt ?_
        | with_reducible refine w_bind gV_ff ?_
        | with_reducible refine w_bind gV_tf ?_
        | with_reducible refine w_bind gV_ft ?_
        | with_reducible refine w_bind gB_tf ?_
        | with_reducible refine w_bind gB_ft ?_
        | with_reducible refine w_gE_tf ?_
        | with_reducible refine w_gE_ft ?_
        | with_reducible refine w_gE_tt ?_
        | with_reducible refine w_gE_ff ?_
        | with_reducible refine w_onK_tf ?_
        | with_reducible refine w_onK_ft ?_
        | with_reducible refine w_onK_tt ?_
        | with_reducible refine w_onK_ff ?_
        | with_reducible refine w_gld_tt ?_
        | with_reducible refine w_gld_ff ?_
        | with_reducible refine w_gld_tf ?_
        | with_reducible refine w_gld_ft ?_
        | with_reducible refine w_gldN_tt ?_
        | with_reducible refine w_gldN_ff ?_
        | with_reducible refine w_gldN_tf ?_
        | with_reducible refine w_gldN_ft ?_
        | with_reducible refine w_gB_tt ?_
        | with_reducible refine w_gB_ff ?_
        | with_reducible refine w_bind un_not ?_
        | with_reducible refine w_cond_t ?_
        | with_reducible refine w_cond_f ?_
        | with_reducible refine w_bind gV_u ?_
        | with_reducible refine w_bind gB_u ?_
        | with_reducible refine w_gld_u ?_)
      refine wp_eq (slices_IndexFuncapi_Eventapi_Event_k5_eq _ _ _ _ _ H) ?_
      refine w_rldN (l := m) h hkl ?_
      refine w_ro h (Sp.ro (hc m[k])) fun H2 h2 => ?_
      cases hs : swapBy x m[k] with
      | true =>
        repeat (first
          | with_reducible refine w_bind (pick_t _ _) ?_
          | with_reducible refine w_bind (pick_f _ _) ?_
          | with_reducible refine w_bind gV_tt ?_
          | with_reducible refine w_bind gV_ff ?_
          | with_reducible refine w_bind gV_tf ?_
          | with_reducible refine w_bind gV_ft ?_
          | with_reducible refine w_bind gB_tf ?_
          | with_reducible refine w_bind gB_ft ?_
          | with_reducible refine w_gE_tf ?_
          | with_reducible refine w_gE_ft ?_
          | with_reducible refine w_gE_tt ?_
          | with_reducible refine w_gE_ff ?_
          | with_reducible refine w_onK_tf ?_
          | with_reducible refine w_onK_ft ?_
          | with_reducible refine w_onK_tt ?_
          | with_reducible refine w_onK_ff ?_
          | with_reducible refine w_gld_tt ?_
          | with_reducible refine w_gld_ff ?_
          | with_reducible refine w_gld_tf ?_
          | with_reducible refine w_gld_ft ?_
          | with_reducible refine w_gldN_tt ?_
          | with_reducible refine w_gldN_ff ?_
          | with_reducible refine w_gldN_tf ?_
          | with_reducible refine w_gldN_ft ?_
          | with_reducible refine w_gB_tt ?_
          | with_reducible refine w_gB_ff ?_
          | with_reducible refine w_bind un_not ?_
          | with_reducible refine w_cond_t ?_
          | with_reducible refine w_cond_f ?_
          | with_reducible refine w_bind gV_u ?_
          | with_reducible refine w_bind gB_u ?_
          | with_reducible refine w_gld_u ?_)
        refine w_ret ⟨k, rfl, ?_⟩
        rw [sep_assoc]
        exact Holds.pu.2 ⟨⟨fun _ => List.any_eq_true.2 ⟨m[k], List.getElem_mem hkl, hs⟩, fun _ => by omega⟩, h2⟩
      | false =>
        repeat (first
          | with_reducible refine w_bind (pick_t _ _) ?_
          | with_reducible refine w_bind (pick_f _ _) ?_
          | with_reducible refine w_bind gV_tt ?_
          | with_reducible refine w_bind gV_ff ?_
          | with_reducible refine w_bind gV_tf ?_
          | with_reducible refine w_bind gV_ft ?_
          | with_reducible refine w_bind gB_tf ?_
          | with_reducible refine w_bind gB_ft ?_
          | with_reducible refine w_gE_tf ?_
          | with_reducible refine w_gE_ft ?_
          | with_reducible refine w_gE_tt ?_
          | with_reducible refine w_gE_ff ?_
          | with_reducible refine w_onK_tf ?_
          | with_reducible refine w_onK_ft ?_
          | with_reducible refine w_onK_tt ?_
          | with_reducible refine w_onK_ff ?_
          | with_reducible refine w_gld_tt ?_
          | with_reducible refine w_gld_ff ?_
          | with_reducible refine w_gld_tf ?_
          | with_reducible refine w_gld_ft ?_
          | with_reducible refine w_gldN_tt ?_
          | with_reducible refine w_gldN_ff ?_
          | with_reducible refine w_gldN_tf ?_
          | with_reducible refine w_gldN_ft ?_
          | with_reducible refine w_gB_tt ?_
          | with_reducible refine w_gB_ff ?_
          | with_reducible refine w_bind un_not ?_
          | with_reducible refine w_cond_t ?_
          | with_reducible refine w_cond_f ?_
          | with_reducible refine w_bind gV_u ?_
          | with_reducible refine w_bind gB_u ?_
          | with_reducible refine w_gld_u ?_)
        refine wp_eq (slices_IndexFuncapi_Eventapi_Event_k6_eq _ _ _ _ _ H2) ?_
        refine w_bind (bin_add_i (by omega) (by omega)) ?_
        refine ih (k + 1) H2 (by omega) (fun y hy => ?_) h2
        rw [← List.take_append_getElem hkl, List.mem_append, List.mem_singleton] at hy
        rcases hy with hy | rfl
        · exact hno y hy
        · exact hs
  exact loop m.length 0 H (by omega) (by simp) h
theorem contains_tries {P : SP} {s : Value} {m : List Ev} [r : Rd P s 5 Ev.cells m] (hl : m.length < 4611686018427387904) (b : Nat) (x : Ev) (hc : ∀ y, Sp n_pace_Tries_1 [.agg (Ev.cells y).toArray, vp b] P (fun _ : Unit => vb (swapBy x y)) (fun _ => P)) :
    Sp n_slices_ContainsFuncapi_Eventapi_Event [s, .func (.func n_pace_Tries_1) #[] #[vp b]] P (fun _ : Unit => vb (m.any (swapBy x))) (fun _ => P) := by
  refine sp_of fun R H h => ?_
  refine wp_of (fun r => slices_ContainsFuncapi_Eventapi_Event_of _ _ H) ?_
  obtain ⟨i, H', e, h'⟩ := index_tries (P := P) (s := s) hl b x hc R H h
  rw [e]
  rw [sep_assoc, Holds.pu] at h'
  show wp ((pBin .other .geq (vi i) (vi 0)).bind fun v1 => some (v1, H')) _
  refine w_bind (v := vb (m.any (swapBy x))) ?_ ?_
  · rw [bin_geq]
    congr 2
    rw [Bool.eq_iff_iff]
    simpa using h'.1
  · exact w_ret ⟨(), rfl, h'.2⟩

/-! ### The program's -/
def seenF (r : List Ev) : Int × Loc → Option Value := fun k => (lastL r k).map fun j => vi (j : Int)
theorem tries_loop {P R : SP} {s : Value} {l : List Ev} [r : Rd P s 5 Ev.cells l] (hl : l.length < 1099511627776) (mb : Nat) (x2 : Value) :
    ∀ (d i : Nat) (H : AH), i + d = l.length → Holds (mpS ekS mb (seenF (l.take i).reverse) * P * R) H →
      wp (pace_Tries_k4 s x2 (.map (some mb)) s (vi l.length) (vi i) H) fun v' H' => ∃ x : Unit, v' = vb (triesFrom (l.take i).reverse (l.drop i)) ∧ Holds (P * R) H' := by
  intro d
  induction d with
  | zero =>
    intro i H hi h
    refine wp_eq (pace_Tries_k4_eq _ _ _ _ _ _ H) ?_
    refine w_bind (lss_f (by omega)) ?_
    repeat (first
      | with_reducible refine w_bind (pick_t _ _) ?_
      | with_reducible refine w_bind (pick_f _ _) ?_
      | with_reducible refine w_bind gV_tt ?_
      | with_reducible refine w_bind gV_ff ?_
      | with_reducible refine w_bind gV_tf ?_
      | with_reducible refine w_bind gV_ft ?_
      | with_reducible refine w_bind gB_tf ?_
      | with_reducible refine w_bind gB_ft ?_
      | with_reducible refine w_gE_tf ?_
      | with_reducible refine w_gE_ft ?_
      | with_reducible refine w_gE_tt ?_
      | with_reducible refine w_gE_ff ?_
      | with_reducible refine w_onK_tf ?_
      | with_reducible refine w_onK_ft ?_
      | with_reducible refine w_onK_tt ?_
      | with_reducible refine w_onK_ff ?_
      | with_reducible refine w_gld_tt ?_
      | with_reducible refine w_gld_ff ?_
      | with_reducible refine w_gld_tf ?_
      | with_reducible refine w_gld_ft ?_
      | with_reducible refine w_gldN_tt ?_
      | with_reducible refine w_gldN_ff ?_
      | with_reducible refine w_gldN_tf ?_
      | with_reducible refine w_gldN_ft ?_
      | with_reducible refine w_gB_tt ?_
      | with_reducible refine w_gB_ff ?_
      | with_reducible refine w_bind un_not ?_
      | with_reducible refine w_cond_t ?_
      | with_reducible refine w_cond_f ?_
      | with_reducible refine w_bind gV_u ?_
      | with_reducible refine w_bind gB_u ?_
      | with_reducible refine w_gld_u ?_)
    refine wp_eq (pace_Tries_e3_0_eq _ H) ?_
    refine wp_eq (pace_Tries_k1_eq _ H) ?_
    rw [List.drop_eq_nil_of_le (by omega)]
    exact w_ret ⟨(), rfl, h.to⟩
  | succ d ih =>
    intro i H hi h
    have hil : i < l.length := by omega
    have hrl : (l.take i).reverse.length = i := by rw [List.length_reverse, List.length_take]; omega
    have hstep := tries_step hil
    -- go on with what was seen
    have next : ∀ H2, tried (l.take i).reverse l[i] = true → Holds (mpS ekS mb (seenF (l.take (i + 1)).reverse) * P * R) H2 →
        wp (pace_Tries_k6 s x2 (.map (some mb)) s (vi l.length) (vi i) H2) fun v' H' => ∃ x : Unit, v' = vb (triesFrom (l.take i).reverse (l.drop i)) ∧ Holds (P * R) H' := by
      intro H2 ht h2
      refine wp_eq (pace_Tries_k6_eq _ _ _ _ _ _ H2) ?_
      refine w_bind (bin_add_i (by omega) (by omega)) ?_
      rw [hstep, ht, Bool.true_and]
      exact ih (i + 1) H2 (by omega) h2
    have same : ¬ (l[i].kind = 1 ∧ l[i].loc.1 = 11) → seenF (l.take (i + 1)).reverse = seenF (l.take i).reverse := by
      intro hno
      rw [rev_snoc hil]
      funext k
      simp only [seenF, lastL]
      rw [if_neg (fun h => hno ⟨h.1, h.2.2⟩)]
    refine wp_eq (pace_Tries_k4_eq _ _ _ _ _ _ H) ?_
    refine w_bind (lss_t (by omega)) ?_
    repeat (first
      | with_reducible refine w_bind (pick_t _ _) ?_
      | with_reducible refine w_bind (pick_f _ _) ?_
      | with_reducible refine w_bind gV_tt ?_
      | with_reducible refine w_bind gV_ff ?_
      | with_reducible refine w_bind gV_tf ?_
      | with_reducible refine w_bind gV_ft ?_
      | with_reducible refine w_bind gB_tf ?_
      | with_reducible refine w_bind gB_ft ?_
      | with_reducible refine w_gE_tf ?_
      | with_reducible refine w_gE_ft ?_
      | with_reducible refine w_gE_tt ?_
      | with_reducible refine w_gE_ff ?_
      | with_reducible refine w_onK_tf ?_
      | with_reducible refine w_onK_ft ?_
      | with_reducible refine w_onK_tt ?_
      | with_reducible refine w_onK_ff ?_
      | with_reducible refine w_gld_tt ?_
      | with_reducible refine w_gld_ff ?_
      | with_reducible refine w_gld_tf ?_
      | with_reducible refine w_gld_ft ?_
      | with_reducible refine w_gldN_tt ?_
      | with_reducible refine w_gldN_ff ?_
      | with_reducible refine w_gldN_tf ?_
      | with_reducible refine w_gldN_ft ?_
      | with_reducible refine w_gB_tt ?_
      | with_reducible refine w_gB_ff ?_
      | with_reducible refine w_bind un_not ?_
      | with_reducible refine w_cond_t ?_
      | with_reducible refine w_cond_f ?_
      | with_reducible refine w_bind gV_u ?_
      | with_reducible refine w_bind gB_u ?_
      | with_reducible refine w_gld_u ?_)
    refine wp_eq (pace_Tries_k5_eq _ _ _ _ _ _ H) ?_
    refine w_rldN (l := l) h hil ?_
    refine w_new h fun b H1 h1 => ?_
    refine w_St h1 rfl rfl fun H2 h2 => ?_
    refine w_ld h2 (end_f (end_f end_nil)) rfl ?_
    by_cases hloc : l[i].loc.1 = 11
    · refine w_bind (neq_f hloc) ?_
      repeat (first
        | with_reducible refine w_bind (pick_t _ _) ?_
        | with_reducible refine w_bind (pick_f _ _) ?_
        | with_reducible refine w_bind gV_tt ?_
        | with_reducible refine w_bind gV_ff ?_
        | with_reducible refine w_bind gV_tf ?_
        | with_reducible refine w_bind gV_ft ?_
        | with_reducible refine w_bind gB_tf ?_
        | with_reducible refine w_bind gB_ft ?_
        | with_reducible refine w_gE_tf ?_
        | with_reducible refine w_gE_ft ?_
        | with_reducible refine w_gE_tt ?_
        | with_reducible refine w_gE_ff ?_
        | with_reducible refine w_onK_tf ?_
        | with_reducible refine w_onK_ft ?_
        | with_reducible refine w_onK_tt ?_
        | with_reducible refine w_onK_ff ?_
        | with_reducible refine w_gld_tt ?_
        | with_reducible refine w_gld_ff ?_
        | with_reducible refine w_gld_tf ?_
        | with_reducible refine w_gld_ft ?_
        | with_reducible refine w_gldN_tt ?_
        | with_reducible refine w_gldN_ff ?_
        | with_reducible refine w_gldN_tf ?_
        | with_reducible refine w_gldN_ft ?_
        | with_reducible refine w_gB_tt ?_
        | with_reducible refine w_gB_ff ?_
        | with_reducible refine w_bind un_not ?_
        | with_reducible refine w_cond_t ?_
        | with_reducible refine w_cond_f ?_
        | with_reducible refine w_bind gV_u ?_
        | with_reducible refine w_bind gB_u ?_
        | with_reducible refine w_gld_u ?_)
      refine w_ld h2 end_f0 rfl ?_
      refine w_ldN h2 end_f0 ?_
      refine w_S ?_
      refine w_mlook2 (ek := ekS) (l[i].who, l[i].loc) h2 ?_
      refine w_bind rfl ?_
      refine w_bind rfl ?_
      refine wp_eq (pace_Tries_k9_eq _ _ _ _ _ _ _ _ _ _ H2) ?_
      refine w_ld h2 end_f0 rfl ?_
      by_cases hk : l[i].kind = 1
      · refine w_bind (eql_t hk) ?_
        repeat (first
          | with_reducible refine w_bind (pick_t _ _) ?_
          | with_reducible refine w_bind (pick_f _ _) ?_
          | with_reducible refine w_bind gV_tt ?_
          | with_reducible refine w_bind gV_ff ?_
          | with_reducible refine w_bind gV_tf ?_
          | with_reducible refine w_bind gV_ft ?_
          | with_reducible refine w_bind gB_tf ?_
          | with_reducible refine w_bind gB_ft ?_
          | with_reducible refine w_gE_tf ?_
          | with_reducible refine w_gE_ft ?_
          | with_reducible refine w_gE_tt ?_
          | with_reducible refine w_gE_ff ?_
          | with_reducible refine w_onK_tf ?_
          | with_reducible refine w_onK_ft ?_
          | with_reducible refine w_onK_tt ?_
          | with_reducible refine w_onK_ff ?_
          | with_reducible refine w_gld_tt ?_
          | with_reducible refine w_gld_ff ?_
          | with_reducible refine w_gld_tf ?_
          | with_reducible refine w_gld_ft ?_
          | with_reducible refine w_gldN_tt ?_
          | with_reducible refine w_gldN_ff ?_
          | with_reducible refine w_gldN_tf ?_
          | with_reducible refine w_gldN_ft ?_
          | with_reducible refine w_gB_tt ?_
          | with_reducible refine w_gB_ff ?_
          | with_reducible refine w_bind un_not ?_
          | with_reducible refine w_cond_t ?_
          | with_reducible refine w_cond_f ?_
          | with_reducible refine w_bind gV_u ?_
          | with_reducible refine w_bind gB_u ?_
          | with_reducible refine w_gld_u ?_)
        refine w_ld h2 end_f0 rfl ?_
        refine w_ldN h2 end_f0 ?_
        refine w_S ?_
        refine w_mset (ek := ekS) (l[i].who, l[i].loc) (vi i) h2 fun H3 h3 => ?_
        refine next H3 ?_ ?_
        · unfold tried; rw [if_neg (by omega)]
        · have e : (fun x => if x = (l[i].who, l[i].loc) then some (vi (i : Int)) else seenF (l.take i).reverse x) = seenF (l.take (i + 1)).reverse := by
            rw [rev_snoc hil]
            funext k
            simp only [seenF, lastL, hrl]
            by_cases hkk : k = (l[i].who, l[i].loc)
            · rw [if_pos hkk, if_pos ⟨hk, hkk, hloc⟩]; rfl
            · rw [if_neg hkk, if_neg (fun h => hkk h.2.1)]
          rw [e] at h3
          exact h3.to
      · refine w_bind (eql_f hk) ?_
        repeat (first
          | with_reducible refine w_bind (pick_t _ _) ?_
          | with_reducible refine w_bind (pick_f _ _) ?_
          | with_reducible refine w_bind gV_tt ?_
          | with_reducible refine w_bind gV_ff ?_
          | with_reducible refine w_bind gV_tf ?_
          | with_reducible refine w_bind gV_ft ?_
          | with_reducible refine w_bind gB_tf ?_
          | with_reducible refine w_bind gB_ft ?_
          | with_reducible refine w_gE_tf ?_
          | with_reducible refine w_gE_ft ?_
          | with_reducible refine w_gE_tt ?_
          | with_reducible refine w_gE_ff ?_
          | with_reducible refine w_onK_tf ?_
          | with_reducible refine w_onK_ft ?_
          | with_reducible refine w_onK_tt ?_
          | with_reducible refine w_onK_ff ?_
          | with_reducible refine w_gld_tt ?_
          | with_reducible refine w_gld_ff ?_
          | with_reducible refine w_gld_tf ?_
          | with_reducible refine w_gld_ft ?_
          | with_reducible refine w_gldN_tt ?_
          | with_reducible refine w_gldN_ff ?_
          | with_reducible refine w_gldN_tf ?_
          | with_reducible refine w_gldN_ft ?_
          | with_reducible refine w_gB_tt ?_
          | with_reducible refine w_gB_ff ?_
          | with_reducible refine w_bind un_not ?_
          | with_reducible refine w_cond_t ?_
          | with_reducible refine w_cond_f ?_
          | with_reducible refine w_bind gV_u ?_
          | with_reducible refine w_bind gB_u ?_
          | with_reducible refine w_gld_u ?_)
        refine w_ld h2 end_f0 rfl ?_
        have hs := same (fun h => hk h.1)
        have h2' : Holds (mpS ekS mb (seenF (l.take (i + 1)).reverse) * P * R) H2 := by rw [hs]; exact h2.to
        by_cases hf : l[i].kind = 4
        · refine w_bind (eql_t hf) ?_
          repeat (first
            | with_reducible refine w_bind (pick_t _ _) ?_
            | with_reducible refine w_bind (pick_f _ _) ?_
            | with_reducible refine w_bind gV_tt ?_
            | with_reducible refine w_bind gV_ff ?_
            | with_reducible refine w_bind gV_tf ?_
            | with_reducible refine w_bind gV_ft ?_
            | with_reducible refine w_bind gB_tf ?_
            | with_reducible refine w_bind gB_ft ?_
            | with_reducible refine w_gE_tf ?_
            | with_reducible refine w_gE_ft ?_
            | with_reducible refine w_gE_tt ?_
            | with_reducible refine w_gE_ff ?_
            | with_reducible refine w_onK_tf ?_
            | with_reducible refine w_onK_ft ?_
            | with_reducible refine w_onK_tt ?_
            | with_reducible refine w_onK_ff ?_
            | with_reducible refine w_gld_tt ?_
            | with_reducible refine w_gld_ff ?_
            | with_reducible refine w_gld_tf ?_
            | with_reducible refine w_gld_ft ?_
            | with_reducible refine w_gldN_tt ?_
            | with_reducible refine w_gldN_ff ?_
            | with_reducible refine w_gldN_tf ?_
            | with_reducible refine w_gldN_ft ?_
            | with_reducible refine w_gB_tt ?_
            | with_reducible refine w_gB_ff ?_
            | with_reducible refine w_bind un_not ?_
            | with_reducible refine w_cond_t ?_
            | with_reducible refine w_cond_f ?_
            | with_reducible refine w_bind gV_u ?_
            | with_reducible refine w_bind gB_u ?_
            | with_reducible refine w_gld_u ?_)
          have htr : tried (l.take i).reverse l[i] = back (l.take i).reverse l[i] := by unfold tried; rw [if_pos ⟨hf, hloc⟩]
          have hback := back_last l[i] hloc (l.take i).reverse
          cases hj : lastL (l.take i).reverse (l[i].who, l[i].loc) with
          | none =>
            rw [hj] at hback
            have e1 : (seenF (l.take i).reverse (l[i].who, l[i].loc)).isSome = false := by simp [seenF, hj]
            rw [e1]
            repeat (first
              | with_reducible refine w_bind (pick_t _ _) ?_
              | with_reducible refine w_bind (pick_f _ _) ?_
              | with_reducible refine w_bind gV_tt ?_
              | with_reducible refine w_bind gV_ff ?_
              | with_reducible refine w_bind gV_tf ?_
              | with_reducible refine w_bind gV_ft ?_
              | with_reducible refine w_bind gB_tf ?_
              | with_reducible refine w_bind gB_ft ?_
              | with_reducible refine w_gE_tf ?_
              | with_reducible refine w_gE_ft ?_
              | with_reducible refine w_gE_tt ?_
              | with_reducible refine w_gE_ff ?_
              | with_reducible refine w_onK_tf ?_
              | with_reducible refine w_onK_ft ?_
              | with_reducible refine w_onK_tt ?_
              | with_reducible refine w_onK_ff ?_
              | with_reducible refine w_gld_tt ?_
              | with_reducible refine w_gld_ff ?_
              | with_reducible refine w_gld_tf ?_
              | with_reducible refine w_gld_ft ?_
              | with_reducible refine w_gldN_tt ?_
              | with_reducible refine w_gldN_ff ?_
              | with_reducible refine w_gldN_tf ?_
              | with_reducible refine w_gldN_ft ?_
              | with_reducible refine w_gB_tt ?_
              | with_reducible refine w_gB_ff ?_
              | with_reducible refine w_bind un_not ?_
              | with_reducible refine w_cond_t ?_
              | with_reducible refine w_cond_f ?_
              | with_reducible refine w_bind gV_u ?_
              | with_reducible refine w_bind gB_u ?_
              | with_reducible refine w_gld_u ?_)
            exact next H2 (by rw [htr, hback]) h2'
          | some j =>
            rw [hj] at hback
            have hjl := lastL_lt hj
            rw [hrl] at hjl
            have e1 : seenF (l.take i).reverse (l[i].who, l[i].loc) = some (vi (j : Int)) := by simp [seenF, hj]
            rw [e1]
            simp only [Option.isSome_some, Option.getD_some]
            repeat (first
              | with_reducible refine w_bind (pick_t _ _) ?_
              | with_reducible refine w_bind (pick_f _ _) ?_
              | with_reducible refine w_bind gV_tt ?_
              | with_reducible refine w_bind gV_ff ?_
              | with_reducible refine w_bind gV_tf ?_
              | with_reducible refine w_bind gV_ft ?_
              | with_reducible refine w_bind gB_tf ?_
              | with_reducible refine w_bind gB_ft ?_
              | with_reducible refine w_gE_tf ?_
              | with_reducible refine w_gE_ft ?_
              | with_reducible refine w_gE_tt ?_
              | with_reducible refine w_gE_ff ?_
              | with_reducible refine w_onK_tf ?_
              | with_reducible refine w_onK_ft ?_
              | with_reducible refine w_onK_tt ?_
              | with_reducible refine w_onK_ff ?_
              | with_reducible refine w_gld_tt ?_
              | with_reducible refine w_gld_ff ?_
              | with_reducible refine w_gld_tf ?_
              | with_reducible refine w_gld_ft ?_
              | with_reducible refine w_gldN_tt ?_
              | with_reducible refine w_gldN_ff ?_
              | with_reducible refine w_gldN_tf ?_
              | with_reducible refine w_gldN_ft ?_
              | with_reducible refine w_gB_tt ?_
              | with_reducible refine w_gB_ff ?_
              | with_reducible refine w_bind un_not ?_
              | with_reducible refine w_cond_t ?_
              | with_reducible refine w_cond_f ?_
              | with_reducible refine w_bind gV_u ?_
              | with_reducible refine w_bind gB_u ?_
              | with_reducible refine w_gld_u ?_)
            obtain ⟨s', hs', hrd⟩ := rd_slice (s := s) (l := l) (lo := some (vi (j : Int))) (hi := some (vi (i : Int))) (a := j) (b := i) h2 (.inr ⟨_, rfl⟩) (.inr ⟨_, rfl⟩) (by omega) (by omega) (by omega)
            refine w_bind (hs') ?_
            haveI := hrd
            refine w_ro h2 (contains_tries (s := s') (m := (l.take i).drop j) (by rw [List.length_drop, List.length_take]; omega) b l[i] (fun y => Sp.ro (tries_1 b l[i] y))) fun H3 h3 => ?_
            have hb2 : back (l.take i).reverse l[i] = ((l.take i).drop j).any (swapBy l[i]) := by
              rw [hback, hrl]
              exact take_rev (by omega) l[i]
            rw [← hb2]
            repeat (first
              | with_reducible refine w_bind (pick_t _ _) ?_
              | with_reducible refine w_bind (pick_f _ _) ?_
              | with_reducible refine w_bind gV_tt ?_
              | with_reducible refine w_bind gV_ff ?_
              | with_reducible refine w_bind gV_tf ?_
              | with_reducible refine w_bind gV_ft ?_
              | with_reducible refine w_bind gB_tf ?_
              | with_reducible refine w_bind gB_ft ?_
              | with_reducible refine w_gE_tf ?_
              | with_reducible refine w_gE_ft ?_
              | with_reducible refine w_gE_tt ?_
              | with_reducible refine w_gE_ff ?_
              | with_reducible refine w_onK_tf ?_
              | with_reducible refine w_onK_ft ?_
              | with_reducible refine w_onK_tt ?_
              | with_reducible refine w_onK_ff ?_
              | with_reducible refine w_gld_tt ?_
              | with_reducible refine w_gld_ff ?_
              | with_reducible refine w_gld_tf ?_
              | with_reducible refine w_gld_ft ?_
              | with_reducible refine w_gldN_tt ?_
              | with_reducible refine w_gldN_ff ?_
              | with_reducible refine w_gldN_tf ?_
              | with_reducible refine w_gldN_ft ?_
              | with_reducible refine w_gB_tt ?_
              | with_reducible refine w_gB_ff ?_
              | with_reducible refine w_bind un_not ?_
              | with_reducible refine w_cond_t ?_
              | with_reducible refine w_cond_f ?_
              | with_reducible refine w_bind gV_u ?_
              | with_reducible refine w_bind gB_u ?_
              | with_reducible refine w_gld_u ?_)
            have h3' : Holds (mpS ekS mb (seenF (l.take (i + 1)).reverse) * P * R) H3 := by rw [hs]; exact h3.to
            cases hbv : back (l.take i).reverse l[i] with
            | true =>
              rw [Bool.not_true]
              repeat (first
                | with_reducible refine w_bind (pick_t _ _) ?_
                | with_reducible refine w_bind (pick_f _ _) ?_
                | with_reducible refine w_bind gV_tt ?_
                | with_reducible refine w_bind gV_ff ?_
                | with_reducible refine w_bind gV_tf ?_
                | with_reducible refine w_bind gV_ft ?_
                | with_reducible refine w_bind gB_tf ?_
                | with_reducible refine w_bind gB_ft ?_
                | with_reducible refine w_gE_tf ?_
                | with_reducible refine w_gE_ft ?_
                | with_reducible refine w_gE_tt ?_
                | with_reducible refine w_gE_ff ?_
                | with_reducible refine w_onK_tf ?_
                | with_reducible refine w_onK_ft ?_
                | with_reducible refine w_onK_tt ?_
                | with_reducible refine w_onK_ff ?_
                | with_reducible refine w_gld_tt ?_
                | with_reducible refine w_gld_ff ?_
                | with_reducible refine w_gld_tf ?_
                | with_reducible refine w_gld_ft ?_
                | with_reducible refine w_gldN_tt ?_
                | with_reducible refine w_gldN_ff ?_
                | with_reducible refine w_gldN_tf ?_
                | with_reducible refine w_gldN_ft ?_
                | with_reducible refine w_gB_tt ?_
                | with_reducible refine w_gB_ff ?_
                | with_reducible refine w_bind un_not ?_
                | with_reducible refine w_cond_t ?_
                | with_reducible refine w_cond_f ?_
                | with_reducible refine w_bind gV_u ?_
                | with_reducible refine w_bind gB_u ?_
                | with_reducible refine w_gld_u ?_)
              exact next H3 (by rw [htr, hbv]) h3'
            | false =>
              rw [Bool.not_false]
              repeat (first
                | with_reducible refine w_bind (pick_t _ _) ?_
                | with_reducible refine w_bind (pick_f _ _) ?_
                | with_reducible refine w_bind gV_tt ?_
                | with_reducible refine w_bind gV_ff ?_
                | with_reducible refine w_bind gV_tf ?_
                | with_reducible refine w_bind gV_ft ?_
                | with_reducible refine w_bind gB_tf ?_
                | with_reducible refine w_bind gB_ft ?_
                | with_reducible refine w_gE_tf ?_
                | with_reducible refine w_gE_ft ?_
                | with_reducible refine w_gE_tt ?_
                | with_reducible refine w_gE_ff ?_
                | with_reducible refine w_onK_tf ?_
                | with_reducible refine w_onK_ft ?_
                | with_reducible refine w_onK_tt ?_
                | with_reducible refine w_onK_ff ?_
                | with_reducible refine w_gld_tt ?_
                | with_reducible refine w_gld_ff ?_
                | with_reducible refine w_gld_tf ?_
                | with_reducible refine w_gld_ft ?_
                | with_reducible refine w_gldN_tt ?_
                | with_reducible refine w_gldN_ff ?_
                | with_reducible refine w_gldN_tf ?_
                | with_reducible refine w_gldN_ft ?_
                | with_reducible refine w_gB_tt ?_
                | with_reducible refine w_gB_ff ?_
                | with_reducible refine w_bind un_not ?_
                | with_reducible refine w_cond_t ?_
                | with_reducible refine w_cond_f ?_
                | with_reducible refine w_bind gV_u ?_
                | with_reducible refine w_bind gB_u ?_
                | with_reducible refine w_gld_u ?_)
              rw [hstep, htr, hbv, Bool.false_and]
              exact w_ret ⟨(), rfl, h3.to⟩
        · refine w_bind (eql_f hf) ?_
          repeat (first
            | with_reducible refine w_bind (pick_t _ _) ?_
            | with_reducible refine w_bind (pick_f _ _) ?_
            | with_reducible refine w_bind gV_tt ?_
            | with_reducible refine w_bind gV_ff ?_
            | with_reducible refine w_bind gV_tf ?_
            | with_reducible refine w_bind gV_ft ?_
            | with_reducible refine w_bind gB_tf ?_
            | with_reducible refine w_bind gB_ft ?_
            | with_reducible refine w_gE_tf ?_
            | with_reducible refine w_gE_ft ?_
            | with_reducible refine w_gE_tt ?_
            | with_reducible refine w_gE_ff ?_
            | with_reducible refine w_onK_tf ?_
            | with_reducible refine w_onK_ft ?_
            | with_reducible refine w_onK_tt ?_
            | with_reducible refine w_onK_ff ?_
            | with_reducible refine w_gld_tt ?_
            | with_reducible refine w_gld_ff ?_
            | with_reducible refine w_gld_tf ?_
            | with_reducible refine w_gld_ft ?_
            | with_reducible refine w_gldN_tt ?_
            | with_reducible refine w_gldN_ff ?_
            | with_reducible refine w_gldN_tf ?_
            | with_reducible refine w_gldN_ft ?_
            | with_reducible refine w_gB_tt ?_
            | with_reducible refine w_gB_ff ?_
            | with_reducible refine w_bind un_not ?_
            | with_reducible refine w_cond_t ?_
            | with_reducible refine w_cond_f ?_
            | with_reducible refine w_bind gV_u ?_
            | with_reducible refine w_bind gB_u ?_
            | with_reducible refine w_gld_u ?_)
          exact next H2 (by unfold tried; rw [if_neg (fun h => hf h.1)]) h2'
    · refine w_bind (neq_t hloc) ?_
      repeat (first
        | with_reducible refine w_bind (pick_t _ _) ?_
        | with_reducible refine w_bind (pick_f _ _) ?_
        | with_reducible refine w_bind gV_tt ?_
        | with_reducible refine w_bind gV_ff ?_
        | with_reducible refine w_bind gV_tf ?_
        | with_reducible refine w_bind gV_ft ?_
        | with_reducible refine w_bind gB_tf ?_
        | with_reducible refine w_bind gB_ft ?_
        | with_reducible refine w_gE_tf ?_
        | with_reducible refine w_gE_ft ?_
        | with_reducible refine w_gE_tt ?_
        | with_reducible refine w_gE_ff ?_
        | with_reducible refine w_onK_tf ?_
        | with_reducible refine w_onK_ft ?_
        | with_reducible refine w_onK_tt ?_
        | with_reducible refine w_onK_ff ?_
        | with_reducible refine w_gld_tt ?_
        | with_reducible refine w_gld_ff ?_
        | with_reducible refine w_gld_tf ?_
        | with_reducible refine w_gld_ft ?_
        | with_reducible refine w_gldN_tt ?_
        | with_reducible refine w_gldN_ff ?_
        | with_reducible refine w_gldN_tf ?_
        | with_reducible refine w_gldN_ft ?_
        | with_reducible refine w_gB_tt ?_
        | with_reducible refine w_gB_ff ?_
        | with_reducible refine w_bind un_not ?_
        | with_reducible refine w_cond_t ?_
        | with_reducible refine w_cond_f ?_
        | with_reducible refine w_bind gV_u ?_
        | with_reducible refine w_bind gB_u ?_
        | with_reducible refine w_gld_u ?_)
      refine wp_eq (pace_Tries_e8_1_eq _ _ _ _ _ _ H2) ?_
      refine next H2 (by unfold tried; rw [if_neg (fun h => hloc h.2)]) ?_
      rw [same (fun h => hloc h.2)]
      exact h2.to
theorem pace_tries {P : SP} {s : Value} {l : List Ev} [r : Rd P s 5 Ev.cells l] (hl : l.length < 1099511627776) : Sp n_pace_Tries [s] P (fun _ : Unit => vb (triesB l)) (fun _ => P) := by
  refine sp_of fun R H h => ?_
  refine wp_of (fun r => pace_Tries_of _ H) ?_
  refine w_map h fun mb H1 h1 => ?_
  refine wp_eq (pace_Tries_k0_eq _ _ _ H1) ?_
  refine w_rlen (l := l) h1 ?_
  refine wp_eq (pace_Tries_k2_eq _ _ _ _ _ _ H1) ?_
  have h2 := mpS_new ekS h1
  rw [← sep_assoc] at h2
  exact tries_loop hl mb (vb false) l.length 0 H1 (by omega) h2
end Go.Proofs.YtbjelopcelompaaGreatDoor.Gst
