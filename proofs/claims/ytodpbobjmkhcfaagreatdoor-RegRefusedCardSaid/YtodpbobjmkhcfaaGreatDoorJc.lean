/- Configs, calls, and what is made for new parts. -/
import Derived.Test.YtodpbobjmkhcfaaGreatDoorJb
namespace Go.Proofs.YtodpbobjmkhcfaaGreatDoor.Gst
open Go Go.RowKit
set_option linter.unusedSimpArgs false
set_option linter.unusedVariables false
set_option maxHeartbeats 1000000
set_option maxRecDepth 100000

def modI (v n : Int) : Int := (v % 18446744073709551616) % n
theorem modI_lt {v n : Int} (h : 0 < n) : 0 ≤ modI v n ∧ modI v n < n := ⟨Int.emod_nonneg _ (by omega), Int.emod_lt_of_pos _ h⟩
theorem play_mod (v n : Int) (h0 : 0 < n) (h1 : n < 9223372036854775808) : Sp n_play_Mod [vi v, vi n] emp (fun _ : Unit => vi (modI v n)) (fun _ => emp) := by
  refine sp_of fun R H h => ?_
  refine wp_of (fun r => play_Mod_of _ _ H) ?_
  have e1 : pConv (some .u64) (vi v) = some (vu (v % 18446744073709551616).toNat) := by
    simp only [pConv]
    rw [wrap_u]
    have : 0 ≤ v % 18446744073709551616 := Int.emod_nonneg _ (by omega)
    show _ = some (Value.int .u64 (((v % 18446744073709551616).toNat : Nat) : Int))
    rw [Int.toNat_of_nonneg this]
  refine w_bind (e1) ?_
  refine w_bind (conv_ui (by omega) (by omega)) ?_
  refine w_bind (bin_rem_u (by omega)) ?_
  have hm := modI_lt (v := v) h0
  have e2 : (((v % 18446744073709551616).toNat % n.toNat : Nat) : Int) = modI v n := by
    have : 0 ≤ v % 18446744073709551616 := Int.emod_nonneg _ (by omega)
    unfold modI
    rw [Int.natCast_emod, Int.toNat_of_nonneg this, Int.toNat_of_nonneg (by omega)]
  refine w_bind (conv_iu (by omega)) ?_
  rw [e2]
  exact w_ret ⟨(), rfl, Holds.to (by assumption)⟩

structure Cfg where
  sh : Int
  sl : Int
  wk : Int
  wd : Int
  un : Nat
abbrev Cfg.cells (c : Cfg) : List Value := [vi c.sh, vi c.sl, vi c.wk, vi c.wd, vu c.un]
structure Cl where
  op : Int
  flow : Int
  a : Int
  b : Int
abbrev Cl.cells (x : Cl) : List Value := [vi x.op, vi x.flow, vi x.a, vi x.b]
instance : Enc Cl.cells 4 := ⟨fun _ => rfl, fun _ => rfl, by omega⟩
/-- A slice's value. -/
structure Sv where
  a : Option Addr
  n : Nat
  c : Nat
abbrev Sv.v (s : Sv) : Value := .slice s.a s.n s.c
abbrev encS (s : Sv) : List Value := [.slice s.a s.n s.c]
instance : Enc encS 1 := ⟨fun _ => rfl, fun _ => rfl, by omega⟩
abbrev planV (c : Cfg) (v : Value) : List Value := [vi c.sh, vi c.sl, vi c.wk, vi c.wd, vu c.un, v]
def rightB (c : Cfg) : Bool := decide (1 ≤ c.sh ∧ c.sh ≤ 4 ∧ 1 ≤ c.sl ∧ c.sl ≤ 4 ∧ 1 ≤ c.wk ∧ c.wk ≤ 6 ∧ 0 ≤ c.wd ∧ c.wd ≤ 40 ∧ 1 ≤ c.un ∧ c.un ≤ 4611686018427387904)
theorem rightB_iff {c : Cfg} : rightB c = true ↔ (1 ≤ c.sh ∧ c.sh ≤ 4 ∧ 1 ≤ c.sl ∧ c.sl ≤ 4 ∧ 1 ≤ c.wk ∧ c.wk ≤ 6 ∧ 0 ≤ c.wd ∧ c.wd ≤ 40 ∧ 1 ≤ c.un ∧ c.un ≤ 4611686018427387904) := by unfold rightB; exact decide_eq_true_iff
theorem rightB_no {c : Cfg} (h : ¬ (1 ≤ c.sh ∧ c.sh ≤ 4 ∧ 1 ≤ c.sl ∧ c.sl ≤ 4 ∧ 1 ≤ c.wk ∧ c.wk ≤ 6 ∧ 0 ≤ c.wd ∧ c.wd ≤ 40 ∧ 1 ≤ c.un ∧ c.un ≤ 4611686018427387904)) : rightB c = false := by unfold rightB; exact decide_eq_false h
theorem model_within_law (x a b : Int) : Sp n_model_within [vi x, vi a, vi b] emp (fun _ : Unit => vb (decide (a ≤ x ∧ x ≤ b))) (fun _ => emp) := by
  refine sp_of fun R H h => ?_
  refine wp_of (fun r => model_within_of _ _ _ H) ?_
  by_cases h1 : a ≤ x
  · refine w_bind (geq_t h1) ?_
    with_reducible repeat (first | refine w_bind (pick_t _ _) ?_ | refine w_bind (pick_f _ _) ?_ | refine w_bind gV_tt ?_ | refine w_bind gV_ff ?_ | refine w_bind gV_tf ?_ | refine w_bind gV_ft ?_ | refine w_bind gB_tf ?_ | refine w_bind gB_ft ?_ | refine w_gE_tf ?_ | refine w_gE_ft ?_ | refine w_gE_tt ?_ | refine w_gE_ff ?_ | refine w_onK_tf ?_ | refine w_onK_ft ?_ | refine w_onK_tt ?_ | refine w_onK_ff ?_ | refine w_gld_tt ?_ | refine w_gld_ff ?_ | refine w_gld_tf ?_ | refine w_gld_ft ?_ | refine w_gldN_tt ?_ | refine w_gldN_ff ?_ | refine w_gldN_tf ?_ | refine w_gldN_ft ?_ | refine w_gB_tt ?_ | refine w_gB_ff ?_ | refine w_bind un_not ?_ | refine w_cond_t ?_ | refine w_cond_f ?_ | refine w_bind gV_u ?_ | refine w_bind gB_u ?_ | refine w_gld_u ?_)
    by_cases h2 : x ≤ b
    · refine w_bind (leq_t h2) ?_
      with_reducible repeat (first | refine w_bind (pick_t _ _) ?_ | refine w_bind (pick_f _ _) ?_ | refine w_bind gV_tt ?_ | refine w_bind gV_ff ?_ | refine w_bind gV_tf ?_ | refine w_bind gV_ft ?_ | refine w_bind gB_tf ?_ | refine w_bind gB_ft ?_ | refine w_gE_tf ?_ | refine w_gE_ft ?_ | refine w_gE_tt ?_ | refine w_gE_ff ?_ | refine w_onK_tf ?_ | refine w_onK_ft ?_ | refine w_onK_tt ?_ | refine w_onK_ff ?_ | refine w_gld_tt ?_ | refine w_gld_ff ?_ | refine w_gld_tf ?_ | refine w_gld_ft ?_ | refine w_gldN_tt ?_ | refine w_gldN_ff ?_ | refine w_gldN_tf ?_ | refine w_gldN_ft ?_ | refine w_gB_tt ?_ | refine w_gB_ff ?_ | refine w_bind un_not ?_ | refine w_cond_t ?_ | refine w_cond_f ?_ | refine w_bind gV_u ?_ | refine w_bind gB_u ?_ | refine w_gld_u ?_)
      rw [decide_eq_true ⟨h1, h2⟩]
      exact w_ret ⟨(), rfl, Holds.to (by assumption)⟩
    · refine w_bind (leq_f h2) ?_
      with_reducible repeat (first | refine w_bind (pick_t _ _) ?_ | refine w_bind (pick_f _ _) ?_ | refine w_bind gV_tt ?_ | refine w_bind gV_ff ?_ | refine w_bind gV_tf ?_ | refine w_bind gV_ft ?_ | refine w_bind gB_tf ?_ | refine w_bind gB_ft ?_ | refine w_gE_tf ?_ | refine w_gE_ft ?_ | refine w_gE_tt ?_ | refine w_gE_ff ?_ | refine w_onK_tf ?_ | refine w_onK_ft ?_ | refine w_onK_tt ?_ | refine w_onK_ff ?_ | refine w_gld_tt ?_ | refine w_gld_ff ?_ | refine w_gld_tf ?_ | refine w_gld_ft ?_ | refine w_gldN_tt ?_ | refine w_gldN_ff ?_ | refine w_gldN_tf ?_ | refine w_gldN_ft ?_ | refine w_gB_tt ?_ | refine w_gB_ff ?_ | refine w_bind un_not ?_ | refine w_cond_t ?_ | refine w_cond_f ?_ | refine w_bind gV_u ?_ | refine w_bind gB_u ?_ | refine w_gld_u ?_)
      rw [decide_eq_false (fun h => h2 h.2)]
      exact w_ret ⟨(), rfl, Holds.to (by assumption)⟩
  · refine w_bind (geq_f h1) ?_
    with_reducible repeat (first | refine w_bind (pick_t _ _) ?_ | refine w_bind (pick_f _ _) ?_ | refine w_bind gV_tt ?_ | refine w_bind gV_ff ?_ | refine w_bind gV_tf ?_ | refine w_bind gV_ft ?_ | refine w_bind gB_tf ?_ | refine w_bind gB_ft ?_ | refine w_gE_tf ?_ | refine w_gE_ft ?_ | refine w_gE_tt ?_ | refine w_gE_ff ?_ | refine w_onK_tf ?_ | refine w_onK_ft ?_ | refine w_onK_tt ?_ | refine w_onK_ff ?_ | refine w_gld_tt ?_ | refine w_gld_ff ?_ | refine w_gld_tf ?_ | refine w_gld_ft ?_ | refine w_gldN_tt ?_ | refine w_gldN_ff ?_ | refine w_gldN_tf ?_ | refine w_gldN_ft ?_ | refine w_gB_tt ?_ | refine w_gB_ff ?_ | refine w_bind un_not ?_ | refine w_cond_t ?_ | refine w_cond_f ?_ | refine w_bind gV_u ?_ | refine w_bind gB_u ?_ | refine w_gld_u ?_)
    rw [decide_eq_false (fun h => h1 h.1)]
    exact w_ret ⟨(), rfl, Holds.to (by assumption)⟩
theorem model_right (c : Cfg) : Sp n_model_Right [.agg (Cfg.cells c).toArray] emp (fun _ : Unit => vb (rightB c)) (fun _ => emp) := by
  refine sp_of fun R H h => ?_
  refine wp_of (fun r => model_Right_of _ H) ?_
  refine w_newC h fun b H1 h1 => ?_
  refine w_ld h1 end_f0 rfl ?_
  refine w_call h1 (model_within_law c.sh 1 4) fun _ K0 k0 => ?_
  by_cases g0 : (1 : Int) ≤ c.sh ∧ c.sh ≤ 4
  case neg =>
    rw [decide_eq_false g0]
    with_reducible repeat (first | refine w_bind (pick_t _ _) ?_ | refine w_bind (pick_f _ _) ?_ | refine w_bind gV_tt ?_ | refine w_bind gV_ff ?_ | refine w_bind gV_tf ?_ | refine w_bind gV_ft ?_ | refine w_bind gB_tf ?_ | refine w_bind gB_ft ?_ | refine w_gE_tf ?_ | refine w_gE_ft ?_ | refine w_gE_tt ?_ | refine w_gE_ff ?_ | refine w_onK_tf ?_ | refine w_onK_ft ?_ | refine w_onK_tt ?_ | refine w_onK_ff ?_ | refine w_gld_tt ?_ | refine w_gld_ff ?_ | refine w_gld_tf ?_ | refine w_gld_ft ?_ | refine w_gldN_tt ?_ | refine w_gldN_ff ?_ | refine w_gldN_tf ?_ | refine w_gldN_ft ?_ | refine w_gB_tt ?_ | refine w_gB_ff ?_ | refine w_bind un_not ?_ | refine w_cond_t ?_ | refine w_cond_f ?_ | refine w_bind gV_u ?_ | refine w_bind gB_u ?_ | refine w_gld_u ?_)
    rw [rightB_no (by omega)]
    exact w_ret ⟨(), rfl, Holds.to (by assumption)⟩
  rw [decide_eq_true g0]
  with_reducible repeat (first | refine w_bind (pick_t _ _) ?_ | refine w_bind (pick_f _ _) ?_ | refine w_bind gV_tt ?_ | refine w_bind gV_ff ?_ | refine w_bind gV_tf ?_ | refine w_bind gV_ft ?_ | refine w_bind gB_tf ?_ | refine w_bind gB_ft ?_ | refine w_gE_tf ?_ | refine w_gE_ft ?_ | refine w_gE_tt ?_ | refine w_gE_ff ?_ | refine w_onK_tf ?_ | refine w_onK_ft ?_ | refine w_onK_tt ?_ | refine w_onK_ff ?_ | refine w_gld_tt ?_ | refine w_gld_ff ?_ | refine w_gld_tf ?_ | refine w_gld_ft ?_ | refine w_gldN_tt ?_ | refine w_gldN_ff ?_ | refine w_gldN_tf ?_ | refine w_gldN_ft ?_ | refine w_gB_tt ?_ | refine w_gB_ff ?_ | refine w_bind un_not ?_ | refine w_cond_t ?_ | refine w_cond_f ?_ | refine w_bind gV_u ?_ | refine w_bind gB_u ?_ | refine w_gld_u ?_)
  refine w_ld k0 end_f0 rfl ?_
  with_reducible repeat (first | refine w_bind (pick_t _ _) ?_ | refine w_bind (pick_f _ _) ?_ | refine w_bind gV_tt ?_ | refine w_bind gV_ff ?_ | refine w_bind gV_tf ?_ | refine w_bind gV_ft ?_ | refine w_bind gB_tf ?_ | refine w_bind gB_ft ?_ | refine w_gE_tf ?_ | refine w_gE_ft ?_ | refine w_gE_tt ?_ | refine w_gE_ff ?_ | refine w_onK_tf ?_ | refine w_onK_ft ?_ | refine w_onK_tt ?_ | refine w_onK_ff ?_ | refine w_gld_tt ?_ | refine w_gld_ff ?_ | refine w_gld_tf ?_ | refine w_gld_ft ?_ | refine w_gldN_tt ?_ | refine w_gldN_ff ?_ | refine w_gldN_tf ?_ | refine w_gldN_ft ?_ | refine w_gB_tt ?_ | refine w_gB_ff ?_ | refine w_bind un_not ?_ | refine w_cond_t ?_ | refine w_cond_f ?_ | refine w_bind gV_u ?_ | refine w_bind gB_u ?_ | refine w_gld_u ?_)
  refine w_call k0 (model_within_law c.sl 1 4) fun _ K1 k1 => ?_
  by_cases g1 : (1 : Int) ≤ c.sl ∧ c.sl ≤ 4
  case neg =>
    rw [decide_eq_false g1]
    with_reducible repeat (first | refine w_bind (pick_t _ _) ?_ | refine w_bind (pick_f _ _) ?_ | refine w_bind gV_tt ?_ | refine w_bind gV_ff ?_ | refine w_bind gV_tf ?_ | refine w_bind gV_ft ?_ | refine w_bind gB_tf ?_ | refine w_bind gB_ft ?_ | refine w_gE_tf ?_ | refine w_gE_ft ?_ | refine w_gE_tt ?_ | refine w_gE_ff ?_ | refine w_onK_tf ?_ | refine w_onK_ft ?_ | refine w_onK_tt ?_ | refine w_onK_ff ?_ | refine w_gld_tt ?_ | refine w_gld_ff ?_ | refine w_gld_tf ?_ | refine w_gld_ft ?_ | refine w_gldN_tt ?_ | refine w_gldN_ff ?_ | refine w_gldN_tf ?_ | refine w_gldN_ft ?_ | refine w_gB_tt ?_ | refine w_gB_ff ?_ | refine w_bind un_not ?_ | refine w_cond_t ?_ | refine w_cond_f ?_ | refine w_bind gV_u ?_ | refine w_bind gB_u ?_ | refine w_gld_u ?_)
    rw [rightB_no (by omega)]
    exact w_ret ⟨(), rfl, Holds.to (by assumption)⟩
  rw [decide_eq_true g1]
  with_reducible repeat (first | refine w_bind (pick_t _ _) ?_ | refine w_bind (pick_f _ _) ?_ | refine w_bind gV_tt ?_ | refine w_bind gV_ff ?_ | refine w_bind gV_tf ?_ | refine w_bind gV_ft ?_ | refine w_bind gB_tf ?_ | refine w_bind gB_ft ?_ | refine w_gE_tf ?_ | refine w_gE_ft ?_ | refine w_gE_tt ?_ | refine w_gE_ff ?_ | refine w_onK_tf ?_ | refine w_onK_ft ?_ | refine w_onK_tt ?_ | refine w_onK_ff ?_ | refine w_gld_tt ?_ | refine w_gld_ff ?_ | refine w_gld_tf ?_ | refine w_gld_ft ?_ | refine w_gldN_tt ?_ | refine w_gldN_ff ?_ | refine w_gldN_tf ?_ | refine w_gldN_ft ?_ | refine w_gB_tt ?_ | refine w_gB_ff ?_ | refine w_bind un_not ?_ | refine w_cond_t ?_ | refine w_cond_f ?_ | refine w_bind gV_u ?_ | refine w_bind gB_u ?_ | refine w_gld_u ?_)
  refine w_ld k1 end_f0 rfl ?_
  with_reducible repeat (first | refine w_bind (pick_t _ _) ?_ | refine w_bind (pick_f _ _) ?_ | refine w_bind gV_tt ?_ | refine w_bind gV_ff ?_ | refine w_bind gV_tf ?_ | refine w_bind gV_ft ?_ | refine w_bind gB_tf ?_ | refine w_bind gB_ft ?_ | refine w_gE_tf ?_ | refine w_gE_ft ?_ | refine w_gE_tt ?_ | refine w_gE_ff ?_ | refine w_onK_tf ?_ | refine w_onK_ft ?_ | refine w_onK_tt ?_ | refine w_onK_ff ?_ | refine w_gld_tt ?_ | refine w_gld_ff ?_ | refine w_gld_tf ?_ | refine w_gld_ft ?_ | refine w_gldN_tt ?_ | refine w_gldN_ff ?_ | refine w_gldN_tf ?_ | refine w_gldN_ft ?_ | refine w_gB_tt ?_ | refine w_gB_ff ?_ | refine w_bind un_not ?_ | refine w_cond_t ?_ | refine w_cond_f ?_ | refine w_bind gV_u ?_ | refine w_bind gB_u ?_ | refine w_gld_u ?_)
  refine w_call k1 (model_within_law c.wk 1 6) fun _ K2 k2 => ?_
  by_cases g2 : (1 : Int) ≤ c.wk ∧ c.wk ≤ 6
  case neg =>
    rw [decide_eq_false g2]
    with_reducible repeat (first | refine w_bind (pick_t _ _) ?_ | refine w_bind (pick_f _ _) ?_ | refine w_bind gV_tt ?_ | refine w_bind gV_ff ?_ | refine w_bind gV_tf ?_ | refine w_bind gV_ft ?_ | refine w_bind gB_tf ?_ | refine w_bind gB_ft ?_ | refine w_gE_tf ?_ | refine w_gE_ft ?_ | refine w_gE_tt ?_ | refine w_gE_ff ?_ | refine w_onK_tf ?_ | refine w_onK_ft ?_ | refine w_onK_tt ?_ | refine w_onK_ff ?_ | refine w_gld_tt ?_ | refine w_gld_ff ?_ | refine w_gld_tf ?_ | refine w_gld_ft ?_ | refine w_gldN_tt ?_ | refine w_gldN_ff ?_ | refine w_gldN_tf ?_ | refine w_gldN_ft ?_ | refine w_gB_tt ?_ | refine w_gB_ff ?_ | refine w_bind un_not ?_ | refine w_cond_t ?_ | refine w_cond_f ?_ | refine w_bind gV_u ?_ | refine w_bind gB_u ?_ | refine w_gld_u ?_)
    rw [rightB_no (by omega)]
    exact w_ret ⟨(), rfl, Holds.to (by assumption)⟩
  rw [decide_eq_true g2]
  with_reducible repeat (first | refine w_bind (pick_t _ _) ?_ | refine w_bind (pick_f _ _) ?_ | refine w_bind gV_tt ?_ | refine w_bind gV_ff ?_ | refine w_bind gV_tf ?_ | refine w_bind gV_ft ?_ | refine w_bind gB_tf ?_ | refine w_bind gB_ft ?_ | refine w_gE_tf ?_ | refine w_gE_ft ?_ | refine w_gE_tt ?_ | refine w_gE_ff ?_ | refine w_onK_tf ?_ | refine w_onK_ft ?_ | refine w_onK_tt ?_ | refine w_onK_ff ?_ | refine w_gld_tt ?_ | refine w_gld_ff ?_ | refine w_gld_tf ?_ | refine w_gld_ft ?_ | refine w_gldN_tt ?_ | refine w_gldN_ff ?_ | refine w_gldN_tf ?_ | refine w_gldN_ft ?_ | refine w_gB_tt ?_ | refine w_gB_ff ?_ | refine w_bind un_not ?_ | refine w_cond_t ?_ | refine w_cond_f ?_ | refine w_bind gV_u ?_ | refine w_bind gB_u ?_ | refine w_gld_u ?_)
  refine w_ld k2 end_f0 rfl ?_
  with_reducible repeat (first | refine w_bind (pick_t _ _) ?_ | refine w_bind (pick_f _ _) ?_ | refine w_bind gV_tt ?_ | refine w_bind gV_ff ?_ | refine w_bind gV_tf ?_ | refine w_bind gV_ft ?_ | refine w_bind gB_tf ?_ | refine w_bind gB_ft ?_ | refine w_gE_tf ?_ | refine w_gE_ft ?_ | refine w_gE_tt ?_ | refine w_gE_ff ?_ | refine w_onK_tf ?_ | refine w_onK_ft ?_ | refine w_onK_tt ?_ | refine w_onK_ff ?_ | refine w_gld_tt ?_ | refine w_gld_ff ?_ | refine w_gld_tf ?_ | refine w_gld_ft ?_ | refine w_gldN_tt ?_ | refine w_gldN_ff ?_ | refine w_gldN_tf ?_ | refine w_gldN_ft ?_ | refine w_gB_tt ?_ | refine w_gB_ff ?_ | refine w_bind un_not ?_ | refine w_cond_t ?_ | refine w_cond_f ?_ | refine w_bind gV_u ?_ | refine w_bind gB_u ?_ | refine w_gld_u ?_)
  refine w_call k2 (model_within_law c.wd 0 40) fun _ K3 k3 => ?_
  by_cases g3 : (0 : Int) ≤ c.wd ∧ c.wd ≤ 40
  case neg =>
    rw [decide_eq_false g3]
    with_reducible repeat (first | refine w_bind (pick_t _ _) ?_ | refine w_bind (pick_f _ _) ?_ | refine w_bind gV_tt ?_ | refine w_bind gV_ff ?_ | refine w_bind gV_tf ?_ | refine w_bind gV_ft ?_ | refine w_bind gB_tf ?_ | refine w_bind gB_ft ?_ | refine w_gE_tf ?_ | refine w_gE_ft ?_ | refine w_gE_tt ?_ | refine w_gE_ff ?_ | refine w_onK_tf ?_ | refine w_onK_ft ?_ | refine w_onK_tt ?_ | refine w_onK_ff ?_ | refine w_gld_tt ?_ | refine w_gld_ff ?_ | refine w_gld_tf ?_ | refine w_gld_ft ?_ | refine w_gldN_tt ?_ | refine w_gldN_ff ?_ | refine w_gldN_tf ?_ | refine w_gldN_ft ?_ | refine w_gB_tt ?_ | refine w_gB_ff ?_ | refine w_bind un_not ?_ | refine w_cond_t ?_ | refine w_cond_f ?_ | refine w_bind gV_u ?_ | refine w_bind gB_u ?_ | refine w_gld_u ?_)
    rw [rightB_no (by omega)]
    exact w_ret ⟨(), rfl, Holds.to (by assumption)⟩
  rw [decide_eq_true g3]
  with_reducible repeat (first | refine w_bind (pick_t _ _) ?_ | refine w_bind (pick_f _ _) ?_ | refine w_bind gV_tt ?_ | refine w_bind gV_ff ?_ | refine w_bind gV_tf ?_ | refine w_bind gV_ft ?_ | refine w_bind gB_tf ?_ | refine w_bind gB_ft ?_ | refine w_gE_tf ?_ | refine w_gE_ft ?_ | refine w_gE_tt ?_ | refine w_gE_ff ?_ | refine w_onK_tf ?_ | refine w_onK_ft ?_ | refine w_onK_tt ?_ | refine w_onK_ff ?_ | refine w_gld_tt ?_ | refine w_gld_ff ?_ | refine w_gld_tf ?_ | refine w_gld_ft ?_ | refine w_gldN_tt ?_ | refine w_gldN_ff ?_ | refine w_gldN_tf ?_ | refine w_gldN_ft ?_ | refine w_gB_tt ?_ | refine w_gB_ff ?_ | refine w_bind un_not ?_ | refine w_cond_t ?_ | refine w_cond_f ?_ | refine w_bind gV_u ?_ | refine w_bind gB_u ?_ | refine w_gld_u ?_)
  refine w_ld k3 end_f0 rfl ?_
  with_reducible repeat (first | refine w_bind (pick_t _ _) ?_ | refine w_bind (pick_f _ _) ?_ | refine w_bind gV_tt ?_ | refine w_bind gV_ff ?_ | refine w_bind gV_tf ?_ | refine w_bind gV_ft ?_ | refine w_bind gB_tf ?_ | refine w_bind gB_ft ?_ | refine w_gE_tf ?_ | refine w_gE_ft ?_ | refine w_gE_tt ?_ | refine w_gE_ff ?_ | refine w_onK_tf ?_ | refine w_onK_ft ?_ | refine w_onK_tt ?_ | refine w_onK_ff ?_ | refine w_gld_tt ?_ | refine w_gld_ff ?_ | refine w_gld_tf ?_ | refine w_gld_ft ?_ | refine w_gldN_tt ?_ | refine w_gldN_ff ?_ | refine w_gldN_tf ?_ | refine w_gldN_ft ?_ | refine w_gB_tt ?_ | refine w_gB_ff ?_ | refine w_bind un_not ?_ | refine w_cond_t ?_ | refine w_cond_f ?_ | refine w_bind gV_u ?_ | refine w_bind gB_u ?_ | refine w_gld_u ?_)
  by_cases g4 : (1 : Int) ≤ c.un
  case neg =>
    refine w_bind (geq_f g4) ?_
    with_reducible repeat (first | refine w_bind (pick_t _ _) ?_ | refine w_bind (pick_f _ _) ?_ | refine w_bind gV_tt ?_ | refine w_bind gV_ff ?_ | refine w_bind gV_tf ?_ | refine w_bind gV_ft ?_ | refine w_bind gB_tf ?_ | refine w_bind gB_ft ?_ | refine w_gE_tf ?_ | refine w_gE_ft ?_ | refine w_gE_tt ?_ | refine w_gE_ff ?_ | refine w_onK_tf ?_ | refine w_onK_ft ?_ | refine w_onK_tt ?_ | refine w_onK_ff ?_ | refine w_gld_tt ?_ | refine w_gld_ff ?_ | refine w_gld_tf ?_ | refine w_gld_ft ?_ | refine w_gldN_tt ?_ | refine w_gldN_ff ?_ | refine w_gldN_tf ?_ | refine w_gldN_ft ?_ | refine w_gB_tt ?_ | refine w_gB_ff ?_ | refine w_bind un_not ?_ | refine w_cond_t ?_ | refine w_cond_f ?_ | refine w_bind gV_u ?_ | refine w_bind gB_u ?_ | refine w_gld_u ?_)
    rw [rightB_no (by omega)]
    exact w_ret ⟨(), rfl, Holds.to (by assumption)⟩
  refine w_bind (geq_t g4) ?_
  with_reducible repeat (first | refine w_bind (pick_t _ _) ?_ | refine w_bind (pick_f _ _) ?_ | refine w_bind gV_tt ?_ | refine w_bind gV_ff ?_ | refine w_bind gV_tf ?_ | refine w_bind gV_ft ?_ | refine w_bind gB_tf ?_ | refine w_bind gB_ft ?_ | refine w_gE_tf ?_ | refine w_gE_ft ?_ | refine w_gE_tt ?_ | refine w_gE_ff ?_ | refine w_onK_tf ?_ | refine w_onK_ft ?_ | refine w_onK_tt ?_ | refine w_onK_ff ?_ | refine w_gld_tt ?_ | refine w_gld_ff ?_ | refine w_gld_tf ?_ | refine w_gld_ft ?_ | refine w_gldN_tt ?_ | refine w_gldN_ff ?_ | refine w_gldN_tf ?_ | refine w_gldN_ft ?_ | refine w_gB_tt ?_ | refine w_gB_ff ?_ | refine w_bind un_not ?_ | refine w_cond_t ?_ | refine w_cond_f ?_ | refine w_bind gV_u ?_ | refine w_bind gB_u ?_ | refine w_gld_u ?_)
  refine w_ld k3 end_f0 rfl ?_
  with_reducible repeat (first | refine w_bind (pick_t _ _) ?_ | refine w_bind (pick_f _ _) ?_ | refine w_bind gV_tt ?_ | refine w_bind gV_ff ?_ | refine w_bind gV_tf ?_ | refine w_bind gV_ft ?_ | refine w_bind gB_tf ?_ | refine w_bind gB_ft ?_ | refine w_gE_tf ?_ | refine w_gE_ft ?_ | refine w_gE_tt ?_ | refine w_gE_ff ?_ | refine w_onK_tf ?_ | refine w_onK_ft ?_ | refine w_onK_tt ?_ | refine w_onK_ff ?_ | refine w_gld_tt ?_ | refine w_gld_ff ?_ | refine w_gld_tf ?_ | refine w_gld_ft ?_ | refine w_gldN_tt ?_ | refine w_gldN_ff ?_ | refine w_gldN_tf ?_ | refine w_gldN_ft ?_ | refine w_gB_tt ?_ | refine w_gB_ff ?_ | refine w_bind un_not ?_ | refine w_cond_t ?_ | refine w_cond_f ?_ | refine w_bind gV_u ?_ | refine w_bind gB_u ?_ | refine w_gld_u ?_)
  by_cases g5 : (c.un : Int) ≤ 4611686018427387904
  case neg =>
    refine w_bind (leq_f g5) ?_
    with_reducible repeat (first | refine w_bind (pick_t _ _) ?_ | refine w_bind (pick_f _ _) ?_ | refine w_bind gV_tt ?_ | refine w_bind gV_ff ?_ | refine w_bind gV_tf ?_ | refine w_bind gV_ft ?_ | refine w_bind gB_tf ?_ | refine w_bind gB_ft ?_ | refine w_gE_tf ?_ | refine w_gE_ft ?_ | refine w_gE_tt ?_ | refine w_gE_ff ?_ | refine w_onK_tf ?_ | refine w_onK_ft ?_ | refine w_onK_tt ?_ | refine w_onK_ff ?_ | refine w_gld_tt ?_ | refine w_gld_ff ?_ | refine w_gld_tf ?_ | refine w_gld_ft ?_ | refine w_gldN_tt ?_ | refine w_gldN_ff ?_ | refine w_gldN_tf ?_ | refine w_gldN_ft ?_ | refine w_gB_tt ?_ | refine w_gB_ff ?_ | refine w_bind un_not ?_ | refine w_cond_t ?_ | refine w_cond_f ?_ | refine w_bind gV_u ?_ | refine w_bind gB_u ?_ | refine w_gld_u ?_)
    rw [rightB_no (by omega)]
    exact w_ret ⟨(), rfl, Holds.to (by assumption)⟩
  refine w_bind (leq_t g5) ?_
  with_reducible repeat (first | refine w_bind (pick_t _ _) ?_ | refine w_bind (pick_f _ _) ?_ | refine w_bind gV_tt ?_ | refine w_bind gV_ff ?_ | refine w_bind gV_tf ?_ | refine w_bind gV_ft ?_ | refine w_bind gB_tf ?_ | refine w_bind gB_ft ?_ | refine w_gE_tf ?_ | refine w_gE_ft ?_ | refine w_gE_tt ?_ | refine w_gE_ff ?_ | refine w_onK_tf ?_ | refine w_onK_ft ?_ | refine w_onK_tt ?_ | refine w_onK_ff ?_ | refine w_gld_tt ?_ | refine w_gld_ff ?_ | refine w_gld_tf ?_ | refine w_gld_ft ?_ | refine w_gldN_tt ?_ | refine w_gldN_ff ?_ | refine w_gldN_tf ?_ | refine w_gldN_ft ?_ | refine w_gB_tt ?_ | refine w_gB_ff ?_ | refine w_bind un_not ?_ | refine w_cond_t ?_ | refine w_cond_f ?_ | refine w_bind gV_u ?_ | refine w_bind gB_u ?_ | refine w_gld_u ?_)
  rw [rightB_iff.2 (by omega)]
  exact w_ret ⟨(), rfl, Holds.to (by assumption)⟩

/-! ### Lists of calls -/
theorem wheel_held_law (w : Int) : Sp n_wheel_held [vi w] emp (fun x : Int => vi x) (fun _ => emp) := by
  refine sp_of fun R H h => ?_
  refine wp_of (fun r => wheel_held_of _ H) ?_
  refine w_bind (max_i) ?_
  refine w_bind (min_i) ?_
  exact w_ret ⟨_, rfl, h⟩
theorem wheel_new (w : Int) : Sp n_wheel_New [vi w] emp (fun b : Nat => vp b) (fun _ => emp) := by
  refine sp_of fun R H h => ?_
  refine wp_of (fun r => wheel_New_of _ H) ?_
  refine w_call h (wheel_held_law w) fun x H1 h1 => ?_
  refine w_map h1 fun mb H2 h2 => ?_
  refine w_mkS rfl ?_
  refine w_newC h2 fun b H3 h3 => ?_
  exact w_ret ⟨b, rfl, h3.to⟩
theorem heap_new : Sp n_heap_New [] emp (fun b : Nat => vp b) (fun _ => emp) := by
  refine sp_of fun R H h => ?_
  refine wp_of (fun r => heap_New_of H) ?_
  refine w_map h fun mb H2 h2 => ?_
  refine w_S ?_
  refine w_newC h2 fun b H3 h3 => ?_
  exact w_ret ⟨b, rfl, h3.to⟩
theorem shard_new (w : Int) : Sp n_shard_New [vi w] emp (fun b : Nat => vp b) (fun _ => emp) := by
  refine sp_of fun R H h => ?_
  refine wp_of (fun r => shard_New_of _ H) ?_
  refine w_call h (wheel_new w) fun x H1 h1 => ?_
  refine w_call h1 heap_new fun y H2 h2 => ?_
  refine w_S ?_
  refine w_newC h2 fun b H3 h3 => ?_
  exact w_ret ⟨b, rfl, h3.to⟩
theorem mem_new : Sp n_mem_New [] emp (fun b : Nat => vp b) (fun _ => emp) := by
  refine sp_of fun R H h => ?_
  refine wp_of (fun r => mem_New_of H) ?_
  refine w_map h fun mb H2 h2 => ?_
  refine w_S ?_
  refine w_newC h2 fun b H3 h3 => ?_
  exact w_ret ⟨b, rfl, h3.to⟩
theorem inbox_new (m : Nat) (s : Int) : Sp n_inbox_New [vp m, vi s] emp (fun b : Nat => vp b) (fun _ => emp) := by
  refine sp_of fun R H h => ?_
  refine wp_of (fun r => inbox_New_of _ _ H) ?_
  refine w_bind (max_i) ?_
  refine w_bind (min_i) ?_
  refine w_map h fun mb H2 h2 => ?_
  refine w_S ?_
  refine w_newC h2 fun b H3 h3 => ?_
  exact w_ret ⟨b, rfl, h3.to⟩
theorem table_new (m : Nat) (s t : Int) : Sp n_table_New [vp m, vi s, vi t] emp (fun b : Nat => vp b) (fun _ => emp) := by
  refine sp_of fun R H h => ?_
  refine wp_of (fun r => table_New_of _ _ _ H) ?_
  refine w_bind (max_i) ?_
  refine w_bind (min_i) ?_
  refine w_bind (max_i) ?_
  refine w_bind (min_i) ?_
  refine w_S ?_
  refine w_newC h fun b H3 h3 => ?_
  exact w_ret ⟨b, rfl, h3.to⟩
theorem post_new (m : Nat) (s : Int) : Sp n_post_New [vp m, vi s] emp (fun b : Nat => vp b) (fun _ => emp) := by
  refine sp_of fun R H h => ?_
  refine wp_of (fun r => post_New_of _ _ H) ?_
  refine w_bind (max_i) ?_
  refine w_bind (min_i) ?_
  refine w_map h fun mb H2 h2 => ?_
  refine w_map h2 fun mc H3 h3 => ?_
  refine w_S ?_
  refine w_newC h3 fun b H4 h4 => ?_
  exact w_ret ⟨b, rfl, h4.to⟩

/-! ### The tour, the queue -/
structure Lf where
  k : Int
  i : Int
  b : Bool
abbrev Lf.cells (x : Lf) : List Value := [vw x.k, vi x.i, vb x.b]
instance : Enc Lf.cells 3 := ⟨fun _ => rfl, fun _ => rfl, by omega⟩
def tourP (t : Nat) (lv : Value) (s : Nat) (nv : Value) (m : List Int) : SP := blk t (.cells false [lv, vi s, nv]) * ts 1 encI nv m
theorem tour_new (n : Int) : Sp n_tour_New [vi n] emp (fun b : Nat => vp b) (fun _ => emp) := by
  refine sp_of fun R H h => ?_
  refine wp_of (fun r => tour_New_of _ H) ?_
  refine w_bind (max_i) ?_
  refine w_bind (min_i) ?_
  obtain ⟨k, hk⟩ : ∃ k : Nat, min (max n 1) 16 = k := ⟨(min (max n 1) 16).toNat, by omega⟩
  rw [hk]
  have hk1 : 1 ≤ k := by omega
  have hk16 : k ≤ 16 := by omega
  refine w_make (enc := Lf.cells) (⟨0, 0, false⟩ : Lf) h rfl (by unfold room; omega) (by omega) fun lb H1 h1 => ?_
  refine w_S ?_
  refine w_newC h1 fun t H2 h2 => ?_
  refine wp_eq (tour_New_k0_eq _ _ _ H2) ?_
  -- the nodes
  have nodes : ∀ (s : Nat) (H : AH), s ≤ 32 → Holds (tourP t (vs lb k 3) s (.slice none 0 0) [] * R) H → wp (tour_New_k1 (.pointer none) (vp t) H) fun v' H' => ∃ b : Nat, v' = vp b ∧ Holds (emp * R) H' := by
    intro s H hs h
    refine wp_eq (tour_New_k1_eq _ _ H) ?_
    unfold tourP at h
    refine w_ld h end_nf rfl ?_
    refine w_bind (bin_mul_i (by omega) (by omega)) ?_
    refine wp_eq (tour_New_k3_eq _ _ _ _ H) ?_
    have loop : ∀ (d i : Nat) (nv : Value) (m : List Int) (H : AH), i + d = 2 * s → m.length = i → Holds (blk t (.cells false [vs lb k 3, vi s, nv]) * ts 1 encI nv m * R) H → wp (tour_New_k5 (.pointer none) (vp t) (vi (2 * (s : Int))) (vi i) H) fun v' H' => ∃ b : Nat, v' = vp b ∧ Holds (emp * R) H' := by
      intro d
      induction d with
      | zero =>
        intro i nv m H hi hm h
        refine wp_eq (tour_New_k5_eq _ _ _ _ H) ?_
        refine w_bind (lss_f (by omega)) ?_
        with_reducible repeat (first | refine w_bind (pick_t _ _) ?_ | refine w_bind (pick_f _ _) ?_ | refine w_bind gV_tt ?_ | refine w_bind gV_ff ?_ | refine w_bind gV_tf ?_ | refine w_bind gV_ft ?_ | refine w_bind gB_tf ?_ | refine w_bind gB_ft ?_ | refine w_gE_tf ?_ | refine w_gE_ft ?_ | refine w_gE_tt ?_ | refine w_gE_ff ?_ | refine w_onK_tf ?_ | refine w_onK_ft ?_ | refine w_onK_tt ?_ | refine w_onK_ff ?_ | refine w_gld_tt ?_ | refine w_gld_ff ?_ | refine w_gld_tf ?_ | refine w_gld_ft ?_ | refine w_gldN_tt ?_ | refine w_gldN_ff ?_ | refine w_gldN_tf ?_ | refine w_gldN_ft ?_ | refine w_gB_tt ?_ | refine w_gB_ff ?_ | refine w_bind un_not ?_ | refine w_cond_t ?_ | refine w_cond_f ?_ | refine w_bind gV_u ?_ | refine w_bind gB_u ?_ | refine w_gld_u ?_)
        refine wp_eq (tour_New_e4_2_eq _ _ H) ?_
        refine wp_eq (tour_New_k2_eq _ _ H) ?_
        exact w_ret ⟨t, rfl, h.to⟩
      | succ d ih =>
        intro i nv m H hi hm h
        refine wp_eq (tour_New_k5_eq _ _ _ _ H) ?_
        refine w_bind (lss_t (by omega)) ?_
        with_reducible repeat (first | refine w_bind (pick_t _ _) ?_ | refine w_bind (pick_f _ _) ?_ | refine w_bind gV_tt ?_ | refine w_bind gV_ff ?_ | refine w_bind gV_tf ?_ | refine w_bind gV_ft ?_ | refine w_bind gB_tf ?_ | refine w_bind gB_ft ?_ | refine w_gE_tf ?_ | refine w_gE_ft ?_ | refine w_gE_tt ?_ | refine w_gE_ff ?_ | refine w_onK_tf ?_ | refine w_onK_ft ?_ | refine w_onK_tt ?_ | refine w_onK_ff ?_ | refine w_gld_tt ?_ | refine w_gld_ff ?_ | refine w_gld_tf ?_ | refine w_gld_ft ?_ | refine w_gldN_tt ?_ | refine w_gldN_ff ?_ | refine w_gldN_tf ?_ | refine w_gldN_ft ?_ | refine w_gB_tt ?_ | refine w_gB_ff ?_ | refine w_bind un_not ?_ | refine w_cond_t ?_ | refine w_cond_f ?_ | refine w_bind gV_u ?_ | refine w_bind gB_u ?_ | refine w_gld_u ?_)
        refine wp_eq (tour_New_k6_eq _ _ _ _ H) ?_
        refine w_ld h end_nf rfl ?_
        refine w_R h fun b0 H3 h3 => ?_
        refine w_tapp (-1 : Int) h3 rfl ?_ (by omega) fun a c H4 h4 => ?_
        · unfold room; omega
        refine w_st h4 end_nf rfl rfl fun H5 h5 => ?_
        refine wp_eq (tour_New_k7_eq _ _ _ _ H5) ?_
        refine w_bind (bin_add_i (by omega) (by omega)) ?_
        refine ih (i + 1) (.slice a (m.length + 1) c) (m ++ [-1]) H5 (by omega) (by simp; omega) h5.to
    exact loop (2 * s) 0 (.slice none 0 0) [] H (by omega) rfl h
  -- the size
  have size : ∀ (d s : Nat) (H : AH), 16 ≤ s + d → 1 ≤ s → s ≤ 32 → Holds (tourP t (vs lb k 3) s (.slice none 0 0) [] * R) H → wp (tour_New_k19 (vi k) (.pointer none) (vp t) H) fun v' H' => ∃ b : Nat, v' = vp b ∧ Holds (emp * R) H' := by
    intro d
    induction d with
    | zero =>
      intro s H hd hs1 hs h
      refine wp_eq (tour_New_k19_eq _ _ _ H) ?_
      have h' := h
      unfold tourP at h'
      refine w_ld h' end_nf rfl ?_
      refine w_bind (lss_f (by omega)) ?_
      with_reducible repeat (first | refine w_bind (pick_t _ _) ?_ | refine w_bind (pick_f _ _) ?_ | refine w_bind gV_tt ?_ | refine w_bind gV_ff ?_ | refine w_bind gV_tf ?_ | refine w_bind gV_ft ?_ | refine w_bind gB_tf ?_ | refine w_bind gB_ft ?_ | refine w_gE_tf ?_ | refine w_gE_ft ?_ | refine w_gE_tt ?_ | refine w_gE_ff ?_ | refine w_onK_tf ?_ | refine w_onK_ft ?_ | refine w_onK_tt ?_ | refine w_onK_ff ?_ | refine w_gld_tt ?_ | refine w_gld_ff ?_ | refine w_gld_tf ?_ | refine w_gld_ft ?_ | refine w_gldN_tt ?_ | refine w_gldN_ff ?_ | refine w_gldN_tf ?_ | refine w_gldN_ft ?_ | refine w_gB_tt ?_ | refine w_gB_ff ?_ | refine w_bind un_not ?_ | refine w_cond_t ?_ | refine w_cond_f ?_ | refine w_bind gV_u ?_ | refine w_bind gB_u ?_ | refine w_gld_u ?_)
      refine wp_eq (tour_New_e18_0_eq _ _ H) ?_
      exact nodes s H hs h
    | succ d ih =>
      intro s H hd hs1 hs h
      refine wp_eq (tour_New_k19_eq _ _ _ H) ?_
      have h' := h
      unfold tourP at h'
      refine w_ld h' end_nf rfl ?_
      by_cases hlt : (s : Int) < k
      · refine w_bind (lss_t hlt) ?_
        with_reducible repeat (first | refine w_bind (pick_t _ _) ?_ | refine w_bind (pick_f _ _) ?_ | refine w_bind gV_tt ?_ | refine w_bind gV_ff ?_ | refine w_bind gV_tf ?_ | refine w_bind gV_ft ?_ | refine w_bind gB_tf ?_ | refine w_bind gB_ft ?_ | refine w_gE_tf ?_ | refine w_gE_ft ?_ | refine w_gE_tt ?_ | refine w_gE_ff ?_ | refine w_onK_tf ?_ | refine w_onK_ft ?_ | refine w_onK_tt ?_ | refine w_onK_ff ?_ | refine w_gld_tt ?_ | refine w_gld_ff ?_ | refine w_gld_tf ?_ | refine w_gld_ft ?_ | refine w_gldN_tt ?_ | refine w_gldN_ff ?_ | refine w_gldN_tf ?_ | refine w_gldN_ft ?_ | refine w_gB_tt ?_ | refine w_gB_ff ?_ | refine w_bind un_not ?_ | refine w_cond_t ?_ | refine w_cond_f ?_ | refine w_bind gV_u ?_ | refine w_bind gB_u ?_ | refine w_gld_u ?_)
        refine wp_eq (tour_New_k20_eq _ _ _ H) ?_
        refine w_ld h' end_nf rfl ?_
        refine w_bind (bin_mul_i (by omega) (by omega)) ?_
        refine w_st h' end_nf rfl rfl fun H3 h3 => ?_
        refine ih (s * 2) H3 (by omega) (by omega) (by omega) ?_
        unfold tourP
        rw [show (((s * 2 : Nat) : Int)) = (s : Int) * 2 from by omega]
        exact h3.to
      · refine w_bind (lss_f hlt) ?_
        with_reducible repeat (first | refine w_bind (pick_t _ _) ?_ | refine w_bind (pick_f _ _) ?_ | refine w_bind gV_tt ?_ | refine w_bind gV_ff ?_ | refine w_bind gV_tf ?_ | refine w_bind gV_ft ?_ | refine w_bind gB_tf ?_ | refine w_bind gB_ft ?_ | refine w_gE_tf ?_ | refine w_gE_ft ?_ | refine w_gE_tt ?_ | refine w_gE_ff ?_ | refine w_onK_tf ?_ | refine w_onK_ft ?_ | refine w_onK_tt ?_ | refine w_onK_ff ?_ | refine w_gld_tt ?_ | refine w_gld_ff ?_ | refine w_gld_tf ?_ | refine w_gld_ft ?_ | refine w_gldN_tt ?_ | refine w_gldN_ff ?_ | refine w_gldN_tf ?_ | refine w_gldN_ft ?_ | refine w_gB_tt ?_ | refine w_gB_ff ?_ | refine w_bind un_not ?_ | refine w_cond_t ?_ | refine w_cond_f ?_ | refine w_bind gV_u ?_ | refine w_bind gB_u ?_ | refine w_gld_u ?_)
        refine wp_eq (tour_New_e18_0_eq _ _ H) ?_
        exact nodes s H hs h
  refine size 16 1 H2 (by omega) (by omega) (by omega) ?_
  unfold tourP
  have h3 := ts_nil 1 encI h2
  exact h3.to
abbrev encP1 (b : Nat) : List Value := [vp b]
instance : Enc encP1 1 := ⟨fun _ => rfl, fun _ => rfl, by omega⟩
theorem queue_new (n w : Int) : Sp n_queue_New [vi n, vi w] emp (fun b : Nat => vp b) (fun _ => emp) := by
  refine sp_of fun R H h => ?_
  refine wp_of (fun r => queue_New_of _ _ H) ?_
  refine w_bind (max_i) ?_
  refine w_bind (min_i) ?_
  obtain ⟨k, hk⟩ : ∃ k : Nat, min (max n 1) 16 = k := ⟨(min (max n 1) 16).toNat, by omega⟩
  rw [hk]
  have hk16 : k ≤ 16 := by omega
  refine w_call h (tour_new k) fun tb H1 h1 => ?_
  refine w_S ?_
  refine w_newC h1 fun q H2 h2 => ?_
  refine wp_eq (queue_New_k0_eq _ _ _ _ H2) ?_
  refine wp_eq (queue_New_k2_eq _ _ _ _ _ H2) ?_
  have loop : ∀ (d i : Nat) (nv : Value) (m : List Nat) (H : AH), i + d = k → m.length = i → Holds (blk q (.cells false [nv, vp tb]) * ts 1 encP1 nv m * R) H → wp (queue_New_k4 (vi w) (.pointer none) (vp q) (vi k) (vi i) H) fun v' H' => ∃ b : Nat, v' = vp b ∧ Holds (emp * R) H' := by
    intro d
    induction d with
    | zero =>
      intro i nv m H hi hm h
      refine wp_eq (queue_New_k4_eq _ _ _ _ _ H) ?_
      refine w_bind (lss_f (by omega)) ?_
      with_reducible repeat (first | refine w_bind (pick_t _ _) ?_ | refine w_bind (pick_f _ _) ?_ | refine w_bind gV_tt ?_ | refine w_bind gV_ff ?_ | refine w_bind gV_tf ?_ | refine w_bind gV_ft ?_ | refine w_bind gB_tf ?_ | refine w_bind gB_ft ?_ | refine w_gE_tf ?_ | refine w_gE_ft ?_ | refine w_gE_tt ?_ | refine w_gE_ff ?_ | refine w_onK_tf ?_ | refine w_onK_ft ?_ | refine w_onK_tt ?_ | refine w_onK_ff ?_ | refine w_gld_tt ?_ | refine w_gld_ff ?_ | refine w_gld_tf ?_ | refine w_gld_ft ?_ | refine w_gldN_tt ?_ | refine w_gldN_ff ?_ | refine w_gldN_tf ?_ | refine w_gldN_ft ?_ | refine w_gB_tt ?_ | refine w_gB_ff ?_ | refine w_bind un_not ?_ | refine w_cond_t ?_ | refine w_cond_f ?_ | refine w_bind gV_u ?_ | refine w_bind gB_u ?_ | refine w_gld_u ?_)
      refine wp_eq (queue_New_e3_0_eq _ _ H) ?_
      refine wp_eq (queue_New_k1_eq _ _ H) ?_
      exact w_ret ⟨q, rfl, h.to⟩
    | succ d ih =>
      intro i nv m H hi hm h
      refine wp_eq (queue_New_k4_eq _ _ _ _ _ H) ?_
      refine w_bind (lss_t (by omega)) ?_
      with_reducible repeat (first | refine w_bind (pick_t _ _) ?_ | refine w_bind (pick_f _ _) ?_ | refine w_bind gV_tt ?_ | refine w_bind gV_ff ?_ | refine w_bind gV_tf ?_ | refine w_bind gV_ft ?_ | refine w_bind gB_tf ?_ | refine w_bind gB_ft ?_ | refine w_gE_tf ?_ | refine w_gE_ft ?_ | refine w_gE_tt ?_ | refine w_gE_ff ?_ | refine w_onK_tf ?_ | refine w_onK_ft ?_ | refine w_onK_tt ?_ | refine w_onK_ff ?_ | refine w_gld_tt ?_ | refine w_gld_ff ?_ | refine w_gld_tf ?_ | refine w_gld_ft ?_ | refine w_gldN_tt ?_ | refine w_gldN_ff ?_ | refine w_gldN_tf ?_ | refine w_gldN_ft ?_ | refine w_gB_tt ?_ | refine w_gB_ff ?_ | refine w_bind un_not ?_ | refine w_cond_t ?_ | refine w_cond_f ?_ | refine w_bind gV_u ?_ | refine w_bind gB_u ?_ | refine w_gld_u ?_)
      refine wp_eq (queue_New_k5_eq _ _ _ _ _ H) ?_
      refine w_ad end_nf ?_
      refine w_Ld1 h rfl ?_
      refine w_call h (shard_new w) fun sb H3 h3 => ?_
      refine w_eq1 h3 h rfl ?_
      refine w_R h3 fun b0 H4 h4 => ?_
      refine w_tapp (sb : Nat) h4 rfl ?_ (by omega) fun a c H5 h5 => ?_
      · unfold room; omega
      refine w_st h5 end_nf rfl rfl fun H6 h6 => ?_
      refine wp_eq (queue_New_k6_eq _ _ _ _ _ H6) ?_
      refine w_bind (bin_add_i (by omega) (by omega)) ?_
      exact ih (i + 1) (.slice a (m.length + 1) c) (m ++ [sb]) H6 (by omega) (by simp; omega) h6.to
  refine loop k 0 (.slice none 0 0) [] H2 (by omega) rfl ?_
  have h3 := ts_nil 1 encP1 h2
  exact h3.to
theorem core_new (c : Cfg) : Sp n_core_New [.agg (Cfg.cells c).toArray] emp (fun b : Nat => vp b) (fun _ => emp) := by
  refine sp_of fun R H h => ?_
  refine wp_of (fun r => core_New_of _ H) ?_
  refine w_newC h fun cb H1 h1 => ?_
  refine w_ld h1 end_f0 rfl ?_
  refine w_ld h1 end_f0 rfl ?_
  refine w_call h1 (queue_new c.sh c.wd) fun q H2 h2 => ?_
  refine w_map h2 fun mb H3 h3 => ?_
  refine w_map h3 fun mc H4 h4 => ?_
  refine w_S ?_
  refine w_newC h4 fun b H5 h5 => ?_
  exact w_ret ⟨b, rfl, h5.to⟩
theorem bin_rem_i {cl : TCls} {a b : Nat} (h : b ≠ 0) : pBin cl .rem (vi a) (vi b) = some (vi ((a % b : Nat) : Int)) := by
  simp only [pBin, pInt, if_true]
  rw [if_neg (by omega)]
  have h1 : (a : Int).tmod (b : Int) = ((a % b : Nat) : Int) := (Int.ofNat_tmod a b).symm
  rw [h1]
theorem remu_l {cl : TCls} {w : Nat} (n : Nat) (h : n ≠ 0) : pBin cl .rem (vu w) (.int .u64 (n : Int)) = some (vu (w % n)) := bin_rem_u h

/-! ### A config that is right -/
theorem config_end (b b2 : Nat) (c : Cfg) (u : Nat) (hu : 1 ≤ u ∧ u ≤ 4611686018427387904) {R : SP} {H : AH} (h : Holds (blk b2 (.cells false [vi 0, vi 0, vi 0, vi 0, vw 0]) * (blk b (.cells false (Cfg.cells c)) * R)) H) :
    wp (play_Config_k1 (vp b) (vp b2) (vu u) H) fun v' H' => ∃ c' : Cfg, v' = .agg (Cfg.cells c').toArray ∧ Holds (pu (rightB c' = true) * R) H' := by
  refine wp_eq (play_Config_k1_eq _ _ _ H) ?_
  refine w_ld h end_f0 rfl ?_
  refine w_call h (play_mod c.sh 4 (by omega) (by omega)) fun _ H1 h1 => ?_
  have m1 := modI_lt (v := c.sh) (n := 4) (by omega)
  refine w_bind (bin_add_i (by omega) (by omega)) ?_
  refine w_ad end_f0 ?_
  refine w_Ld1 h1 rfl ?_
  refine w_eq1 h h1 rfl ?_
  refine w_call h1 (play_mod c.sl 4 (by omega) (by omega)) fun _ H2 h2 => ?_
  have m2 := modI_lt (v := c.sl) (n := 4) (by omega)
  refine w_bind (bin_add_i (by omega) (by omega)) ?_
  refine w_ad end_f0 ?_
  refine w_Ld1 h2 rfl ?_
  refine w_eq1 h h2 rfl ?_
  refine w_eq1 h1 h2 rfl ?_
  refine w_call h2 (play_mod c.wk 6 (by omega) (by omega)) fun _ H3 h3 => ?_
  have m3 := modI_lt (v := c.wk) (n := 6) (by omega)
  refine w_bind (bin_add_i (by omega) (by omega)) ?_
  refine w_ad end_f0 ?_
  refine w_Ld1 h3 rfl ?_
  refine w_eq1 h h3 rfl ?_
  refine w_eq1 h1 h3 rfl ?_
  refine w_eq1 h2 h3 rfl ?_
  refine w_call h3 (play_mod c.wd 12 (by omega) (by omega)) fun _ H4 h4 => ?_
  have m4 := modI_lt (v := c.wd) (n := 12) (by omega)
  refine w_S ?_
  refine w_St h4 rfl rfl fun H5 h5 => ?_
  refine w_LdN h5 ?_
  refine w_ret ⟨⟨1 + modI c.sh 4, 1 + modI c.sl 4, 1 + modI c.wk 6, modI c.wd 12, u⟩, rfl, ?_⟩
  exact Holds.pu.2 ⟨rightB_iff.2 (by dsimp only; omega), h5.to⟩
theorem play_config (c : Cfg) : Sp n_play_Config [.agg (Cfg.cells c).toArray] emp (fun c' : Cfg => .agg (Cfg.cells c').toArray) (fun c' => pu (rightB c' = true)) := by
  refine sp_of fun R H h => ?_
  rw [emp_sep] at h
  refine wp_of (fun r => play_Config_of _ H) ?_
  refine w_newC h fun b H1 h1 => ?_
  refine w_new h1 fun b2 H2 h2 => ?_
  refine w_ld h2 end_f0 rfl ?_
  refine w_bind (remu_l 5000 (by omega)) ?_
  refine w_bind (bin_add_u (a := 1) (by omega)) ?_
  refine wp_eq (play_Config_k0_eq _ _ _ H2) ?_
  refine w_ld h2 end_f0 rfl ?_
  refine w_bind (remu_l 4 (by omega)) ?_
  refine w_bind (bin_eql) ?_
  refine w_cond (fun _ => ?_) (fun _ => ?_)
  · refine w_ld h2 end_f0 rfl ?_
    refine w_bind (remu_l 4611686018427387904 (by omega)) ?_
    have hm := Nat.mod_lt c.un (show 4611686018427387904 > 0 by omega)
    generalize c.un % 4611686018427387904 = u at hm
    refine w_bind (bin_add_u (a := 1) (by omega)) ?_
    exact config_end b b2 c _ (by omega) h2
  · have hm := Nat.mod_lt c.un (show 5000 > 0 by omega)
    exact config_end b b2 c _ (by omega) h2

/-! ### A call -/
section
variable {R : SP} {H : AH}
theorem call_end {b2 b3 : Nat} {y y2 : Cl} {P : SP} (h : Holds (blk b3 (.cells false (Cl.cells y)) * (blk b2 (.cells false (Cl.cells y2)) * P)) H) : wp (play_Call_k1 (vp b2) (vp b3) H) fun v' H' => ∃ y : Cl, v' = .agg (Cl.cells y).toArray ∧ Holds P H' := by
  refine wp_eq (play_Call_k1_eq _ _ H) ?_
  refine w_LdN h ?_
  refine w_St h rfl rfl fun H2 h2 => ?_
  refine w_LdN h2 ?_
  exact w_ret ⟨y, rfl, h2.to⟩
end
theorem play_call (x : Cl) : Sp n_play_Call [.agg (Cl.cells x).toArray] emp (fun y : Cl => .agg (Cl.cells y).toArray) (fun _ => emp) := by
  refine sp_of fun R H h => ?_
  rw [emp_sep] at h
  refine wp_of (fun r => play_Call_of _ H) ?_
  refine w_newC h fun b1 H1 h1 => ?_
  refine w_new h1 fun b2 H2 h2 => ?_
  refine w_ld h2 end_f0 rfl ?_
  refine w_call h2 (play_mod x.flow 23 (by omega) (by omega)) fun _ H3 h3 => ?_
  simp only [emp_sep]
  refine w_bind (bin_eql) ?_
  refine w_cond (fun _ => ?_) (fun _ => ?_)
  · refine w_LdN h3 ?_
    refine w_St h3 rfl rfl fun H4 h4 => ?_
    refine w_LdN h4 ?_
    exact w_ret ⟨x, rfl, h4.to⟩
  refine w_ld h3 end_f0 rfl ?_
  refine w_call h3 (play_mod x.flow 5 (by omega) (by omega)) fun _ H4 h4 => ?_
  refine w_S ?_
  refine w_new h4 fun b3 H5 h5 => ?_
  refine w_St h5 rfl rfl fun H6 h6 => ?_
  -- what each kind ends with
  have fin : ∀ (y : Cl) {H7 : AH}, Holds (blk b3 (.cells false (Cl.cells y)) * (blk b2 (.cells false (Cl.cells ⟨0, 0, 0, 0⟩)) * R)) H7 → wp (play_Call_k1 (vp b2) (vp b3) H7) fun v' H' => ∃ y : Cl, v' = .agg (Cl.cells y).toArray ∧ Holds R H' := fun y {H7} h7 => call_end (y2 := ⟨0, 0, 0, 0⟩) h7
  refine wp_eq (play_Call_k0_eq _ _ _ H6) ?_
  refine w_ld h6 end_f0 rfl ?_
  refine w_call h6 (play_mod x.op 10 (by omega) (by omega)) fun _ H7 h7 => ?_
  generalize modI x.op 10 = o
  refine wp_eq (play_Call_k5_eq _ _ _ _ H7) ?_
  refine w_bind (bin_eql) ?_
  refine wp_eq (play_Call_k7_eq _ _ _ _ _ H7) ?_
  refine w_cond (fun _ => ?_) (fun _ => ?_)
  · refine w_ld h7 end_f0 rfl ?_
    refine w_call h7 (play_mod x.a 5 (by omega) (by omega)) fun _ H8 h8 => ?_
    have m1 := modI_lt (v := x.a) (n := 5) (by omega)
    refine w_bind (bin_add_i (by omega) (by omega)) ?_
    refine w_ad end_f0 ?_
    refine w_Ld1 h8 rfl ?_
    refine w_eq1 h7 h8 rfl ?_
    refine w_call h8 (play_mod x.b 3 (by omega) (by omega)) fun _ H9 h9 => ?_
    have m2 := modI_lt (v := x.b) (n := 3) (by omega)
    refine w_bind (bin_add_i (by omega) (by omega)) ?_
    refine w_st h9 end_f0 rfl rfl fun H10 h10 => ?_
    refine w_st h10 end_f0 rfl rfl fun H11 h11 => ?_
    refine w_st h11 end_f0 rfl rfl fun H12 h12 => ?_
    exact fin ⟨1, modI x.flow 5, 1 + modI x.a 5, 1 + modI x.b 3⟩ h12.to
  refine w_bind (bin_eql) ?_
  refine wp_eq (play_Call_k18_eq _ _ _ _ _ H7) ?_
  refine w_cond (fun _ => ?_) (fun _ => ?_)
  · refine w_st h7 end_f0 rfl rfl fun H8 h8 => ?_
    exact fin ⟨2, modI x.flow 5, 0, 0⟩ h8.to
  have tail : ∀ q : Bool, wp (play_Call_k20 (vp b1) (vp b2) (vp b3) (vi o) (vb q) H7) fun v' H' => ∃ y : Cl, v' = .agg (Cl.cells y).toArray ∧ Holds R H' := by
    intro q
    refine wp_eq (play_Call_k20_eq _ _ _ _ _ H7) ?_
    refine w_cond (fun _ => ?_) (fun _ => ?_)
    · refine w_S ?_
      refine w_St h7 rfl rfl fun H8 h8 => ?_
      exact fin ⟨4, 0, 0, 0⟩ h8.to
    refine w_bind (bin_eql) ?_
    refine w_cond (fun _ => ?_) (fun _ => ?_)
    · refine w_ld h7 end_f0 rfl ?_
      refine w_call h7 (play_mod x.a 6 (by omega) (by omega)) fun _ H8 h8 => ?_
      refine w_S ?_
      refine w_St h8 rfl rfl fun H9 h9 => ?_
      exact fin ⟨5, 0, modI x.a 6, 0⟩ h9.to
    refine w_bind (bin_eql) ?_
    refine w_cond (fun _ => ?_) (fun _ => ?_)
    · refine w_S ?_
      refine w_St h7 rfl rfl fun H8 h8 => ?_
      exact fin ⟨6, 0, 0, 0⟩ h8.to
    refine w_ld h7 end_f0 rfl ?_
    refine w_call h7 (play_mod x.a 9 (by omega) (by omega)) fun _ H8 h8 => ?_
    have m1 := modI_lt (v := x.a) (n := 9) (by omega)
    refine w_bind (bin_add_i (by omega) (by omega)) ?_
    refine w_ad end_f0 ?_
    refine w_Ld1 h8 rfl ?_
    refine w_eq1 h7 h8 rfl ?_
    refine w_call h8 (play_mod x.b 1000 (by omega) (by omega)) fun _ H9 h9 => ?_
    refine w_st h9 end_f0 rfl rfl fun H10 h10 => ?_
    refine w_st h10 end_f0 rfl rfl fun H11 h11 => ?_
    refine w_st h11 end_f0 rfl rfl fun H12 h12 => ?_
    refine w_ld h12 end_f0 rfl ?_
    refine w_call h12 (play_mod x.a 13 (by omega) (by omega)) fun _ H13 h13 => ?_
    refine w_bind (bin_eql) ?_
    refine w_cond (fun _ => ?_) (fun _ => ?_)
    · refine w_ld h13 end_f0 rfl ?_
      refine w_call h13 (play_mod x.a 65536 (by omega) (by omega)) fun _ H14 h14 => ?_
      have m2 := modI_lt (v := x.a) (n := 65536) (by omega)
      refine w_bind (bin_add_i (by omega) (by omega)) ?_
      refine w_st h14 end_f0 rfl rfl fun H15 h15 => ?_
      exact fin ⟨3, modI x.flow 5, 1 + modI x.a 65536, modI x.b 1000⟩ h15.to
    · exact fin ⟨3, modI x.flow 5, 1 + modI x.a 9, modI x.b 1000⟩ h13.to
  refine w_bind (bin_eql) ?_
  refine w_cond (fun _ => tail _) (fun _ => ?_)
  refine w_bind (bin_eql) ?_
  exact tail _

end Go.Proofs.YtodpbobjmkhcfaaGreatDoor.Gst
