/- The statement on rounds of all workers, of the abstract run. -/
import Derived.Test.YtbjelopcelompaaGreatDoorQe
namespace Go.Proofs.YtbjelopcelompaaGreatDoor.Gst
open Go Go.RowKit
set_option linter.unusedSimpArgs false
set_option linter.unusedVariables false
set_option maxHeartbeats 1000000

theorem modI_small {v n : Int} (h0 : 0 ≤ v) (h1 : v < 18446744073709551616) : modI v n = v % n := by
  unfold modI
  rw [Int.emod_eq_of_lt h0 h1]
theorem turns_tail {H0 : AH} (hT : H0.get 0 = some (.cells true tabC)) {n : Nat} (hn0 : 0 < n) (hn : n ≤ 6) (os : List Int) (hos : os.length ≤ 12) (x4 : Value) {x6 : Value} {H : AH} (h : Holds (ts 1 encI x6 (rounds n os) * fix H0) H) :
    wp (l29_PaceTurns_k1 x4 (vi n) x6 H) fun v' _ => v' = vb true := by
  haveI := args_tab hT
  have hlen : (rounds n os).length < 1099511627776 := by
    rw [rounds_len]
    have : os.length * n ≤ 12 * 6 := Nat.mul_le_mul hos hn
    omega
  refine wp_eq (l29_PaceTurns_k1_eq _ _ _ H) ?_
  refine w_awake h fun H1 h1 => ?_
  repeat (first
    | with_reducible refine w_bind (pick_t _ _) ?_
    | with_reducible refine w_bind (pick_f _ _) ?_
    | with_reducible refine w_bind gV_tt ?_
    | with_reducible refine w_bind gV_ff ?_
    | with_reducible refine w_bind gV_tf ?_
    | with_reducible refine w_bind gV_ft ?_
    | with_reducible refine w_bind gB_tf ?_
    | with_reducible refine w_bind gB_ft ?_
    | with_reducible refine w_gE_tf ?_
    | with_reducible refine w_gE_ft ?_
    | with_reducible refine w_gE_tt ?_
    | with_reducible refine w_gE_ff ?_
    | with_reducible refine w_onK_tf ?_
    | with_reducible refine w_onK_ft ?_
    | with_reducible refine w_onK_tt ?_
    | with_reducible refine w_onK_ff ?_
    | with_reducible refine w_gld_tt ?_
    | with_reducible refine w_gld_ff ?_
    | with_reducible refine w_gld_tf ?_
    | with_reducible refine w_gld_ft ?_
    | with_reducible refine w_gldN_tt ?_
    | with_reducible refine w_gldN_ff ?_
    | with_reducible refine w_gldN_tf ?_
    | with_reducible refine w_gldN_ft ?_
    | with_reducible refine w_gB_tt ?_
    | with_reducible refine w_gB_ff ?_
    | with_reducible refine w_bind un_not ?_
    | with_reducible refine w_cond_t ?_
    | with_reducible refine w_cond_f ?_
    | with_reducible refine w_bind gV_u ?_
    | with_reducible refine w_bind gB_u ?_
    | with_reducible refine w_gld_u ?_)
  rw [Bool.not_true]
  repeat (first
    | with_reducible refine w_bind (pick_t _ _) ?_
    | with_reducible refine w_bind (pick_f _ _) ?_
    | with_reducible refine w_bind gV_tt ?_
    | with_reducible refine w_bind gV_ff ?_
    | with_reducible refine w_bind gV_tf ?_
    | with_reducible refine w_bind gV_ft ?_
    | with_reducible refine w_bind gB_tf ?_
    | with_reducible refine w_bind gB_ft ?_
    | with_reducible refine w_gE_tf ?_
    | with_reducible refine w_gE_ft ?_
    | with_reducible refine w_gE_tt ?_
    | with_reducible refine w_gE_ff ?_
    | with_reducible refine w_onK_tf ?_
    | with_reducible refine w_onK_ft ?_
    | with_reducible refine w_onK_tt ?_
    | with_reducible refine w_onK_ff ?_
    | with_reducible refine w_gld_tt ?_
    | with_reducible refine w_gld_ff ?_
    | with_reducible refine w_gld_tf ?_
    | with_reducible refine w_gld_ft ?_
    | with_reducible refine w_gldN_tt ?_
    | with_reducible refine w_gldN_ff ?_
    | with_reducible refine w_gldN_tf ?_
    | with_reducible refine w_gldN_ft ?_
    | with_reducible refine w_gB_tt ?_
    | with_reducible refine w_gB_ff ?_
    | with_reducible refine w_bind un_not ?_
    | with_reducible refine w_cond_t ?_
    | with_reducible refine w_cond_f ?_
    | with_reducible refine w_bind gV_u ?_
    | with_reducible refine w_bind gB_u ?_
    | with_reducible refine w_gld_u ?_)
  refine w_bind (bin_mul_i (by omega) (by omega)) ?_
  repeat (first
    | with_reducible refine w_bind (pick_t _ _) ?_
    | with_reducible refine w_bind (pick_f _ _) ?_
    | with_reducible refine w_bind gV_tt ?_
    | with_reducible refine w_bind gV_ff ?_
    | with_reducible refine w_bind gV_tf ?_
    | with_reducible refine w_bind gV_ft ?_
    | with_reducible refine w_bind gB_tf ?_
    | with_reducible refine w_bind gB_ft ?_
    | with_reducible refine w_gE_tf ?_
    | with_reducible refine w_gE_ft ?_
    | with_reducible refine w_gE_tt ?_
    | with_reducible refine w_gE_ff ?_
    | with_reducible refine w_onK_tf ?_
    | with_reducible refine w_onK_ft ?_
    | with_reducible refine w_onK_tt ?_
    | with_reducible refine w_onK_ff ?_
    | with_reducible refine w_gld_tt ?_
    | with_reducible refine w_gld_ff ?_
    | with_reducible refine w_gld_tf ?_
    | with_reducible refine w_gld_ft ?_
    | with_reducible refine w_gldN_tt ?_
    | with_reducible refine w_gldN_ff ?_
    | with_reducible refine w_gldN_tf ?_
    | with_reducible refine w_gldN_ft ?_
    | with_reducible refine w_gB_tt ?_
    | with_reducible refine w_gB_ff ?_
    | with_reducible refine w_bind un_not ?_
    | with_reducible refine w_cond_t ?_
    | with_reducible refine w_cond_f ?_
    | with_reducible refine w_bind gV_u ?_
    | with_reducible refine w_bind gB_u ?_
    | with_reducible refine w_gld_u ?_)
  refine w_bind (bin_sub_i (by omega) (by omega)) ?_
  repeat (first
    | with_reducible refine w_bind (pick_t _ _) ?_
    | with_reducible refine w_bind (pick_f _ _) ?_
    | with_reducible refine w_bind gV_tt ?_
    | with_reducible refine w_bind gV_ff ?_
    | with_reducible refine w_bind gV_tf ?_
    | with_reducible refine w_bind gV_ft ?_
    | with_reducible refine w_bind gB_tf ?_
    | with_reducible refine w_bind gB_ft ?_
    | with_reducible refine w_gE_tf ?_
    | with_reducible refine w_gE_ft ?_
    | with_reducible refine w_gE_tt ?_
    | with_reducible refine w_gE_ff ?_
    | with_reducible refine w_onK_tf ?_
    | with_reducible refine w_onK_ft ?_
    | with_reducible refine w_onK_tt ?_
    | with_reducible refine w_onK_ff ?_
    | with_reducible refine w_gld_tt ?_
    | with_reducible refine w_gld_ff ?_
    | with_reducible refine w_gld_tf ?_
    | with_reducible refine w_gld_ft ?_
    | with_reducible refine w_gldN_tt ?_
    | with_reducible refine w_gldN_ff ?_
    | with_reducible refine w_gldN_tf ?_
    | with_reducible refine w_gldN_ft ?_
    | with_reducible refine w_gB_tt ?_
    | with_reducible refine w_gB_ff ?_
    | with_reducible refine w_bind un_not ?_
    | with_reducible refine w_cond_t ?_
    | with_reducible refine w_cond_f ?_
    | with_reducible refine w_bind gV_u ?_
    | with_reducible refine w_bind gB_u ?_
    | with_reducible refine w_gld_u ?_)
  refine w_ro h1 (pace_even (s := x6) (l := rounds n os) hlen n (2 * n - 1)) fun H2 h2 => ?_
  rw [evenB_iff.2 (rounds_even hn0 os (by omega) (by omega))]
  repeat (first
    | with_reducible refine w_bind (pick_t _ _) ?_
    | with_reducible refine w_bind (pick_f _ _) ?_
    | with_reducible refine w_bind gV_tt ?_
    | with_reducible refine w_bind gV_ff ?_
    | with_reducible refine w_bind gV_tf ?_
    | with_reducible refine w_bind gV_ft ?_
    | with_reducible refine w_bind gB_tf ?_
    | with_reducible refine w_bind gB_ft ?_
    | with_reducible refine w_gE_tf ?_
    | with_reducible refine w_gE_ft ?_
    | with_reducible refine w_gE_tt ?_
    | with_reducible refine w_gE_ff ?_
    | with_reducible refine w_onK_tf ?_
    | with_reducible refine w_onK_ft ?_
    | with_reducible refine w_onK_tt ?_
    | with_reducible refine w_onK_ff ?_
    | with_reducible refine w_gld_tt ?_
    | with_reducible refine w_gld_ff ?_
    | with_reducible refine w_gld_tf ?_
    | with_reducible refine w_gld_ft ?_
    | with_reducible refine w_gldN_tt ?_
    | with_reducible refine w_gldN_ff ?_
    | with_reducible refine w_gldN_tf ?_
    | with_reducible refine w_gldN_ft ?_
    | with_reducible refine w_gB_tt ?_
    | with_reducible refine w_gB_ff ?_
    | with_reducible refine w_bind un_not ?_
    | with_reducible refine w_cond_t ?_
    | with_reducible refine w_cond_f ?_
    | with_reducible refine w_bind gV_u ?_
    | with_reducible refine w_bind gB_u ?_
    | with_reducible refine w_gld_u ?_)
  rw [Bool.not_true]
  repeat (first
    | with_reducible refine w_bind (pick_t _ _) ?_
    | with_reducible refine w_bind (pick_f _ _) ?_
    | with_reducible refine w_bind gV_tt ?_
    | with_reducible refine w_bind gV_ff ?_
    | with_reducible refine w_bind gV_tf ?_
    | with_reducible refine w_bind gV_ft ?_
    | with_reducible refine w_bind gB_tf ?_
    | with_reducible refine w_bind gB_ft ?_
    | with_reducible refine w_gE_tf ?_
    | with_reducible refine w_gE_ft ?_
    | with_reducible refine w_gE_tt ?_
    | with_reducible refine w_gE_ff ?_
    | with_reducible refine w_onK_tf ?_
    | with_reducible refine w_onK_ft ?_
    | with_reducible refine w_onK_tt ?_
    | with_reducible refine w_onK_ff ?_
    | with_reducible refine w_gld_tt ?_
    | with_reducible refine w_gld_ff ?_
    | with_reducible refine w_gld_tf ?_
    | with_reducible refine w_gld_ft ?_
    | with_reducible refine w_gldN_tt ?_
    | with_reducible refine w_gldN_ff ?_
    | with_reducible refine w_gldN_tf ?_
    | with_reducible refine w_gldN_ft ?_
    | with_reducible refine w_gB_tt ?_
    | with_reducible refine w_gB_ff ?_
    | with_reducible refine w_bind un_not ?_
    | with_reducible refine w_cond_t ?_
    | with_reducible refine w_cond_f ?_
    | with_reducible refine w_bind gV_u ?_
    | with_reducible refine w_bind gB_u ?_
    | with_reducible refine w_gld_u ?_)
  refine w_bind (bin_mul_i (by omega) (by omega)) ?_
  repeat (first
    | with_reducible refine w_bind (pick_t _ _) ?_
    | with_reducible refine w_bind (pick_f _ _) ?_
    | with_reducible refine w_bind gV_tt ?_
    | with_reducible refine w_bind gV_ff ?_
    | with_reducible refine w_bind gV_tf ?_
    | with_reducible refine w_bind gV_ft ?_
    | with_reducible refine w_bind gB_tf ?_
    | with_reducible refine w_bind gB_ft ?_
    | with_reducible refine w_gE_tf ?_
    | with_reducible refine w_gE_ft ?_
    | with_reducible refine w_gE_tt ?_
    | with_reducible refine w_gE_ff ?_
    | with_reducible refine w_onK_tf ?_
    | with_reducible refine w_onK_ft ?_
    | with_reducible refine w_onK_tt ?_
    | with_reducible refine w_onK_ff ?_
    | with_reducible refine w_gld_tt ?_
    | with_reducible refine w_gld_ff ?_
    | with_reducible refine w_gld_tf ?_
    | with_reducible refine w_gld_ft ?_
    | with_reducible refine w_gldN_tt ?_
    | with_reducible refine w_gldN_ff ?_
    | with_reducible refine w_gldN_tf ?_
    | with_reducible refine w_gldN_ft ?_
    | with_reducible refine w_gB_tt ?_
    | with_reducible refine w_gB_ff ?_
    | with_reducible refine w_bind un_not ?_
    | with_reducible refine w_cond_t ?_
    | with_reducible refine w_cond_f ?_
    | with_reducible refine w_bind gV_u ?_
    | with_reducible refine w_bind gB_u ?_
    | with_reducible refine w_gld_u ?_)
  refine w_bind (bin_add_i (by omega) (by omega)) ?_
  repeat (first
    | with_reducible refine w_bind (pick_t _ _) ?_
    | with_reducible refine w_bind (pick_f _ _) ?_
    | with_reducible refine w_bind gV_tt ?_
    | with_reducible refine w_bind gV_ff ?_
    | with_reducible refine w_bind gV_tf ?_
    | with_reducible refine w_bind gV_ft ?_
    | with_reducible refine w_bind gB_tf ?_
    | with_reducible refine w_bind gB_ft ?_
    | with_reducible refine w_gE_tf ?_
    | with_reducible refine w_gE_ft ?_
    | with_reducible refine w_gE_tt ?_
    | with_reducible refine w_gE_ff ?_
    | with_reducible refine w_onK_tf ?_
    | with_reducible refine w_onK_ft ?_
    | with_reducible refine w_onK_tt ?_
    | with_reducible refine w_onK_ff ?_
    | with_reducible refine w_gld_tt ?_
    | with_reducible refine w_gld_ff ?_
    | with_reducible refine w_gld_tf ?_
    | with_reducible refine w_gld_ft ?_
    | with_reducible refine w_gldN_tt ?_
    | with_reducible refine w_gldN_ff ?_
    | with_reducible refine w_gldN_tf ?_
    | with_reducible refine w_gldN_ft ?_
    | with_reducible refine w_gB_tt ?_
    | with_reducible refine w_gB_ff ?_
    | with_reducible refine w_bind un_not ?_
    | with_reducible refine w_cond_t ?_
    | with_reducible refine w_cond_f ?_
    | with_reducible refine w_bind gV_u ?_
    | with_reducible refine w_bind gB_u ?_
    | with_reducible refine w_gld_u ?_)
  refine w_ro h2 (pace_even (s := x6) (l := rounds n os) hlen n (2 * n + 3)) fun H3 h3 => ?_
  rw [evenB_iff.2 (rounds_even hn0 os (by omega) (by omega))]
  repeat (first
    | with_reducible refine w_bind (pick_t _ _) ?_
    | with_reducible refine w_bind (pick_f _ _) ?_
    | with_reducible refine w_bind gV_tt ?_
    | with_reducible refine w_bind gV_ff ?_
    | with_reducible refine w_bind gV_tf ?_
    | with_reducible refine w_bind gV_ft ?_
    | with_reducible refine w_bind gB_tf ?_
    | with_reducible refine w_bind gB_ft ?_
    | with_reducible refine w_gE_tf ?_
    | with_reducible refine w_gE_ft ?_
    | with_reducible refine w_gE_tt ?_
    | with_reducible refine w_gE_ff ?_
    | with_reducible refine w_onK_tf ?_
    | with_reducible refine w_onK_ft ?_
    | with_reducible refine w_onK_tt ?_
    | with_reducible refine w_onK_ff ?_
    | with_reducible refine w_gld_tt ?_
    | with_reducible refine w_gld_ff ?_
    | with_reducible refine w_gld_tf ?_
    | with_reducible refine w_gld_ft ?_
    | with_reducible refine w_gldN_tt ?_
    | with_reducible refine w_gldN_ff ?_
    | with_reducible refine w_gldN_tf ?_
    | with_reducible refine w_gldN_ft ?_
    | with_reducible refine w_gB_tt ?_
    | with_reducible refine w_gB_ff ?_
    | with_reducible refine w_bind un_not ?_
    | with_reducible refine w_cond_t ?_
    | with_reducible refine w_cond_f ?_
    | with_reducible refine w_bind gV_u ?_
    | with_reducible refine w_bind gB_u ?_
    | with_reducible refine w_gld_u ?_)
  rw [Bool.not_true]
  repeat (first
    | with_reducible refine w_bind (pick_t _ _) ?_
    | with_reducible refine w_bind (pick_f _ _) ?_
    | with_reducible refine w_bind gV_tt ?_
    | with_reducible refine w_bind gV_ff ?_
    | with_reducible refine w_bind gV_tf ?_
    | with_reducible refine w_bind gV_ft ?_
    | with_reducible refine w_bind gB_tf ?_
    | with_reducible refine w_bind gB_ft ?_
    | with_reducible refine w_gE_tf ?_
    | with_reducible refine w_gE_ft ?_
    | with_reducible refine w_gE_tt ?_
    | with_reducible refine w_gE_ff ?_
    | with_reducible refine w_onK_tf ?_
    | with_reducible refine w_onK_ft ?_
    | with_reducible refine w_onK_tt ?_
    | with_reducible refine w_onK_ff ?_
    | with_reducible refine w_gld_tt ?_
    | with_reducible refine w_gld_ff ?_
    | with_reducible refine w_gld_tf ?_
    | with_reducible refine w_gld_ft ?_
    | with_reducible refine w_gldN_tt ?_
    | with_reducible refine w_gldN_ff ?_
    | with_reducible refine w_gldN_tf ?_
    | with_reducible refine w_gldN_ft ?_
    | with_reducible refine w_gB_tt ?_
    | with_reducible refine w_gB_ff ?_
    | with_reducible refine w_bind un_not ?_
    | with_reducible refine w_cond_t ?_
    | with_reducible refine w_cond_f ?_
    | with_reducible refine w_bind gV_u ?_
    | with_reducible refine w_bind gB_u ?_
    | with_reducible refine w_gld_u ?_)
  refine w_bind (bin_sub_i (by omega) (by omega)) ?_
  repeat (first
    | with_reducible refine w_bind (pick_t _ _) ?_
    | with_reducible refine w_bind (pick_f _ _) ?_
    | with_reducible refine w_bind gV_tt ?_
    | with_reducible refine w_bind gV_ff ?_
    | with_reducible refine w_bind gV_tf ?_
    | with_reducible refine w_bind gV_ft ?_
    | with_reducible refine w_bind gB_tf ?_
    | with_reducible refine w_bind gB_ft ?_
    | with_reducible refine w_gE_tf ?_
    | with_reducible refine w_gE_ft ?_
    | with_reducible refine w_gE_tt ?_
    | with_reducible refine w_gE_ff ?_
    | with_reducible refine w_onK_tf ?_
    | with_reducible refine w_onK_ft ?_
    | with_reducible refine w_onK_tt ?_
    | with_reducible refine w_onK_ff ?_
    | with_reducible refine w_gld_tt ?_
    | with_reducible refine w_gld_ff ?_
    | with_reducible refine w_gld_tf ?_
    | with_reducible refine w_gld_ft ?_
    | with_reducible refine w_gldN_tt ?_
    | with_reducible refine w_gldN_ff ?_
    | with_reducible refine w_gldN_tf ?_
    | with_reducible refine w_gldN_ft ?_
    | with_reducible refine w_gB_tt ?_
    | with_reducible refine w_gB_ff ?_
    | with_reducible refine w_bind un_not ?_
    | with_reducible refine w_cond_t ?_
    | with_reducible refine w_cond_f ?_
    | with_reducible refine w_bind gV_u ?_
    | with_reducible refine w_bind gB_u ?_
    | with_reducible refine w_gld_u ?_)
  refine w_bind (bin_mul_i (by omega) (by omega)) ?_
  repeat (first
    | with_reducible refine w_bind (pick_t _ _) ?_
    | with_reducible refine w_bind (pick_f _ _) ?_
    | with_reducible refine w_bind gV_tt ?_
    | with_reducible refine w_bind gV_ff ?_
    | with_reducible refine w_bind gV_tf ?_
    | with_reducible refine w_bind gV_ft ?_
    | with_reducible refine w_bind gB_tf ?_
    | with_reducible refine w_bind gB_ft ?_
    | with_reducible refine w_gE_tf ?_
    | with_reducible refine w_gE_ft ?_
    | with_reducible refine w_gE_tt ?_
    | with_reducible refine w_gE_ff ?_
    | with_reducible refine w_onK_tf ?_
    | with_reducible refine w_onK_ft ?_
    | with_reducible refine w_onK_tt ?_
    | with_reducible refine w_onK_ff ?_
    | with_reducible refine w_gld_tt ?_
    | with_reducible refine w_gld_ff ?_
    | with_reducible refine w_gld_tf ?_
    | with_reducible refine w_gld_ft ?_
    | with_reducible refine w_gldN_tt ?_
    | with_reducible refine w_gldN_ff ?_
    | with_reducible refine w_gldN_tf ?_
    | with_reducible refine w_gldN_ft ?_
    | with_reducible refine w_gB_tt ?_
    | with_reducible refine w_gB_ff ?_
    | with_reducible refine w_bind un_not ?_
    | with_reducible refine w_cond_t ?_
    | with_reducible refine w_cond_f ?_
    | with_reducible refine w_bind gV_u ?_
    | with_reducible refine w_bind gB_u ?_
    | with_reducible refine w_gld_u ?_)
  refine w_bind (bin_sub_i (by omega) (by omega)) ?_
  repeat (first
    | with_reducible refine w_bind (pick_t _ _) ?_
    | with_reducible refine w_bind (pick_f _ _) ?_
    | with_reducible refine w_bind gV_tt ?_
    | with_reducible refine w_bind gV_ff ?_
    | with_reducible refine w_bind gV_tf ?_
    | with_reducible refine w_bind gV_ft ?_
    | with_reducible refine w_bind gB_tf ?_
    | with_reducible refine w_bind gB_ft ?_
    | with_reducible refine w_gE_tf ?_
    | with_reducible refine w_gE_ft ?_
    | with_reducible refine w_gE_tt ?_
    | with_reducible refine w_gE_ff ?_
    | with_reducible refine w_onK_tf ?_
    | with_reducible refine w_onK_ft ?_
    | with_reducible refine w_onK_tt ?_
    | with_reducible refine w_onK_ff ?_
    | with_reducible refine w_gld_tt ?_
    | with_reducible refine w_gld_ff ?_
    | with_reducible refine w_gld_tf ?_
    | with_reducible refine w_gld_ft ?_
    | with_reducible refine w_gldN_tt ?_
    | with_reducible refine w_gldN_ff ?_
    | with_reducible refine w_gldN_tf ?_
    | with_reducible refine w_gldN_ft ?_
    | with_reducible refine w_gB_tt ?_
    | with_reducible refine w_gB_ff ?_
    | with_reducible refine w_bind un_not ?_
    | with_reducible refine w_cond_t ?_
    | with_reducible refine w_cond_f ?_
    | with_reducible refine w_bind gV_u ?_
    | with_reducible refine w_bind gB_u ?_
    | with_reducible refine w_gld_u ?_)
  refine w_ro h3 (pace_even (s := x6) (l := rounds n os) hlen (n - 1) (2 * n - 1)) fun H4 h4 => ?_
  rw [evenB_iff.2 (rounds_even hn0 os (by omega) (by omega))]
  repeat (first
    | with_reducible refine w_bind (pick_t _ _) ?_
    | with_reducible refine w_bind (pick_f _ _) ?_
    | with_reducible refine w_bind gV_tt ?_
    | with_reducible refine w_bind gV_ff ?_
    | with_reducible refine w_bind gV_tf ?_
    | with_reducible refine w_bind gV_ft ?_
    | with_reducible refine w_bind gB_tf ?_
    | with_reducible refine w_bind gB_ft ?_
    | with_reducible refine w_gE_tf ?_
    | with_reducible refine w_gE_ft ?_
    | with_reducible refine w_gE_tt ?_
    | with_reducible refine w_gE_ff ?_
    | with_reducible refine w_onK_tf ?_
    | with_reducible refine w_onK_ft ?_
    | with_reducible refine w_onK_tt ?_
    | with_reducible refine w_onK_ff ?_
    | with_reducible refine w_gld_tt ?_
    | with_reducible refine w_gld_ff ?_
    | with_reducible refine w_gld_tf ?_
    | with_reducible refine w_gld_ft ?_
    | with_reducible refine w_gldN_tt ?_
    | with_reducible refine w_gldN_ff ?_
    | with_reducible refine w_gldN_tf ?_
    | with_reducible refine w_gldN_ft ?_
    | with_reducible refine w_gB_tt ?_
    | with_reducible refine w_gB_ff ?_
    | with_reducible refine w_bind un_not ?_
    | with_reducible refine w_cond_t ?_
    | with_reducible refine w_cond_f ?_
    | with_reducible refine w_bind gV_u ?_
    | with_reducible refine w_bind gB_u ?_
    | with_reducible refine w_gld_u ?_)
  rw [Bool.not_true]
  repeat (first
    | with_reducible refine w_bind (pick_t _ _) ?_
    | with_reducible refine w_bind (pick_f _ _) ?_
    | with_reducible refine w_bind gV_tt ?_
    | with_reducible refine w_bind gV_ff ?_
    | with_reducible refine w_bind gV_tf ?_
    | with_reducible refine w_bind gV_ft ?_
    | with_reducible refine w_bind gB_tf ?_
    | with_reducible refine w_bind gB_ft ?_
    | with_reducible refine w_gE_tf ?_
    | with_reducible refine w_gE_ft ?_
    | with_reducible refine w_gE_tt ?_
    | with_reducible refine w_gE_ff ?_
    | with_reducible refine w_onK_tf ?_
    | with_reducible refine w_onK_ft ?_
    | with_reducible refine w_onK_tt ?_
    | with_reducible refine w_onK_ff ?_
    | with_reducible refine w_gld_tt ?_
    | with_reducible refine w_gld_ff ?_
    | with_reducible refine w_gld_tf ?_
    | with_reducible refine w_gld_ft ?_
    | with_reducible refine w_gldN_tt ?_
    | with_reducible refine w_gldN_ff ?_
    | with_reducible refine w_gldN_tf ?_
    | with_reducible refine w_gldN_ft ?_
    | with_reducible refine w_gB_tt ?_
    | with_reducible refine w_gB_ff ?_
    | with_reducible refine w_bind un_not ?_
    | with_reducible refine w_cond_t ?_
    | with_reducible refine w_cond_f ?_
    | with_reducible refine w_bind gV_u ?_
    | with_reducible refine w_bind gB_u ?_
    | with_reducible refine w_gld_u ?_)
  refine w_bind (bin_add_i (by omega) (by omega)) ?_
  refine w_bind (bin_mul_i (by omega) (by omega)) ?_
  refine w_bind (bin_sub_i (by omega) (by omega)) ?_
  refine w_ro h4 (pace_even (s := x6) (l := rounds n os) hlen (n + 1) (2 * n - 1)) fun H5 h5 => ?_
  refine w_rlen (l := rounds n os) h5 ?_
  refine w_bind (bin_mul_i (by omega) (by omega)) ?_
  refine w_bind (bin_sub_i (by omega) (by omega)) ?_
  refine w_bind (bin_lss) ?_
  have e : evenB (rounds n os) (n + 1) (2 * n - 1) = decide (((rounds n os).length : Int) < 2 * n - 1) := by
    by_cases hs : ((rounds n os).length : Int) < 2 * n - 1
    · rw [decide_eq_true hs]
      exact evenB_iff.2 (rounds_short hn0 os (by omega) (by omega))
    · rw [decide_eq_false hs]
      exact evenB_of ⟨fun h => (by cases h), fun h => absurd h (rounds_not hn0 os (by omega) (by omega))⟩
  rw [e]
  refine w_bind (bin_eqb) ?_
  rw [beq_self_eq_true]
  exact w_ret rfl

theorem paceTurns {H0 : AH} {v : Value} {l : List Int} (hT : H0.get 0 = some (.cells true tabC)) (hl : Abs H0 (.slice (.int .i64)) l [v]) (w : Int) : ∃ H', FF n_l29_PaceTurns [vi w, v] H0 = some (vb true, H') := by
  have key : wp (FF n_l29_PaceTurns [vi w, v] H0) fun v' _ => v' = vb true := by
    haveI := args_ints hl
    refine wp_of (fun r => l29_PaceTurns_of _ _ H0) ?_
    have h0 := fix_holds H0
    refine w_call (by assumption) (play_mod w 6 (by omega) (by omega)) fun _ _ _ => ?_
    have h6 := modI_lt (v := w) (n := 6) (by omega)
    refine w_bind (bin_add_i (by omega) (by omega)) ?_
    obtain ⟨n, hn⟩ : ∃ n : Nat, 1 + modI w 6 = n := ⟨(1 + modI w 6).toNat, by omega⟩
    rw [hn]
    have hn0 : 0 < n := by omega
    have hn6 : n ≤ 6 := by omega
    rename_i H1 hH1
    have h1 : Holds (ts 1 encI (.slice none 0 0) (rounds n []) * fix H0) H1 := ts_nil 1 encI hH1.to
    refine wp_eq (l29_PaceTurns_k0_eq _ _ _ _ H1) ?_
    refine wp_eq (l29_PaceTurns_k38_eq _ _ _ _ _ H1) ?_
    have loop : ∀ (d i : Nat) (x6 : Value) (os : List Int) (H : AH), i + d = min l.length 12 → os.length = i → Holds (ts 1 encI x6 (rounds n os) * fix H0) H → wp (l29_PaceTurns_k40 v (vb false) (vi n) x6 (vi i) H) fun v' _ => v' = vb true := by
      intro d
      induction d with
      | zero =>
        intro i x6 os H hi hos h
        refine wp_eq (l29_PaceTurns_k40_eq _ _ _ _ _ H) ?_
        refine w_rlen (s := v) (l := l) h ?_
        have stop : wp (l29_PaceTurns_e39_0 (vb false) (vi n) x6 H) fun v' _ => v' = vb true := by
          refine wp_eq (l29_PaceTurns_e39_0_eq _ _ _ H) ?_
          exact turns_tail hT hn0 hn6 os (by omega) _ h
        by_cases hil : (i : Int) < l.length
        · refine w_bind (lss_t hil) ?_
          repeat (first
            | with_reducible refine w_bind (pick_t _ _) ?_
            | with_reducible refine w_bind (pick_f _ _) ?_
            | with_reducible refine w_bind gV_tt ?_
            | with_reducible refine w_bind gV_ff ?_
            | with_reducible refine w_bind gV_tf ?_
            | with_reducible refine w_bind gV_ft ?_
            | with_reducible refine w_bind gB_tf ?_
            | with_reducible refine w_bind gB_ft ?_
            | with_reducible refine w_gE_tf ?_
            | with_reducible refine w_gE_ft ?_
            | with_reducible refine w_gE_tt ?_
            | with_reducible refine w_gE_ff ?_
            | with_reducible refine w_onK_tf ?_
            | with_reducible refine w_onK_ft ?_
            | with_reducible refine w_onK_tt ?_
            | with_reducible refine w_onK_ff ?_
            | with_reducible refine w_gld_tt ?_
            | with_reducible refine w_gld_ff ?_
            | with_reducible refine w_gld_tf ?_
            | with_reducible refine w_gld_ft ?_
            | with_reducible refine w_gldN_tt ?_
            | with_reducible refine w_gldN_ff ?_
            | with_reducible refine w_gldN_tf ?_
            | with_reducible refine w_gldN_ft ?_
            | with_reducible refine w_gB_tt ?_
            | with_reducible refine w_gB_ff ?_
            | with_reducible refine w_bind un_not ?_
            | with_reducible refine w_cond_t ?_
            | with_reducible refine w_cond_f ?_
            | with_reducible refine w_bind gV_u ?_
            | with_reducible refine w_bind gB_u ?_
            | with_reducible refine w_gld_u ?_)
          refine w_bind (lss_f (by omega)) ?_
          repeat (first
            | with_reducible refine w_bind (pick_t _ _) ?_
            | with_reducible refine w_bind (pick_f _ _) ?_
            | with_reducible refine w_bind gV_tt ?_
            | with_reducible refine w_bind gV_ff ?_
            | with_reducible refine w_bind gV_tf ?_
            | with_reducible refine w_bind gV_ft ?_
            | with_reducible refine w_bind gB_tf ?_
            | with_reducible refine w_bind gB_ft ?_
            | with_reducible refine w_gE_tf ?_
            | with_reducible refine w_gE_ft ?_
            | with_reducible refine w_gE_tt ?_
            | with_reducible refine w_gE_ff ?_
            | with_reducible refine w_onK_tf ?_
            | with_reducible refine w_onK_ft ?_
            | with_reducible refine w_onK_tt ?_
            | with_reducible refine w_onK_ff ?_
            | with_reducible refine w_gld_tt ?_
            | with_reducible refine w_gld_ff ?_
            | with_reducible refine w_gld_tf ?_
            | with_reducible refine w_gld_ft ?_
            | with_reducible refine w_gldN_tt ?_
            | with_reducible refine w_gldN_ff ?_
            | with_reducible refine w_gldN_tf ?_
            | with_reducible refine w_gldN_ft ?_
            | with_reducible refine w_gB_tt ?_
            | with_reducible refine w_gB_ff ?_
            | with_reducible refine w_bind un_not ?_
            | with_reducible refine w_cond_t ?_
            | with_reducible refine w_cond_f ?_
            | with_reducible refine w_bind gV_u ?_
            | with_reducible refine w_bind gB_u ?_
            | with_reducible refine w_gld_u ?_)
          exact stop
        · refine w_bind (lss_f hil) ?_
          repeat (first
            | with_reducible refine w_bind (pick_t _ _) ?_
            | with_reducible refine w_bind (pick_f _ _) ?_
            | with_reducible refine w_bind gV_tt ?_
            | with_reducible refine w_bind gV_ff ?_
            | with_reducible refine w_bind gV_tf ?_
            | with_reducible refine w_bind gV_ft ?_
            | with_reducible refine w_bind gB_tf ?_
            | with_reducible refine w_bind gB_ft ?_
            | with_reducible refine w_gE_tf ?_
            | with_reducible refine w_gE_ft ?_
            | with_reducible refine w_gE_tt ?_
            | with_reducible refine w_gE_ff ?_
            | with_reducible refine w_onK_tf ?_
            | with_reducible refine w_onK_ft ?_
            | with_reducible refine w_onK_tt ?_
            | with_reducible refine w_onK_ff ?_
            | with_reducible refine w_gld_tt ?_
            | with_reducible refine w_gld_ff ?_
            | with_reducible refine w_gld_tf ?_
            | with_reducible refine w_gld_ft ?_
            | with_reducible refine w_gldN_tt ?_
            | with_reducible refine w_gldN_ff ?_
            | with_reducible refine w_gldN_tf ?_
            | with_reducible refine w_gldN_ft ?_
            | with_reducible refine w_gB_tt ?_
            | with_reducible refine w_gB_ff ?_
            | with_reducible refine w_bind un_not ?_
            | with_reducible refine w_cond_t ?_
            | with_reducible refine w_cond_f ?_
            | with_reducible refine w_bind gV_u ?_
            | with_reducible refine w_bind gB_u ?_
            | with_reducible refine w_gld_u ?_)
          exact stop
      | succ d ih =>
        intro i x6 os H hi hos h
        have hil : i < l.length := by omega
        refine wp_eq (l29_PaceTurns_k40_eq _ _ _ _ _ H) ?_
        refine w_rlen (s := v) (l := l) h ?_
        refine w_bind (lss_t (by omega)) ?_
        repeat (first
          | with_reducible refine w_bind (pick_t _ _) ?_
          | with_reducible refine w_bind (pick_f _ _) ?_
          | with_reducible refine w_bind gV_tt ?_
          | with_reducible refine w_bind gV_ff ?_
          | with_reducible refine w_bind gV_tf ?_
          | with_reducible refine w_bind gV_ft ?_
          | with_reducible refine w_bind gB_tf ?_
          | with_reducible refine w_bind gB_ft ?_
          | with_reducible refine w_gE_tf ?_
          | with_reducible refine w_gE_ft ?_
          | with_reducible refine w_gE_tt ?_
          | with_reducible refine w_gE_ff ?_
          | with_reducible refine w_onK_tf ?_
          | with_reducible refine w_onK_ft ?_
          | with_reducible refine w_onK_tt ?_
          | with_reducible refine w_onK_ff ?_
          | with_reducible refine w_gld_tt ?_
          | with_reducible refine w_gld_ff ?_
          | with_reducible refine w_gld_tf ?_
          | with_reducible refine w_gld_ft ?_
          | with_reducible refine w_gldN_tt ?_
          | with_reducible refine w_gldN_ff ?_
          | with_reducible refine w_gldN_tf ?_
          | with_reducible refine w_gldN_ft ?_
          | with_reducible refine w_gB_tt ?_
          | with_reducible refine w_gB_ff ?_
          | with_reducible refine w_bind un_not ?_
          | with_reducible refine w_cond_t ?_
          | with_reducible refine w_cond_f ?_
          | with_reducible refine w_bind gV_u ?_
          | with_reducible refine w_bind gB_u ?_
          | with_reducible refine w_gld_u ?_)
        refine w_bind (lss_t (by omega)) ?_
        repeat (first
          | with_reducible refine w_bind (pick_t _ _) ?_
          | with_reducible refine w_bind (pick_f _ _) ?_
          | with_reducible refine w_bind gV_tt ?_
          | with_reducible refine w_bind gV_ff ?_
          | with_reducible refine w_bind gV_tf ?_
          | with_reducible refine w_bind gV_ft ?_
          | with_reducible refine w_bind gB_tf ?_
          | with_reducible refine w_bind gB_ft ?_
          | with_reducible refine w_gE_tf ?_
          | with_reducible refine w_gE_ft ?_
          | with_reducible refine w_gE_tt ?_
          | with_reducible refine w_gE_ff ?_
          | with_reducible refine w_onK_tf ?_
          | with_reducible refine w_onK_ft ?_
          | with_reducible refine w_onK_tt ?_
          | with_reducible refine w_onK_ff ?_
          | with_reducible refine w_gld_tt ?_
          | with_reducible refine w_gld_ff ?_
          | with_reducible refine w_gld_tf ?_
          | with_reducible refine w_gld_ft ?_
          | with_reducible refine w_gldN_tt ?_
          | with_reducible refine w_gldN_ff ?_
          | with_reducible refine w_gldN_tf ?_
          | with_reducible refine w_gldN_ft ?_
          | with_reducible refine w_gB_tt ?_
          | with_reducible refine w_gB_ff ?_
          | with_reducible refine w_bind un_not ?_
          | with_reducible refine w_cond_t ?_
          | with_reducible refine w_cond_f ?_
          | with_reducible refine w_bind gV_u ?_
          | with_reducible refine w_bind gB_u ?_
          | with_reducible refine w_gld_u ?_)
        refine wp_eq (l29_PaceTurns_k41_eq _ _ _ _ _ H) ?_
        refine wp_eq (l29_PaceTurns_k45_eq _ _ _ _ _ _ H) ?_
        have ho := modI_lt (v := l[i]) (n := n) (by omega)
        have hrl : (rounds n os).length ≤ 72 := by
          rw [rounds_len]
          exact Nat.mul_le_mul (by omega : os.length ≤ 12) hn6
        have inner : ∀ (e k : Nat) (x6 : Value) (H : AH), k + e = n → Holds (ts 1 encI x6 (rounds n os ++ (List.range k).map fun k : Nat => ((((k : Int) + modI l[i] n) % (n : Int)) : Int)) * fix H0) H →
            wp (l29_PaceTurns_k47 v (vb false) (vi n) x6 (vi i) (vi k) H) fun v' _ => v' = vb true := by
          intro e
          induction e with
          | zero =>
            intro k x6 H hk h
            refine wp_eq (l29_PaceTurns_k47_eq _ _ _ _ _ _ H) ?_
            refine w_bind (lss_f (by omega)) ?_
            repeat (first
              | with_reducible refine w_bind (pick_t _ _) ?_
              | with_reducible refine w_bind (pick_f _ _) ?_
              | with_reducible refine w_bind gV_tt ?_
              | with_reducible refine w_bind gV_ff ?_
              | with_reducible refine w_bind gV_tf ?_
              | with_reducible refine w_bind gV_ft ?_
              | with_reducible refine w_bind gB_tf ?_
              | with_reducible refine w_bind gB_ft ?_
              | with_reducible refine w_gE_tf ?_
              | with_reducible refine w_gE_ft ?_
              | with_reducible refine w_gE_tt ?_
              | with_reducible refine w_gE_ff ?_
              | with_reducible refine w_onK_tf ?_
              | with_reducible refine w_onK_ft ?_
              | with_reducible refine w_onK_tt ?_
              | with_reducible refine w_onK_ff ?_
              | with_reducible refine w_gld_tt ?_
              | with_reducible refine w_gld_ff ?_
              | with_reducible refine w_gld_tf ?_
              | with_reducible refine w_gld_ft ?_
              | with_reducible refine w_gldN_tt ?_
              | with_reducible refine w_gldN_ff ?_
              | with_reducible refine w_gldN_tf ?_
              | with_reducible refine w_gldN_ft ?_
              | with_reducible refine w_gB_tt ?_
              | with_reducible refine w_gB_ff ?_
              | with_reducible refine w_bind un_not ?_
              | with_reducible refine w_cond_t ?_
              | with_reducible refine w_cond_f ?_
              | with_reducible refine w_bind gV_u ?_
              | with_reducible refine w_bind gB_u ?_
              | with_reducible refine w_gld_u ?_)
            refine wp_eq (l29_PaceTurns_e46_2_eq _ _ _ _ _ H) ?_
            refine wp_eq (l29_PaceTurns_k42_eq _ _ _ _ _ H) ?_
            refine w_bind (bin_add_i (by omega) (by omega)) ?_
            have : k = n := by omega
            subst this
            rw [← rounds_snoc] at h
            exact ih (i + 1) x6 (os ++ [modI l[i] k]) H (by omega) (by simp; omega) h
          | succ e ihe =>
            intro k x6 H hk h
            refine wp_eq (l29_PaceTurns_k47_eq _ _ _ _ _ _ H) ?_
            refine w_bind (lss_t (by omega)) ?_
            repeat (first
              | with_reducible refine w_bind (pick_t _ _) ?_
              | with_reducible refine w_bind (pick_f _ _) ?_
              | with_reducible refine w_bind gV_tt ?_
              | with_reducible refine w_bind gV_ff ?_
              | with_reducible refine w_bind gV_tf ?_
              | with_reducible refine w_bind gV_ft ?_
              | with_reducible refine w_bind gB_tf ?_
              | with_reducible refine w_bind gB_ft ?_
              | with_reducible refine w_gE_tf ?_
              | with_reducible refine w_gE_ft ?_
              | with_reducible refine w_gE_tt ?_
              | with_reducible refine w_gE_ff ?_
              | with_reducible refine w_onK_tf ?_
              | with_reducible refine w_onK_ft ?_
              | with_reducible refine w_onK_tt ?_
              | with_reducible refine w_onK_ff ?_
              | with_reducible refine w_gld_tt ?_
              | with_reducible refine w_gld_ff ?_
              | with_reducible refine w_gld_tf ?_
              | with_reducible refine w_gld_ft ?_
              | with_reducible refine w_gldN_tt ?_
              | with_reducible refine w_gldN_ff ?_
              | with_reducible refine w_gldN_tf ?_
              | with_reducible refine w_gldN_ft ?_
              | with_reducible refine w_gB_tt ?_
              | with_reducible refine w_gB_ff ?_
              | with_reducible refine w_bind un_not ?_
              | with_reducible refine w_cond_t ?_
              | with_reducible refine w_cond_f ?_
              | with_reducible refine w_bind gV_u ?_
              | with_reducible refine w_bind gB_u ?_
              | with_reducible refine w_gld_u ?_)
            refine wp_eq (l29_PaceTurns_k48_eq _ _ _ _ _ _ H) ?_
            refine w_rld1 (s := v) (l := l) h hil rfl ?_
            refine w_call (by assumption) (play_mod l[i] n (by omega) (by omega)) fun _ _ _ => ?_
            refine w_bind (bin_add_i (by omega) (by omega)) ?_
            refine w_call (by assumption) (play_mod (k + modI l[i] n) n (by omega) (by omega)) fun _ _ _ => ?_
            rw [modI_small (by omega) (by omega)]
            repeat (first
              | refine w_newC (by assumption) fun _ _ _ => ?_
              | refine w_new (by assumption) fun _ _ _ => ?_
              | refine w_map (by assumption) fun _ _ _ => ?_
              | refine w_LdN (by assumption) ?_
              | refine w_ld (by assumption) end_nf rfl ?_
              | refine w_ld (by assumption) end_f0 rfl ?_
              | refine w_ldN (by assumption) end_nf ?_
              | refine w_ldN (by assumption) end_f0 ?_
              | refine w_ad end_nf ?_
              | refine w_ad end_f0 ?_
              | refine w_Ld1 (by assumption) rfl ?_
              | refine w_st (by assumption) end_nf rfl rfl fun _ _ => ?_
              | refine w_st (by assumption) end_f0 rfl rfl fun _ _ => ?_
              | refine w_St (by assumption) rfl rfl fun _ _ => ?_
              | refine w_S ?_
              | refine w_R (by assumption) fun _ _ _ => ?_
              | refine w_eqK_rfl ?_
              | refine w_eq1 (by assumption) (by assumption) rfl ?_
              | refine w_eqN (by assumption) (by assumption) rfl ?_
              | refine w_len ?_)
            generalize hm : (rounds n os ++ (List.range k).map fun k : Nat => ((((k : Int) + modI l[i] n) % (n : Int)) : Int)) = m at *
            have hml : m.length ≤ 90 := by rw [← hm, List.length_append, List.length_map, List.length_range]; omega
            refine w_tapp (((k : Int) + modI l[i] n) % (n : Int)) (by assumption) rfl ?_ (by omega) fun a c H2 h2 => ?_
            · unfold room; omega
            refine wp_eq (l29_PaceTurns_k49_eq _ _ _ _ _ _ H2) ?_
            refine w_bind (bin_add_i (by omega) (by omega)) ?_
            refine ihe (k + 1) _ H2 (by omega) ?_
            rw [List.range_succ, List.map_append, ← List.append_assoc, hm]
            exact Holds.to (A := ts 1 encI (.slice a (m.length + 1) c) (m ++ [((k : Int) + modI l[i] n) % (n : Int)]) * fix H0) h2
        refine inner n 0 x6 H (by omega) ?_
        rw [List.range_zero, List.map_nil, List.append_nil]
        exact h
    exact loop (min l.length 12) 0 _ [] H1 (by omega) rfl h1
  obtain ⟨v', H', e, rfl⟩ := key
  exact ⟨H', e⟩
end Go.Proofs.YtbjelopcelompaaGreatDoor.Gst
